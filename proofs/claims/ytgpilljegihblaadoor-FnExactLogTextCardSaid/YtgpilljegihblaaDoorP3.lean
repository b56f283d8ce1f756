-- Printed by wip/print (my turned copy of the kit's print) out of the translation; Lean checks it.
import Derived.Test.YtgpilljegihblaaDoorP0
import Derived.Test.YtgpilljegihblaaDoorP1
import Derived.Test.YtgpilljegihblaaDoorP2
namespace Go.Proofs.YtgpilljegihblaaDoor.P
open Go.RowKit Go.Proofs.YtgpilljegihblaaDoorW.PrintWords Go.Proofs.YtgpilljegihblaaDoorW.PrintLast Go.Proofs.YtgpilljegihblaaDoorW.PrintMore
attribute [local go_sem] max2_int min2_int max_two min_two max_three min_three max_four min_four   -- for this text's walks alone
set_option linter.unusedVariables false
set_option linter.unusedSimpArgs false

/-! ### spec_l05Text: function 25 -/
mutual
def spec_l05Text.l0 : Nat → ByteArray → Int → Int → List Int → List Int → Option (ByteArray)
  | 0, _, _, _, _, _ => none
  | k + 1, x3, x4, x1000, x1001, x1002 => if x4 < (x1001.length : Int) then (if 0 ≤ x4 then (if x4 < (x1002.length : Int) then ((spec_Decimal.f k (wrap64 (rd x1002 x4))).bind fun t208 => (if 1 + t208.size ≤ 9223372036854775807 then (if 1 + t208.size + 1 ≤ 9223372036854775807 then (if x3.size + 1 + t208.size + 1 ≤ 9223372036854775807 then ((spec_l05List.f k (rd x1001 x4)).bind fun t210 => (spec_l05Text.l1 k (x3 ++ (((⟨#[32]⟩ : ByteArray) ++ t208) ++ (⟨#[47]⟩ : ByteArray))) x4 t210 0 x1000 x1001 x1002)) else (none)) else (none)) else (none))) else (none)) else (none)) else (some x3)
def spec_l05Text.l1 : Nat → ByteArray → Int → List Int → Int → Int → List Int → List Int → Option (ByteArray)
  | 0, _, _, _, _, _, _, _ => none
  | k + 1, x3, x4, x5, x6, x1000, x1001, x1002 => if x6 < (x5.length : Int) then (if x6 > 0 then (if x3.size + 1 ≤ 9223372036854775807 then (if 0 ≤ x6 then ((spec_Decimal.f k (rd x5 x6)).bind fun t214 => (if x3.size + 1 + t214.size ≤ 9223372036854775807 then (spec_l05Text.l1 k ((x3 ++ (⟨#[44]⟩ : ByteArray)) ++ t214) x4 x5 (wrap64 (x6 + 1)) x1000 x1001 x1002) else (none))) else (none)) else (none)) else (if 0 ≤ x6 then ((spec_Decimal.f k (rd x5 x6)).bind fun t216 => (if x3.size + t216.size ≤ 9223372036854775807 then (spec_l05Text.l1 k (x3 ++ t216) x4 x5 (wrap64 (x6 + 1)) x1000 x1001 x1002) else (none))) else (none))) else (spec_l05Text.l0 k x3 (wrap64 (x4 + 1)) x1000 x1001 x1002)
end
def spec_l05Text.f (k : Nat) (a0_0 : Int) (l0_1 : List Int) (l0_2 : List Int) : Option (ByteArray) := (spec_Decimal.f k a0_0).bind fun t206 => (if t206.size + 1 ≤ 9223372036854775807 then (spec_l05Text.l0 k (t206 ++ (⟨#[58]⟩ : ByteArray)) 0 a0_0 l0_1 l0_2) else (none))
theorem spec_l05Text.mono_l : ∀ k, (∀ y0 y1 y2 y3 y4, LeO (spec_l05Text.l0 k y0 y1 y2 y3 y4) (spec_l05Text.l0 (k + 1) y0 y1 y2 y3 y4)) ∧ (∀ y0 y1 y2 y3 y4 y5 y6, LeO (spec_l05Text.l1 k y0 y1 y2 y3 y4 y5 y6) (spec_l05Text.l1 (k + 1) y0 y1 y2 y3 y4 y5 y6))
  | 0 => ⟨fun _ _ _ _ _ r h => by simp [spec_l05Text.l0] at h, fun _ _ _ _ _ _ _ r h => by simp [spec_l05Text.l1] at h⟩
  | k + 1 => by
    obtain ⟨ih0, ih1⟩ := spec_l05Text.mono_l k
    refine ⟨?_, ?_⟩
    · intro y0 y1 y2 y3 y4
      unfold spec_l05Text.l0
      repeat' first
      | (with_reducible exact ih0 _ _ _ _ _)
      | (with_reducible exact ih1 _ _ _ _ _ _ _)
      | (with_reducible exact spec_Decimal.mono _ _)
      | (with_reducible exact spec_l05List.mono _ _)
      | (with_reducible exact LeO.refl _)
      | (with_reducible exact LeO.none _)
      | (with_reducible refine LeO.ite ?_ ?_)
      | (with_reducible refine LeO.bind ?_ (fun _ => ?_))
      | exact ih0 _ _ _ _ _
      | exact ih1 _ _ _ _ _ _ _
      | exact spec_Decimal.mono _ _
      | exact spec_l05List.mono _ _
      | exact LeO.none _
      | refine LeO.ite ?_ ?_
      | refine LeO.bind ?_ (fun _ => ?_)
    · intro y0 y1 y2 y3 y4 y5 y6
      unfold spec_l05Text.l1
      repeat' first
      | (with_reducible exact ih0 _ _ _ _ _)
      | (with_reducible exact ih1 _ _ _ _ _ _ _)
      | (with_reducible exact spec_Decimal.mono _ _)
      | (with_reducible exact spec_l05List.mono _ _)
      | (with_reducible exact LeO.refl _)
      | (with_reducible exact LeO.none _)
      | (with_reducible refine LeO.ite ?_ ?_)
      | (with_reducible refine LeO.bind ?_ (fun _ => ?_))
      | exact ih0 _ _ _ _ _
      | exact ih1 _ _ _ _ _ _ _
      | exact spec_Decimal.mono _ _
      | exact spec_l05List.mono _ _
      | exact LeO.none _
      | refine LeO.ite ?_ ?_
      | refine LeO.bind ?_ (fun _ => ?_)
theorem spec_l05Text.mono : ∀ a0 a1 a2 k, LeO (spec_l05Text.f k a0 a1 a2) (spec_l05Text.f (k + 1) a0 a1 a2) := by
  intro a0 a1 a2 k
  obtain ⟨ih0, ih1⟩ := spec_l05Text.mono_l k
  unfold spec_l05Text.f
  repeat' first
      | (with_reducible exact ih0 _ _ _ _ _)
      | (with_reducible exact ih1 _ _ _ _ _ _ _)
      | (with_reducible exact spec_Decimal.mono _ _)
      | (with_reducible exact spec_l05List.mono _ _)
      | (with_reducible exact LeO.refl _)
      | (with_reducible exact LeO.none _)
      | (with_reducible refine LeO.ite ?_ ?_)
      | (with_reducible refine LeO.bind ?_ (fun _ => ?_))
      | exact ih0 _ _ _ _ _
      | exact ih1 _ _ _ _ _ _ _
      | exact spec_Decimal.mono _ _
      | exact spec_l05List.mono _ _
      | exact LeO.none _
      | refine LeO.ite ?_ ?_
      | refine LeO.bind ?_ (fun _ => ?_)
set_option maxHeartbeats 8000000 in
set_option maxRecDepth 100000 in
theorem spec_l05Text.calls (k : Nat) (b0 : Nat) (a0_0 : Int) (A0_1 : Option Addr) (c0_1 : Nat) (l0_1 : List Int) (A0_2 : Option Addr) (c0_2 : Nat) (l0_2 : List Int) (r : ByteArray) (w : World) (hr0_1 : Kd.C (Kd.int .u16) w A0_1 l0_1.length l0_1) (hc0_1 : l0_1.length ≤ c0_1) (hr0_2 : Kd.C (Kd.int .i16) w A0_2 l0_2.length l0_2) (hc0_2 : l0_2.length ≤ c0_2) (hx0 : w.heap[b0]? = some (.cells #[.int .i64 a0_0, .slice A0_1 l0_1.length c0_1, .slice A0_2 l0_2.length c0_2] 39 (0, 0))) (h : spec_l05Text.f k a0_0 l0_1 l0_2 = some r) :
    Calls Tryd.prog 25 #[.pointer (some ⟨b0, 0, none⟩)] w fun e w' => e = .returned (.string r) ∧ Below w.heap.size w w' := by
 have HR0_1 := ak hr0_1
 have HC0_1 := ak hc0_1
 clear hr0_1 hc0_1
 have HR0_2 := ak hr0_2
 have HC0_2 := ak hc0_2
 clear hr0_2 hc0_2
 have BK0 := ak hx0
 clear hx0
 have HB := ak (Below.refl w.heap.size w)
 have H : ((spec_Decimal.f k a0_0).bind fun t206 => (if t206.size + 1 ≤ 9223372036854775807 then (spec_l05Text.l0 k (t206 ++ (⟨#[58]⟩ : ByteArray)) 0 a0_0 l0_1 l0_2) else (none))) = some r := h
 clear h
 replace H := Option.bind_eq_some_iff.mp H
 obtain ⟨t206, A20, H⟩ := H
 replace H : (if t206.size + 1 ≤ 9223372036854775807 then (spec_l05Text.l0 k (t206 ++ (⟨#[58]⟩ : ByteArray)) 0 a0_0 l0_1 l0_2) else (none)) = some r := H
 have A2 := ak A20
 clear A20
 by_cases c3 : t206.size + 1 ≤ 9223372036854775807
 {
 rw [if_pos c3] at H
 have c3b0 := eq_true c3
 have c3b1 : decide (t206.size + 1 ≤ 9223372036854775807) = true := decide_eq_true c3
 try have c3b2 : (9223372036854775807 < t206.size + 1) = False := eq_false (Nat.not_lt.2 c3)
 have H' := ak H
 clear H
 have hcz4_0 : w.cell? ⟨b0, 0, none⟩ = some (.int .i64 a0_0) := (blk_cell BK0.out 0).trans rfl
 have hcz4_1 : w.cell? ⟨b0, 1, none⟩ = some (.slice A0_1 l0_1.length c0_1) := (blk_cell BK0.out 1).trans rfl
 have hcz4_2 : w.cell? ⟨b0, 2, none⟩ = some (.slice A0_2 l0_2.length c0_2) := (blk_cell BK0.out 2).trans rfl
 have hfz4_0 := blk_frozen BK0.out 0
 have hfz4_1 := blk_frozen BK0.out 1
 have hfz4_2 := blk_frozen BK0.out 2
 go_enter Tryd.func25, Tryd.ntmps25
 go_wp2_with (first | ((with_reducible refine gate_callee (f := 31) rfl ?_); refine goesL_ (some 11) rfl rfl Tryd.func31 (by kernel_rfl) rfl #[.int .i64 a0_0] rfl (by (try simp only [List.map_toArray, List.map_cons, List.map_nil]); first | done | rfl | (simp only [List.length_drop, List.length_take]; rfl)) ?_; (with_reducible refine (spec_Decimal.calls k a0_0 t206 _ A2.out).mono ?_); rintro e w5 ⟨rfl, hb⟩; refine ⟨_, rfl, ?_⟩; have n0_ := ak (blk_below (g := b0) (o := .cells #[.int .i64 a0_0, .slice A0_1 l0_1.length c0_1, .slice A0_2 l0_2.length c0_2] 39 (0, 0)) (zK BK0.out) hb); have n1_ := ak (below_step (zB HB.out) hb); clear BK0 HB; have BK0 := n0_; have HB := n1_; clear n0_ n1_; (try clear hb); (try clear hb2); (try clear hk); (try clear hi)))
 go_loopg [3, 4] k (fun kq v3 v4 w' => ∃ (x3_1 : ByteArray) (x4_1 : Int), v3 = .string x3_1 ∧ v4 = .int .i64 x4_1 ∧ Aside0 (spec_l05Text.l0 kq x3_1 x4_1 a0_0 l0_1 l0_2 = some r) ∧ Aside0 (kq ≤ k) ∧ Aside0 (w'.heap[b0]? = some (.cells #[.int .i64 a0_0, (.slice A0_1 l0_1.length c0_1), (.slice A0_2 l0_2.length c0_2)] 39 (0, 0))) ∧ Aside0 (Below w.heap.size w w'))
 case atStart => exact ⟨(t206 ++ (⟨#[58]⟩ : ByteArray)), (0), (by first | rfl | (simp; done) | (simp [*]; done)), (by first | rfl | (simp; done) | (simp [*]; done)), H', ⟨Nat.le_refl _⟩, ⟨by (with_reducible repeat (first | refine blk_drewN ?_ _ | refine blk_drew ?_ | refine blk_alloc ?_ _)); exact BK0.out⟩, ⟨by repeat (first | (with_reducible first | exact HB.out | apply below_alloc | apply pw_below_drewN | apply below_drew1 | refine below_set ?_ GE0.out) | exact HB.out)⟩⟩
 case round => (
 clear H'
 try clear c2
 try clear p2
 try clear c3
 try clear c3b0
 try clear c3b1
 try clear c3b2
 try clear hcz4_0
 try clear hcz4_1
 try clear hcz4_2
 try clear hfz4_0
 try clear hfz4_1
 try clear hfz4_2
 obtain ⟨x3_1, x4_1, rfl, rfl, HA, HK1, BK0, HB⟩ := hrel
 cases gk with
 | zero => exact absurd HA.out (by simp [spec_l05Text.l0])
 | succ k1 => (
 have H := HA.out
 clear HA
 simp only [spec_l05Text.l0] at H
 by_cases c6 : x4_1 < (l0_1.length : Int)
 {
 rw [if_pos c6] at H
 have c6b0 : decide (x4_1 < (l0_1.length : Int)) = true := decide_eq_true c6
 clear c6
 by_cases c7 : 0 ≤ x4_1
 {
 rw [if_pos c7] at H
 have c7b0 : decide (0 ≤ x4_1) = true := decide_eq_true c7
 clear c7
 by_cases c8 : x4_1 < (l0_2.length : Int)
 {
 rw [if_pos c8] at H
 have c8b0 : decide (x4_1 < (l0_2.length : Int)) = true := decide_eq_true c8
 clear c8
 replace H := Option.bind_eq_some_iff.mp H
 obtain ⟨t208, A90, H⟩ := H
 replace H : (if 1 + t208.size ≤ 9223372036854775807 then (if 1 + t208.size + 1 ≤ 9223372036854775807 then (if x3_1.size + 1 + t208.size + 1 ≤ 9223372036854775807 then ((spec_l05List.f k1 (rd l0_1 x4_1)).bind fun t210 => (spec_l05Text.l1 k1 (x3_1 ++ (((⟨#[32]⟩ : ByteArray) ++ t208) ++ (⟨#[47]⟩ : ByteArray))) x4_1 t210 0 a0_0 l0_1 l0_2)) else (none)) else (none)) else (none)) = some r := H
 have A9 := ak A90
 clear A90
 by_cases c10 : 1 + t208.size ≤ 9223372036854775807
 {
 rw [if_pos c10] at H
 have c10b0 := eq_true c10
 have c10b1 : decide (1 + t208.size ≤ 9223372036854775807) = true := decide_eq_true c10
 try have c10b2 : (9223372036854775807 < 1 + t208.size) = False := eq_false (Nat.not_lt.2 c10)
 by_cases c11 : 1 + t208.size + 1 ≤ 9223372036854775807
 {
 rw [if_pos c11] at H
 have c11b0 := eq_true c11
 have c11b1 : decide (1 + t208.size + 1 ≤ 9223372036854775807) = true := decide_eq_true c11
 try have c11b2 : (9223372036854775807 < 1 + t208.size + 1) = False := eq_false (Nat.not_lt.2 c11)
 by_cases c12 : x3_1.size + 1 + t208.size + 1 ≤ 9223372036854775807
 {
 rw [if_pos c12] at H
 have c12b0 := eq_true c12
 have c12b1 : decide (x3_1.size + 1 + t208.size + 1 ≤ 9223372036854775807) = true := decide_eq_true c12
 try have c12b2 : (9223372036854775807 < x3_1.size + 1 + t208.size + 1) = False := eq_false (Nat.not_lt.2 c12)
 replace H := Option.bind_eq_some_iff.mp H
 obtain ⟨t210, A130, H⟩ := H
 replace H : (spec_l05Text.l1 k1 (x3_1 ++ (((⟨#[32]⟩ : ByteArray) ++ t208) ++ (⟨#[47]⟩ : ByteArray))) x4_1 t210 0 a0_0 l0_1 l0_2) = some r := H
 have A13 := ak A130
 clear A130
 have H' := ak H
 clear H
 have hcz14_0 : wr.cell? ⟨b0, 0, none⟩ = some (.int .i64 a0_0) := (blk_cell BK0.out 0).trans rfl
 have hcz14_1 : wr.cell? ⟨b0, 1, none⟩ = some (.slice A0_1 l0_1.length c0_1) := (blk_cell BK0.out 1).trans rfl
 have hcz14_2 : wr.cell? ⟨b0, 2, none⟩ = some (.slice A0_2 l0_2.length c0_2) := (blk_cell BK0.out 2).trans rfl
 have hfz14_0 := blk_frozen BK0.out 0
 have hfz14_1 := blk_frozen BK0.out 1
 have hfz14_2 := blk_frozen BK0.out 2
 have p207 : 0 ≤ (x4_1 : Int) := of_decide_eq_true (by first | (with_reducible assumption) | assumption)
 have q207 : x4_1 < (l0_2.length : Int) := of_decide_eq_true (by first | (with_reducible assumption) | assumption)
 obtain ⟨ad207, e207, hx207_0⟩ := Kd.at_int HR0_2.out x4_1 p207 q207
 cases e207
 replace hx207_0 := (HB.out.cell (World.block_lt_of_cell? w _ hx207_0)).trans hx207_0
 replace p207 := eq_true p207
 replace q207 := eq_true q207
 go_wp2_with (first | ((with_reducible refine gate_callee (f := 31) rfl ?_); refine goesL_ (some 31) rfl rfl Tryd.func31 (by kernel_rfl) rfl #[.int .i64 (wrap64 (rd l0_2 x4_1))] rfl (by (try simp only [List.map_toArray, List.map_cons, List.map_nil]); first | done | rfl | (simp only [List.length_drop, List.length_take]; rfl)) ?_; (with_reducible refine (spec_Decimal.calls k1 (wrap64 (rd l0_2 x4_1)) t208 _ A9.out).mono ?_); rintro e w15 ⟨rfl, hb⟩; refine ⟨_, rfl, ?_⟩; have n0_ := ak (blk_below (g := b0) (o := .cells #[.int .i64 a0_0, .slice A0_1 l0_1.length c0_1, .slice (some ad207) l0_2.length c0_2] 39 (0, 0)) (zK BK0.out) hb); have n1_ := ak (below_step (zB HB.out) hb); clear BK0 HB; have BK0 := n0_; have HB := n1_; clear n0_ n1_; (try clear hb); (try clear hb2); (try clear hk); (try clear hi); have hcz16_0 : w15.cell? ⟨b0, 0, none⟩ = some (.int .i64 a0_0) := (blk_cell BK0.out 0).trans rfl; have hcz16_1 : w15.cell? ⟨b0, 1, none⟩ = some (.slice A0_1 l0_1.length c0_1) := (blk_cell BK0.out 1).trans rfl; have hcz16_2 : w15.cell? ⟨b0, 2, none⟩ = some (.slice (some ad207) l0_2.length c0_2) := (blk_cell BK0.out 2).trans rfl; have hfz16_0 := blk_frozen BK0.out 0; have hfz16_1 := blk_frozen BK0.out 1; have hfz16_2 := blk_frozen BK0.out 2; have p209 : 0 ≤ (x4_1 : Int) := of_decide_eq_true (by first | (with_reducible assumption) | assumption); have q209 : x4_1 < (l0_1.length : Int) := of_decide_eq_true (by first | (with_reducible assumption) | assumption); obtain ⟨ad209, e209, hx209_0⟩ := Kd.at_int HR0_1.out x4_1 p209 q209; cases e209; replace hx209_0 := (HB.out.cell (World.block_lt_of_cell? w _ hx209_0)).trans hx209_0; replace p209 := eq_true p209; replace q209 := eq_true q209) | ((with_reducible refine gate_callee (f := 39) rfl ?_); refine goesL_ (some 42) rfl rfl Tryd.func39 (by kernel_rfl) rfl #[.int .u16 (rd l0_1 x4_1)] rfl (by (try simp only [List.map_toArray, List.map_cons, List.map_nil]); first | done | rfl | (simp only [List.length_drop, List.length_take]; rfl)) ?_; (with_reducible refine (spec_l05List.calls k1 (rd l0_1 x4_1) t210 _ A13.out).mono ?_); rintro e w17 ⟨v211, rfl, ho0, hb⟩; refine ⟨_, rfl, ?_⟩; have n0_ := ak (Kd.R_lower ho0 (below_size (zB HB.out))); have n1_ := ak (blk_below (g := b0) (o := .cells #[.int .i64 a0_0, .slice (some ad209) l0_1.length c0_1, .slice (some ad207) l0_2.length c0_2] 39 (0, 0)) (zK BK0.out) hb); have n2_ := ak (below_step (zB HB.out) hb); clear BK0 HB; have HO212 := n0_; have BK0 := n1_; have HB := n2_; clear n0_ n1_ n2_; (try clear hb); (try clear hb2); (try clear hk); (try clear hi); (try clear ho0)))
 go_loopg [3, 6] k1 (fun kq v3 v6 w' => ∃ (x3_2 : ByteArray) (x6_2 : Int), v3 = .string x3_2 ∧ v6 = .int .i64 x6_2 ∧ Aside0 (spec_l05Text.l1 kq x3_2 x4_1 t210 x6_2 a0_0 l0_1 l0_2 = some r) ∧ Aside0 (kq ≤ k1) ∧ Aside0 (Kd.R (Kd.int .i64) 2 w' w.heap.size (fun _ => True) v211 t210) ∧ Aside0 (w'.heap[b0]? = some (.cells #[.int .i64 a0_0, (.slice (some ad209) l0_1.length c0_1), (.slice (some ad207) l0_2.length c0_2)] 39 (0, 0))) ∧ Aside0 (Below w.heap.size w w'))
 case atStart => exact ⟨(x3_1 ++ (((⟨#[32]⟩ : ByteArray) ++ t208) ++ (⟨#[47]⟩ : ByteArray))), (0), (by first | rfl | (simp; done) | (simp [*]; done)), (by first | rfl | (simp; done) | (simp [*]; done)), H', ⟨Nat.le_refl _⟩, ⟨by (with_reducible repeat (first | apply Kd.R_alloc | apply Kd.R_drewN | apply Kd.R_drew)); exact HO212.out⟩, ⟨by (with_reducible repeat (first | refine blk_drewN ?_ _ | refine blk_drew ?_ | refine blk_alloc ?_ _)); exact BK0.out⟩, ⟨by repeat (first | (with_reducible first | exact HB.out | apply below_alloc | apply pw_below_drewN | apply below_drew1 | refine below_set ?_ GE0.out) | exact HB.out)⟩⟩
 case round => (
 clear H'
 try clear c1
 try clear c2
 try clear p2
 try clear q2
 try clear hx2
 try clear c3
 try clear c3b0
 try clear c3b1
 try clear c3b2
 try clear c6
 try clear c6b0
 try clear p6
 try clear c7
 try clear c7b0
 try clear c8
 try clear c8b0
 try clear c10
 try clear c10b0
 try clear c10b1
 try clear c10b2
 try clear c11
 try clear c11b0
 try clear c11b1
 try clear c11b2
 try clear c12
 try clear c12b0
 try clear c12b1
 try clear c12b2
 try clear hcz14_0
 try clear hcz14_1
 try clear hcz14_2
 try clear hcz16_0
 try clear hcz16_1
 try clear hcz16_2
 try clear hcz4_0
 try clear hcz4_1
 try clear hcz4_2
 try clear hfz14_0
 try clear hfz14_1
 try clear hfz14_2
 try clear hfz16_0
 try clear hfz16_1
 try clear hfz16_2
 try clear hfz4_0
 try clear hfz4_1
 try clear hfz4_2
 try clear hx207_0
 try clear hx209_0
 try clear p2
 try clear p207
 try clear p209
 try clear q207
 try clear q209
 obtain ⟨x3_2, x6_2, rfl, rfl, HA, HK2, HO_5, BK0, HB⟩ := hrel
 cases gk with
 | zero => exact absurd HA.out (by simp [spec_l05Text.l1])
 | succ k2 => (
 have H := HA.out
 clear HA
 simp only [spec_l05Text.l1] at H
 by_cases c18 : x6_2 < (t210.length : Int)
 {
 rw [if_pos c18] at H
 have c18b0 : decide (x6_2 < (t210.length : Int)) = true := decide_eq_true c18
 clear c18
 by_cases c19 : x6_2 > 0
 {
 rw [if_pos c19] at H
 have c19b0 : decide (0 < x6_2) = true := decide_eq_true c19
 clear c19
 by_cases c20 : x3_2.size + 1 ≤ 9223372036854775807
 {
 rw [if_pos c20] at H
 have c20b0 := eq_true c20
 have c20b1 : decide (x3_2.size + 1 ≤ 9223372036854775807) = true := decide_eq_true c20
 try have c20b2 : (9223372036854775807 < x3_2.size + 1) = False := eq_false (Nat.not_lt.2 c20)
 by_cases c21 : 0 ≤ x6_2
 {
 rw [if_pos c21] at H
 have c21b0 : decide (0 ≤ x6_2) = true := decide_eq_true c21
 clear c21
 replace H := Option.bind_eq_some_iff.mp H
 obtain ⟨t214, A220, H⟩ := H
 replace H : (if x3_2.size + 1 + t214.size ≤ 9223372036854775807 then (spec_l05Text.l1 k2 ((x3_2 ++ (⟨#[44]⟩ : ByteArray)) ++ t214) x4_1 t210 (wrap64 (x6_2 + 1)) a0_0 l0_1 l0_2) else (none)) = some r := H
 have A22 := ak A220
 clear A220
 by_cases c23 : x3_2.size + 1 + t214.size ≤ 9223372036854775807
 {
 rw [if_pos c23] at H
 have c23b0 := eq_true c23
 have c23b1 : decide (x3_2.size + 1 + t214.size ≤ 9223372036854775807) = true := decide_eq_true c23
 try have c23b2 : (9223372036854775807 < x3_2.size + 1 + t214.size) = False := eq_false (Nat.not_lt.2 c23)
 have H' := ak H
 clear H
 obtain ⟨Ao24, co24, eo24⟩ := Kd.R_slice HO_5.out
 subst eo24
 have p213 : 0 ≤ (x6_2 : Int) := of_decide_eq_true (by first | (with_reducible assumption) | assumption)
 have q213 : x6_2 < (t210.length : Int) := of_decide_eq_true (by first | (with_reducible assumption) | assumption)
 obtain ⟨ad213, e213, hx213_0⟩ := Kd.at_int (Kd.R_reads' HO_5.out).2.2 x6_2 p213 q213
 cases e213
 replace p213 := eq_true p213
 replace q213 := eq_true q213
 go_wp2_with (first | ((with_reducible refine gate_callee (f := 31) rfl ?_); refine goesL_ (some 58) rfl rfl Tryd.func31 (by kernel_rfl) rfl #[.int .i64 (rd t210 x6_2)] rfl (by (try simp only [List.map_toArray, List.map_cons, List.map_nil]); first | done | rfl | (simp only [List.length_drop, List.length_take]; rfl)) ?_; (with_reducible refine (spec_Decimal.calls k2 (rd t210 x6_2) t214 _ A22.out).mono ?_); rintro e w25 ⟨rfl, hb⟩; refine ⟨_, rfl, ?_⟩; have n0_ := ak (Kd.R_below (zR HO_5.out) hb); have n1_ := ak (blk_below (g := b0) (o := .cells #[.int .i64 a0_0, .slice (some ad209) l0_1.length c0_1, .slice (some ad207) l0_2.length c0_2] 39 (0, 0)) (zK BK0.out) hb); have n2_ := ak (below_step (zB HB.out) hb); clear HO_5 BK0 HB; have HO_5 := n0_; have BK0 := n1_; have HB := n2_; clear n0_ n1_ n2_; (try clear hb); (try clear hb2); (try clear hk); (try clear hi)))
 go_roundg k2
 case measure => have := HK1.out; have := HK2.out; omega
 case rel => exact ⟨((x3_2 ++ (⟨#[44]⟩ : ByteArray)) ++ t214), (wrap64 (x6_2 + 1)), (by first | rfl | (simp; done) | (simp [*]; done)), (by first | rfl | (simp; done) | (simp [*]; done)), H', ⟨by have := HK1.out; have := HK2.out; omega⟩, ⟨by (with_reducible repeat (first | apply Kd.R_alloc | apply Kd.R_drewN | apply Kd.R_drew)); exact HO_5.out⟩, ⟨by (with_reducible repeat (first | refine blk_drewN ?_ _ | refine blk_drew ?_ | refine blk_alloc ?_ _)); exact BK0.out⟩, ⟨by repeat (first | (with_reducible first | exact HB.out | apply below_alloc | apply pw_below_drewN | apply below_drew1 | refine below_set ?_ GE0.out) | exact HB.out)⟩⟩
 }
 · rw [if_neg c23] at H; exact absurd H (by simp)
 }
 · rw [if_neg c21] at H; exact absurd H (by simp)
 }
 · rw [if_neg c20] at H; exact absurd H (by simp)
 }
 {
 rw [if_neg c19] at H
 have c19b0 : decide (0 < x6_2) = false := decide_eq_false c19
 clear c19
 by_cases c26 : 0 ≤ x6_2
 {
 rw [if_pos c26] at H
 have c26b0 : decide (0 ≤ x6_2) = true := decide_eq_true c26
 clear c26
 replace H := Option.bind_eq_some_iff.mp H
 obtain ⟨t216, A270, H⟩ := H
 replace H : (if x3_2.size + t216.size ≤ 9223372036854775807 then (spec_l05Text.l1 k2 (x3_2 ++ t216) x4_1 t210 (wrap64 (x6_2 + 1)) a0_0 l0_1 l0_2) else (none)) = some r := H
 have A27 := ak A270
 clear A270
 by_cases c28 : x3_2.size + t216.size ≤ 9223372036854775807
 {
 rw [if_pos c28] at H
 have c28b0 := eq_true c28
 have c28b1 : decide (x3_2.size + t216.size ≤ 9223372036854775807) = true := decide_eq_true c28
 try have c28b2 : (9223372036854775807 < x3_2.size + t216.size) = False := eq_false (Nat.not_lt.2 c28)
 have H' := ak H
 clear H
 obtain ⟨Ao29, co29, eo29⟩ := Kd.R_slice HO_5.out
 subst eo29
 have p215 : 0 ≤ (x6_2 : Int) := of_decide_eq_true (by first | (with_reducible assumption) | assumption)
 have q215 : x6_2 < (t210.length : Int) := of_decide_eq_true (by first | (with_reducible assumption) | assumption)
 obtain ⟨ad215, e215, hx215_0⟩ := Kd.at_int (Kd.R_reads' HO_5.out).2.2 x6_2 p215 q215
 cases e215
 replace p215 := eq_true p215
 replace q215 := eq_true q215
 go_wp2_with (first | ((with_reducible refine gate_callee (f := 31) rfl ?_); refine goesL_ (some 58) rfl rfl Tryd.func31 (by kernel_rfl) rfl #[.int .i64 (rd t210 x6_2)] rfl (by (try simp only [List.map_toArray, List.map_cons, List.map_nil]); first | done | rfl | (simp only [List.length_drop, List.length_take]; rfl)) ?_; (with_reducible refine (spec_Decimal.calls k2 (rd t210 x6_2) t216 _ A27.out).mono ?_); rintro e w30 ⟨rfl, hb⟩; refine ⟨_, rfl, ?_⟩; have n0_ := ak (Kd.R_below (zR HO_5.out) hb); have n1_ := ak (blk_below (g := b0) (o := .cells #[.int .i64 a0_0, .slice (some ad209) l0_1.length c0_1, .slice (some ad207) l0_2.length c0_2] 39 (0, 0)) (zK BK0.out) hb); have n2_ := ak (below_step (zB HB.out) hb); clear HO_5 BK0 HB; have HO_5 := n0_; have BK0 := n1_; have HB := n2_; clear n0_ n1_ n2_; (try clear hb); (try clear hb2); (try clear hk); (try clear hi)))
 go_roundg k2
 case measure => have := HK1.out; have := HK2.out; omega
 case rel => exact ⟨(x3_2 ++ t216), (wrap64 (x6_2 + 1)), (by first | rfl | (simp; done) | (simp [*]; done)), (by first | rfl | (simp; done) | (simp [*]; done)), H', ⟨by have := HK1.out; have := HK2.out; omega⟩, ⟨by (with_reducible repeat (first | apply Kd.R_alloc | apply Kd.R_drewN | apply Kd.R_drew)); exact HO_5.out⟩, ⟨by (with_reducible repeat (first | refine blk_drewN ?_ _ | refine blk_drew ?_ | refine blk_alloc ?_ _)); exact BK0.out⟩, ⟨by repeat (first | (with_reducible first | exact HB.out | apply below_alloc | apply pw_below_drewN | apply below_drew1 | refine below_set ?_ GE0.out) | exact HB.out)⟩⟩
 }
 · rw [if_neg c28] at H; exact absurd H (by simp)
 }
 · rw [if_neg c26] at H; exact absurd H (by simp)
 }
 }
 {
 rw [if_neg c18] at H
 have c18b0 : decide (x6_2 < (t210.length : Int)) = false := decide_eq_false c18
 clear c18
 have H' := ak H
 clear H
 obtain ⟨Ao31, co31, eo31⟩ := Kd.R_slice HO_5.out
 subst eo31
 go_wp2
 go_roundg k2
 case measure => have := HK1.out; have := HK2.out; omega
 case rel => exact ⟨(x3_2), (wrap64 (x4_1 + 1)), (by first | rfl | (simp; done) | (simp [*]; done)), (by first | rfl | (simp; done) | (simp [*]; done)), H', ⟨by have := HK1.out; have := HK2.out; omega⟩, ⟨by (with_reducible repeat (first | refine blk_drewN ?_ _ | refine blk_drew ?_ | refine blk_alloc ?_ _)); exact BK0.out⟩, ⟨by repeat (first | (with_reducible first | exact HB.out | apply below_alloc | apply pw_below_drewN | apply below_drew1 | refine below_set ?_ GE0.out) | exact HB.out)⟩⟩
 }
 )
 )
 }
 · rw [if_neg c12] at H; exact absurd H (by simp)
 }
 · rw [if_neg c11] at H; exact absurd H (by simp)
 }
 · rw [if_neg c10] at H; exact absurd H (by simp)
 }
 · rw [if_neg c8] at H; exact absurd H (by simp)
 }
 · rw [if_neg c7] at H; exact absurd H (by simp)
 }
 {
 rw [if_neg c6] at H
 have c6b0 : decide (x4_1 < (l0_1.length : Int)) = false := decide_eq_false c6
 clear c6
 obtain rfl := Option.some.inj H
 have hcz32_0 : wr.cell? ⟨b0, 0, none⟩ = some (.int .i64 a0_0) := (blk_cell BK0.out 0).trans rfl
 have hcz32_1 : wr.cell? ⟨b0, 1, none⟩ = some (.slice A0_1 l0_1.length c0_1) := (blk_cell BK0.out 1).trans rfl
 have hcz32_2 : wr.cell? ⟨b0, 2, none⟩ = some (.slice A0_2 l0_2.length c0_2) := (blk_cell BK0.out 2).trans rfl
 have hfz32_0 := blk_frozen BK0.out 0
 have hfz32_1 := blk_frozen BK0.out 1
 have hfz32_2 := blk_frozen BK0.out 2
 go_wp2
 go_ret
 exact ⟨by first | rfl | (simp [errW_none, errW_some] <;> rfl) | (simp [*, errW_none, errW_some] <;> rfl), by repeat (first | (with_reducible first | exact HB.out | apply below_alloc | apply pw_below_drewN | apply below_drew1 | refine below_set ?_ GE0.out) | exact HB.out)⟩
 }
 )
 )
 }
 · rw [if_neg c3] at H; exact absurd H (by simp)
/-! ### spec_LogText: function 11 -/
def spec_LogText.f (k : Nat) (a0_0 : Int) (l0_1 : List Int) (l0_2 : List Int) : Option (ByteArray) := (spec_l05Ok.f k a0_0 l0_1 l0_2).bind fun t218 => (if t218 = true then ((spec_l05Text.f k a0_0 l0_1 l0_2).bind fun t219 => (some t219)) else (some (⟨#[]⟩ : ByteArray)))
theorem spec_LogText.mono : ∀ a0 a1 a2 k, LeO (spec_LogText.f k a0 a1 a2) (spec_LogText.f (k + 1) a0 a1 a2) := by
  intro a0 a1 a2 k
  unfold spec_LogText.f
  repeat' first
      | (with_reducible exact spec_l05Ok.mono _ _ _ _)
      | (with_reducible exact spec_l05Text.mono _ _ _ _)
      | (with_reducible exact LeO.refl _)
      | (with_reducible exact LeO.none _)
      | (with_reducible refine LeO.ite ?_ ?_)
      | (with_reducible refine LeO.bind ?_ (fun _ => ?_))
      | exact spec_l05Ok.mono _ _ _ _
      | exact spec_l05Text.mono _ _ _ _
      | exact LeO.none _
      | refine LeO.ite ?_ ?_
      | refine LeO.bind ?_ (fun _ => ?_)
set_option maxHeartbeats 8000000 in
set_option maxRecDepth 100000 in
theorem spec_LogText.calls (k : Nat) (a0_0 : Int) (A0_1 : Option Addr) (c0_1 : Nat) (l0_1 : List Int) (A0_2 : Option Addr) (c0_2 : Nat) (l0_2 : List Int) (r : ByteArray) (w : World) (hr0_1 : Kd.C (Kd.int .u16) w A0_1 l0_1.length l0_1) (hc0_1 : l0_1.length ≤ c0_1) (hr0_2 : Kd.C (Kd.int .i16) w A0_2 l0_2.length l0_2) (hc0_2 : l0_2.length ≤ c0_2) (h : spec_LogText.f k a0_0 l0_1 l0_2 = some r) :
    Calls Tryd.prog 11 #[.agg #[.int .i64 a0_0, .slice A0_1 l0_1.length c0_1, .slice A0_2 l0_2.length c0_2]] w fun e w' => e = .returned (.string r) ∧ Below w.heap.size w w' := by
 have hu39 := Tryd.underlying39
 have HR0_1 := ak hr0_1
 have HC0_1 := ak hc0_1
 clear hr0_1 hc0_1
 have HR0_2 := ak hr0_2
 have HC0_2 := ak hc0_2
 clear hr0_2 hc0_2
 have HB := ak (Below.refl w.heap.size w)
 have H : ((spec_l05Ok.f k a0_0 l0_1 l0_2).bind fun t218 => (if t218 = true then ((spec_l05Text.f k a0_0 l0_1 l0_2).bind fun t219 => (some t219)) else (some (⟨#[]⟩ : ByteArray)))) = some r := h
 clear h
 replace H := Option.bind_eq_some_iff.mp H
 obtain ⟨t218, A20, H⟩ := H
 replace H : (if t218 = true then ((spec_l05Text.f k a0_0 l0_1 l0_2).bind fun t219 => (some t219)) else (some (⟨#[]⟩ : ByteArray))) = some r := H
 have A2 := ak A20
 clear A20
 by_cases c3 : t218 = true
 {
 subst c3
 have H1 : ((spec_l05Text.f k a0_0 l0_1 l0_2).bind fun t219 => (some t219)) = some r := by rw [if_pos rfl] at H; exact H
 clear H
 have H := H1
 clear H1
 replace H := Option.bind_eq_some_iff.mp H
 obtain ⟨t219, A40, H⟩ := H
 replace H : (some t219) = some r := H
 have A4 := ak A40
 clear A40
 obtain rfl := Option.some.inj H
 go_enter Tryd.func11, Tryd.ntmps11
 go_wp2_with (first | ((with_reducible refine gate_dst (N := 1) rfl ?_); refine box_event ?hg (N := 1) ?hd (cs := #[.int .i64 a0_0, .slice A0_1 l0_1.length c0_1, .slice A0_2 l0_2.length c0_2]) (t := 39) ?hr ?_; (case hd => rfl); (case hg => rfl); (case hr => first | (go_simp; done) | (go_simp; rfl)); intro gb217 hg w5 hbox hb; have n0_ := ak (below_step (zB HB.out) hb); have n1_ := ak (hbox); have n2_ := ak ((by rw [hg]; exact (below_size (zB HB.out)) : w.heap.size ≤ gb217)); have n3_ := ak ((by rw [hg]; exact (below_size (zB HB.out)) : w.heap.size ≤ gb217)); clear HB; have HB := n0_; have BK217 := n1_; have GW217 := n2_; have GE217 := n3_; clear n0_ n1_ n2_ n3_; clear hb hbox hg) | ((with_reducible refine gate_callee (f := 24) rfl ?_); refine goesL_ (some 3) rfl rfl Tryd.func24 (by kernel_rfl) rfl #[.pointer (some ⟨gb217, 0, none⟩)] rfl (by (try simp only [List.map_toArray, List.map_cons, List.map_nil]); first | done | rfl | (simp only [List.length_drop, List.length_take]; rfl)) ?_; (with_reducible refine (spec_l05Ok.calls k gb217 a0_0 A0_1 c0_1 l0_1 A0_2 c0_2 l0_2 true _ ?side1 ?side2 ?side3 ?side4 ?side5 A2.out).mono ?_); (case side1 => repeat (first | exact (Kd.C_below HR0_1.out HB.out) | (with_reducible refine Kd.C_alloc ?_ _) | (with_reducible refine Kd.C_drewN ?_ _) | (with_reducible refine Kd.C_drew ?_))); (case side2 => exact HC0_1.out); (case side3 => repeat (first | exact (Kd.C_below HR0_2.out HB.out) | (with_reducible refine Kd.C_alloc ?_ _) | (with_reducible refine Kd.C_drewN ?_ _) | (with_reducible refine Kd.C_drew ?_))); (case side4 => exact HC0_2.out); (case side5 => exact (by first | exact BK217.out | ((with_reducible repeat (first | refine blk_drewN ?_ _ | refine blk_drew ?_ | refine blk_alloc ?_ _)); exact BK217.out))); rintro e w' ⟨rfl, ⟨nd, rfl⟩⟩; refine ⟨_, rfl, ?_⟩) | ((with_reducible refine gate_callee (f := 25) rfl ?_); refine goesL_ (some 5) rfl rfl Tryd.func25 (by kernel_rfl) rfl #[.pointer (some ⟨gb217, 0, none⟩)] rfl (by (try simp only [List.map_toArray, List.map_cons, List.map_nil]); first | done | rfl | (simp only [List.length_drop, List.length_take]; rfl)) ?_; (with_reducible refine (spec_l05Text.calls k gb217 a0_0 A0_1 c0_1 l0_1 A0_2 c0_2 l0_2 t219 _ ?side1 ?side2 ?side3 ?side4 ?side5 A4.out).mono ?_); (case side1 => repeat (first | exact (Kd.C_below HR0_1.out (zBG HB.out GE217.out)) | (with_reducible refine Kd.C_alloc ?_ _) | (with_reducible refine Kd.C_drewN ?_ _) | (with_reducible refine Kd.C_drew ?_))); (case side2 => exact HC0_1.out); (case side3 => repeat (first | exact (Kd.C_below HR0_2.out (zBG HB.out GE217.out)) | (with_reducible refine Kd.C_alloc ?_ _) | (with_reducible refine Kd.C_drewN ?_ _) | (with_reducible refine Kd.C_drew ?_))); (case side4 => exact HC0_2.out); (case side5 => exact (by first | exact BK217.out | ((with_reducible repeat (first | refine blk_drewN ?_ _ | refine blk_drew ?_ | refine blk_alloc ?_ _)); exact BK217.out))); rintro e w6 ⟨rfl, hb⟩; refine ⟨_, rfl, ?_⟩; have n0_ := ak (blk_below (g := gb217) (o := .cells #[.int .i64 a0_0, .slice A0_1 l0_1.length c0_1, .slice A0_2 l0_2.length c0_2] 39 (0, 0)) (zK BK217.out) hb); have n1_ := ak (below_step (zBG HB.out GE217.out) hb); clear BK217 HB; have BK217 := n0_; have HB := n1_; clear n0_ n1_; (try clear hb); (try clear hb2); (try clear hk); (try clear hi)))
 go_ret
 exact ⟨by first | rfl | (simp [errW_none, errW_some] <;> rfl) | (simp [*, errW_none, errW_some] <;> rfl), by repeat (first | (with_reducible first | exact HB.out | apply below_alloc | apply pw_below_drewN | apply below_drew1 | refine below_set ?_ GE217.out) | exact HB.out)⟩
 }
 {
 replace c3 := Bool.eq_false_iff.mpr c3
 subst c3
 have H1 : (some (⟨#[]⟩ : ByteArray)) = some r := by rw [if_neg (show ¬ (false = true) by decide)] at H; exact H
 clear H
 have H := H1
 clear H1
 obtain rfl := Option.some.inj H
 go_enter Tryd.func11, Tryd.ntmps11
 go_wp2_with (first | ((with_reducible refine gate_dst (N := 1) rfl ?_); refine box_event ?hg (N := 1) ?hd (cs := #[.int .i64 a0_0, .slice A0_1 l0_1.length c0_1, .slice A0_2 l0_2.length c0_2]) (t := 39) ?hr ?_; (case hd => rfl); (case hg => rfl); (case hr => first | (go_simp; done) | (go_simp; rfl)); intro gb217 hg w7 hbox hb; have n0_ := ak (below_step (zB HB.out) hb); have n1_ := ak (hbox); have n2_ := ak ((by rw [hg]; exact (below_size (zB HB.out)) : w.heap.size ≤ gb217)); have n3_ := ak ((by rw [hg]; exact (below_size (zB HB.out)) : w.heap.size ≤ gb217)); clear HB; have HB := n0_; have BK217 := n1_; have GW217 := n2_; have GE217 := n3_; clear n0_ n1_ n2_ n3_; clear hb hbox hg) | ((with_reducible refine gate_callee (f := 24) rfl ?_); refine goesL_ (some 3) rfl rfl Tryd.func24 (by kernel_rfl) rfl #[.pointer (some ⟨gb217, 0, none⟩)] rfl (by (try simp only [List.map_toArray, List.map_cons, List.map_nil]); first | done | rfl | (simp only [List.length_drop, List.length_take]; rfl)) ?_; (with_reducible refine (spec_l05Ok.calls k gb217 a0_0 A0_1 c0_1 l0_1 A0_2 c0_2 l0_2 false _ ?side1 ?side2 ?side3 ?side4 ?side5 A2.out).mono ?_); (case side1 => repeat (first | exact (Kd.C_below HR0_1.out HB.out) | (with_reducible refine Kd.C_alloc ?_ _) | (with_reducible refine Kd.C_drewN ?_ _) | (with_reducible refine Kd.C_drew ?_))); (case side2 => exact HC0_1.out); (case side3 => repeat (first | exact (Kd.C_below HR0_2.out HB.out) | (with_reducible refine Kd.C_alloc ?_ _) | (with_reducible refine Kd.C_drewN ?_ _) | (with_reducible refine Kd.C_drew ?_))); (case side4 => exact HC0_2.out); (case side5 => exact (by first | exact BK217.out | ((with_reducible repeat (first | refine blk_drewN ?_ _ | refine blk_drew ?_ | refine blk_alloc ?_ _)); exact BK217.out))); rintro e w' ⟨rfl, ⟨nd, rfl⟩⟩; refine ⟨_, rfl, ?_⟩))
 go_ret
 exact ⟨by first | rfl | (simp [errW_none, errW_some] <;> rfl) | (simp [*, errW_none, errW_some] <;> rfl), by repeat (first | (with_reducible first | exact HB.out | apply below_alloc | apply pw_below_drewN | apply below_drew1 | refine below_set ?_ GE217.out) | exact HB.out)⟩
 }
/-! ### impl_size_People: function 40 -/
def impl_size_People.f (l0 : List Int) : Option (Int) := some (l0.length : Int)
set_option maxHeartbeats 8000000 in
set_option maxRecDepth 100000 in
theorem impl_size_People.calls (A0 : Option Addr) (c0 : Nat) (l0 : List Int) (r : Int) (w : World) (hr0 : Kd.C (Kd.int .u16) w A0 l0.length l0) (hc0 : l0.length ≤ c0) (h : impl_size_People.f l0 = some r) :
    Calls Tryd.prog 40 #[.slice A0 l0.length c0] w fun e w' => e = .returned (.int .i64 r) ∧ Drawn0 w w' := by
 have HR0 := ak hr0
 have HC0 := ak hc0
 clear hr0 hc0
 have H : (some (l0.length : Int)) = some r := h
 clear h
 obtain rfl := Option.some.inj H
 go_enter Tryd.func40, Tryd.ntmps40
 go_wp2
 go_ret
 exact ⟨by first | rfl | (simp; done) | (simp [*]; done), by repeat (first | exact Drawn0.refl _ | apply Drawn0.step)⟩
/-! ### impl_everybody: function 49 -/
def impl_everybody.f (a0 : Int) : Option (Int) := if 0 ≤ a0 then (some (IntKind.u16.wrap ((shl .u16 1 a0) - 1))) else (none)
set_option maxHeartbeats 8000000 in
set_option maxRecDepth 100000 in
theorem impl_everybody.calls (a0 : Int) (r : Int) (w : World) (h : impl_everybody.f a0 = some r) :
    Calls Tryd.prog 49 #[.int .i64 a0] w fun e w' => e = .returned (.int .u16 r) ∧ Drawn0 w w' := by
 have H : (if 0 ≤ a0 then (some (IntKind.u16.wrap ((shl .u16 1 a0) - 1))) else (none)) = some r := h
 clear h
 by_cases c2 : 0 ≤ a0
 {
 rw [if_pos c2] at H
 have c2b0 := eq_true c2
 have c2b1 : decide (0 ≤ a0) = true := decide_eq_true c2
 clear c2
 obtain ⟨ji3, hji3⟩ : ∃ j_ : Int, (shl .u16 1 a0) = j_ := ⟨_, rfl⟩
 replace H : (some (IntKind.u16.wrap ((ji3) - 1))) = some r := by first | (rw [hji3] at H; exact H) | (simp only [hji3] at H ⊢; exact H)
 have hji3_ : (IntKind.u16.wrap (1 * 2 ^ min a0.toNat 16)) = ji3 := hji3
 have hji3z : a0 ≤ 16 → (IntKind.u16.wrap (1 * 2 ^ a0.toNat)) = ji3 := shl_small hji3
 have hji3u : (IntKind.u16.wrap (2 ^ min a0.toNat 16)) = ji3 := by have h_ := hji3_; rw [Int.one_mul] at h_; exact h_
 have hji3v : a0 ≤ 16 → (IntKind.u16.wrap (2 ^ a0.toNat)) = ji3 := fun hle_ => by have h_ := hji3z hle_; rw [Int.one_mul] at h_; exact h_
 obtain rfl := Option.some.inj H
 go_enter Tryd.func49, Tryd.ntmps49
 go_wp2
 go_ret
 exact ⟨by first | rfl | (simp; done) | (simp only [← hji3] <;> (first | rfl | simp)) | (simp [*]; done), by repeat (first | exact Drawn0.refl _ | apply Drawn0.step)⟩
 }
 · rw [if_neg c2] at H; exact absurd H (by simp)
/-! ### impl_Log_before: function 41 -/
def impl_Log_before.f (a0_0 : Int) (l0_1 : List Int) (l0_2 : List Int) (a1 : Int) : Option (Int) := if a1 = 0 then ((impl_everybody.f a0_0).bind fun t221 => (some t221)) else (if 0 ≤ (wrap64 (a1 - 1)) then (if (wrap64 (a1 - 1)) < (l0_1.length : Int) then (some (rd l0_1 (wrap64 (a1 - 1)))) else (none)) else (none))
set_option maxHeartbeats 8000000 in
set_option maxRecDepth 100000 in
theorem impl_Log_before.calls (a0_0 : Int) (A0_1 : Option Addr) (c0_1 : Nat) (l0_1 : List Int) (A0_2 : Option Addr) (c0_2 : Nat) (l0_2 : List Int) (a1 : Int) (r : Int) (w : World) (hr0_1 : Kd.C (Kd.int .u16) w A0_1 l0_1.length l0_1) (hc0_1 : l0_1.length ≤ c0_1) (hr0_2 : Kd.C (Kd.int .i16) w A0_2 l0_2.length l0_2) (hc0_2 : l0_2.length ≤ c0_2) (h : impl_Log_before.f a0_0 l0_1 l0_2 a1 = some r) :
    Calls Tryd.prog 41 #[.agg #[.int .i64 a0_0, .slice A0_1 l0_1.length c0_1, .slice A0_2 l0_2.length c0_2], .int .i64 a1] w fun e w' => e = .returned (.int .u16 r) ∧ Below w.heap.size w w' := by
 have hu39 := Tryd.underlying39
 have HR0_1 := ak hr0_1
 have HC0_1 := ak hc0_1
 clear hr0_1 hc0_1
 have HR0_2 := ak hr0_2
 have HC0_2 := ak hc0_2
 clear hr0_2 hc0_2
 have HB := ak (Below.refl w.heap.size w)
 have H : (if a1 = 0 then ((impl_everybody.f a0_0).bind fun t221 => (some t221)) else (if 0 ≤ (wrap64 (a1 - 1)) then (if (wrap64 (a1 - 1)) < (l0_1.length : Int) then (some (rd l0_1 (wrap64 (a1 - 1)))) else (none)) else (none))) = some r := h
 clear h
 by_cases c3 : a1 = 0
 {
 rw [if_pos c3] at H
 have c3b0 : (a1 == 0) = true := beq_iff_eq.mpr c3
 have c3b1 : (a1 != 0) = false := bne_eq_false_iff_eq.mpr c3
 clear c3
 replace H := Option.bind_eq_some_iff.mp H
 obtain ⟨t221, A40, H⟩ := H
 replace H : (some t221) = some r := H
 have A4 := ak A40
 clear A40
 obtain rfl := Option.some.inj H
 go_enter Tryd.func41, Tryd.ntmps41
 go_wp2_with (first | ((with_reducible refine gate_dst (N := 2) rfl ?_); refine box_event ?hg (N := 2) ?hd (cs := #[.int .i64 a0_0, .slice A0_1 l0_1.length c0_1, .slice A0_2 l0_2.length c0_2]) (t := 39) ?hr ?_; (case hd => rfl); (case hg => rfl); (case hr => first | (go_simp; done) | (go_simp; rfl)); intro gb220 hg w5 hbox hb; have n0_ := ak (below_step (zB HB.out) hb); have n1_ := ak (hbox); have n2_ := ak ((by rw [hg]; exact (below_size (zB HB.out)) : w.heap.size ≤ gb220)); have n3_ := ak ((by rw [hg]; exact (below_size (zB HB.out)) : w.heap.size ≤ gb220)); clear HB; have HB := n0_; have BK220 := n1_; have GW220 := n2_; have GE220 := n3_; clear n0_ n1_ n2_ n3_; clear hb hbox hg; have hcz6_0 : w5.cell? ⟨gb220, 0, none⟩ = some (.int .i64 a0_0) := (blk_cell BK220.out 0).trans rfl; have hcz6_1 : w5.cell? ⟨gb220, 1, none⟩ = some (.slice A0_1 l0_1.length c0_1) := (blk_cell BK220.out 1).trans rfl; have hcz6_2 : w5.cell? ⟨gb220, 2, none⟩ = some (.slice A0_2 l0_2.length c0_2) := (blk_cell BK220.out 2).trans rfl; have hfz6_0 := blk_frozen BK220.out 0; have hfz6_1 := blk_frozen BK220.out 1; have hfz6_2 := blk_frozen BK220.out 2) | ((with_reducible refine gate_callee (f := 49) rfl ?_); refine goesL_ (some 9) rfl rfl Tryd.func49 (by kernel_rfl) rfl #[.int .i64 a0_0] rfl (by (try simp only [List.map_toArray, List.map_cons, List.map_nil]); first | done | rfl | (simp only [List.length_drop, List.length_take]; rfl)) ?_; (with_reducible refine (impl_everybody.calls a0_0 t221 _ A4.out).mono ?_); rintro e w' ⟨rfl, ⟨nd, rfl⟩⟩; refine ⟨_, rfl, ?_⟩))
 go_ret
 exact ⟨by first | rfl | (simp [errW_none, errW_some] <;> rfl) | (simp [*, errW_none, errW_some] <;> rfl), by repeat (first | (with_reducible first | exact HB.out | apply below_alloc | apply pw_below_drewN | apply below_drew1 | refine below_set ?_ GE220.out) | exact HB.out)⟩
 }
 {
 rw [if_neg c3] at H
 have c3b0 : (a1 == 0) = false := beq_eq_false_iff_ne.mpr c3
 have c3b1 : (a1 != 0) = true := bne_iff_ne.mpr c3
 obtain ⟨ji7, hji7⟩ : ∃ j_ : Int, (wrap64 (a1 - 1)) = j_ := ⟨_, rfl⟩
 replace H : (if 0 ≤ (ji7) then (if (ji7) < (l0_1.length : Int) then (some (rd l0_1 (ji7))) else (none)) else (none)) = some r := by first | (rw [hji7] at H; exact H) | (simp only [hji7] at H ⊢; exact H)
 have hji7w : (IntKind.i64.wrap (a1 - 1)) = ji7 := (i64_w _).trans hji7
 by_cases c8 : 0 ≤ (ji7)
 {
 rw [if_pos c8] at H
 have c8b0 : decide (0 ≤ (ji7)) = true := decide_eq_true c8
 clear c8
 by_cases c9 : (ji7) < (l0_1.length : Int)
 {
 rw [if_pos c9] at H
 have c9b0 : decide ((ji7) < (l0_1.length : Int)) = true := decide_eq_true c9
 clear c9
 obtain rfl := Option.some.inj H
 go_enter Tryd.func41, Tryd.ntmps41
 go_wp2_with (first | ((with_reducible refine gate_dst (N := 2) rfl ?_); refine box_event ?hg (N := 2) ?hd (cs := #[.int .i64 a0_0, .slice A0_1 l0_1.length c0_1, .slice A0_2 l0_2.length c0_2]) (t := 39) ?hr ?_; (case hd => rfl); (case hg => rfl); (case hr => first | (go_simp; done) | (go_simp; rfl)); intro gb220 hg w10 hbox hb; have n0_ := ak (below_step (zB HB.out) hb); have n1_ := ak (hbox); have n2_ := ak ((by rw [hg]; exact (below_size (zB HB.out)) : w.heap.size ≤ gb220)); have n3_ := ak ((by rw [hg]; exact (below_size (zB HB.out)) : w.heap.size ≤ gb220)); clear HB; have HB := n0_; have BK220 := n1_; have GW220 := n2_; have GE220 := n3_; clear n0_ n1_ n2_ n3_; clear hb hbox hg; have hcz11_0 : w10.cell? ⟨gb220, 0, none⟩ = some (.int .i64 a0_0) := (blk_cell BK220.out 0).trans rfl; have hcz11_1 : w10.cell? ⟨gb220, 1, none⟩ = some (.slice A0_1 l0_1.length c0_1) := (blk_cell BK220.out 1).trans rfl; have hcz11_2 : w10.cell? ⟨gb220, 2, none⟩ = some (.slice A0_2 l0_2.length c0_2) := (blk_cell BK220.out 2).trans rfl; have hfz11_0 := blk_frozen BK220.out 0; have hfz11_1 := blk_frozen BK220.out 1; have hfz11_2 := blk_frozen BK220.out 2; have p222 : 0 ≤ ((ji7) : Int) := of_decide_eq_true (by first | (with_reducible assumption) | assumption); have q222 : (ji7) < (l0_1.length : Int) := of_decide_eq_true (by first | (with_reducible assumption) | assumption); obtain ⟨ad222, e222, hx222_0⟩ := Kd.at_int HR0_1.out (ji7) p222 q222; cases e222; replace hx222_0 := (HB.out.cell (World.block_lt_of_cell? w _ hx222_0)).trans hx222_0; replace p222 := eq_true p222; replace q222 := eq_true q222))
 go_ret
 exact ⟨by first | rfl | (simp [errW_none, errW_some] <;> rfl) | (simp only [← hji7]; first | rfl | (simp [errW_none, errW_some] <;> rfl)) | (simp [*, errW_none, errW_some] <;> rfl), by repeat (first | (with_reducible first | exact HB.out | apply below_alloc | apply pw_below_drewN | apply below_drew1 | refine below_set ?_ GE220.out) | exact HB.out)⟩
 }
 · rw [if_neg c9] at H; exact absurd H (by simp)
 }
 · rw [if_neg c8] at H; exact absurd H (by simp)
 }
/-! ### impl_ValidLog: function 27 -/
mutual
def impl_ValidLog.j0 : Nat → Bool → Int → List Int → List Int → Option (Bool)
  | 0, _, _, _, _ => none
  | k + 1, x24, x224000, x224001, x224002 => if x24 = true then (some false) else (impl_ValidLog.l0 k x224001 (x224001.length : Int) 0 x224000 x224001 x224002)
def impl_ValidLog.l0 : Nat → List Int → Int → Int → Int → List Int → List Int → Option (Bool)
  | 0, _, _, _, _, _, _ => none
  | k + 1, x26, x27, x28, x224000, x224001, x224002 => if x28 < x27 then (if 0 ≤ x28 then (if x28 < (x26.length : Int) then ((impl_Log_before.f x224000 x224001 x224002 x28).bind fun t228 => (if (Go.bits .andNot .u16 (rd x26 x28) t228) = 0 then (if x28 < (x224002.length : Int) then ((impl_within.f (wrap64 (rd x224002 x28)) 0 100).bind fun t230 => (if t230 = true then (impl_ValidLog.l0 k x26 x27 (wrap64 (x28 + 1)) x224000 x224001 x224002) else (some false))) else (none)) else (some false))) else (none)) else (none)) else (some true)
end
def impl_ValidLog.f (k : Nat) (a0_0 : Int) (l0_1 : List Int) (l0_2 : List Int) : Option (Bool) := (impl_within.f a0_0 1 14).bind fun t224 => (if t224 = true then ((impl_size_People.f l0_1).bind fun t225 => ((impl_within.f t225 1 12).bind fun t226 => (if t226 = true then (impl_ValidLog.j0 k ((l0_2.length : Int) != (l0_1.length : Int)) a0_0 l0_1 l0_2) else (impl_ValidLog.j0 k true a0_0 l0_1 l0_2)))) else (impl_ValidLog.j0 k true a0_0 l0_1 l0_2))
theorem impl_ValidLog.mono_l : ∀ k, (∀ y0 y1 y2 y3, LeO (impl_ValidLog.j0 k y0 y1 y2 y3) (impl_ValidLog.j0 (k + 1) y0 y1 y2 y3)) ∧ (∀ y0 y1 y2 y3 y4 y5, LeO (impl_ValidLog.l0 k y0 y1 y2 y3 y4 y5) (impl_ValidLog.l0 (k + 1) y0 y1 y2 y3 y4 y5))
  | 0 => ⟨fun _ _ _ _ r h => by simp [impl_ValidLog.j0] at h, fun _ _ _ _ _ _ r h => by simp [impl_ValidLog.l0] at h⟩
  | k + 1 => by
    obtain ⟨ih0, ih1⟩ := impl_ValidLog.mono_l k
    refine ⟨?_, ?_⟩
    · intro y0 y1 y2 y3
      unfold impl_ValidLog.j0
      repeat' first
      | (with_reducible exact ih0 _ _ _ _)
      | (with_reducible exact ih1 _ _ _ _ _ _)
      | (with_reducible exact LeO.refl _)
      | (with_reducible exact LeO.none _)
      | (with_reducible refine LeO.ite ?_ ?_)
      | (with_reducible refine LeO.bind ?_ (fun _ => ?_))
      | exact ih0 _ _ _ _
      | exact ih1 _ _ _ _ _ _
      | exact LeO.none _
      | refine LeO.ite ?_ ?_
      | refine LeO.bind ?_ (fun _ => ?_)
    · intro y0 y1 y2 y3 y4 y5
      unfold impl_ValidLog.l0
      repeat' first
      | (with_reducible exact ih0 _ _ _ _)
      | (with_reducible exact ih1 _ _ _ _ _ _)
      | (with_reducible exact LeO.refl _)
      | (with_reducible exact LeO.none _)
      | (with_reducible refine LeO.ite ?_ ?_)
      | (with_reducible refine LeO.bind ?_ (fun _ => ?_))
      | exact ih0 _ _ _ _
      | exact ih1 _ _ _ _ _ _
      | exact LeO.none _
      | refine LeO.ite ?_ ?_
      | refine LeO.bind ?_ (fun _ => ?_)
theorem impl_ValidLog.mono : ∀ a0 a1 a2 k, LeO (impl_ValidLog.f k a0 a1 a2) (impl_ValidLog.f (k + 1) a0 a1 a2) := by
  intro a0 a1 a2 k
  obtain ⟨ih0, ih1⟩ := impl_ValidLog.mono_l k
  unfold impl_ValidLog.f
  repeat' first
      | (with_reducible exact ih0 _ _ _ _)
      | (with_reducible exact ih1 _ _ _ _ _ _)
      | (with_reducible exact LeO.refl _)
      | (with_reducible exact LeO.none _)
      | (with_reducible refine LeO.ite ?_ ?_)
      | (with_reducible refine LeO.bind ?_ (fun _ => ?_))
      | exact ih0 _ _ _ _
      | exact ih1 _ _ _ _ _ _
      | exact LeO.none _
      | refine LeO.ite ?_ ?_
      | refine LeO.bind ?_ (fun _ => ?_)
set_option maxHeartbeats 8000000 in
set_option maxRecDepth 100000 in
theorem impl_ValidLog.calls (k : Nat) (a0_0 : Int) (A0_1 : Option Addr) (c0_1 : Nat) (l0_1 : List Int) (A0_2 : Option Addr) (c0_2 : Nat) (l0_2 : List Int) (r : Bool) (w : World) (hr0_1 : Kd.C (Kd.int .u16) w A0_1 l0_1.length l0_1) (hc0_1 : l0_1.length ≤ c0_1) (hr0_2 : Kd.C (Kd.int .i16) w A0_2 l0_2.length l0_2) (hc0_2 : l0_2.length ≤ c0_2) (h : impl_ValidLog.f k a0_0 l0_1 l0_2 = some r) :
    Calls Tryd.prog 27 #[.agg #[.int .i64 a0_0, .slice A0_1 l0_1.length c0_1, .slice A0_2 l0_2.length c0_2]] w fun e w' => e = .returned (.bool r) ∧ Below w.heap.size w w' := by
 have hu39 := Tryd.underlying39
 have HR0_1 := ak hr0_1
 have HC0_1 := ak hc0_1
 clear hr0_1 hc0_1
 have HR0_2 := ak hr0_2
 have HC0_2 := ak hc0_2
 clear hr0_2 hc0_2
 have HB := ak (Below.refl w.heap.size w)
 have H : ((impl_within.f a0_0 1 14).bind fun t224 => (if t224 = true then ((impl_size_People.f l0_1).bind fun t225 => ((impl_within.f t225 1 12).bind fun t226 => (if t226 = true then (impl_ValidLog.j0 k ((l0_2.length : Int) != (l0_1.length : Int)) a0_0 l0_1 l0_2) else (impl_ValidLog.j0 k true a0_0 l0_1 l0_2)))) else (impl_ValidLog.j0 k true a0_0 l0_1 l0_2))) = some r := h
 clear h
 have HC2 := ak H
 clear H
 go_enter Tryd.func27, Tryd.ntmps27
 go_upto_region 1 with (first | ((with_reducible refine gate_dst (N := 1) rfl ?_); (try (refine gate_guard (by rfl) ?_; dsimp only)); refine box_event ?hg (N := 1) ?hd (cs := #[.int .i64 a0_0, .slice A0_1 l0_1.length c0_1, .slice A0_2 l0_2.length c0_2]) (t := 39) ?hr ?_; (case hd => rfl); (case hg => rfl); (case hr => first | (go_simp; done) | (go_simp; rfl)); intro gb223 hg w3 hbox hb; have n0_ := ak (below_step (zB HB.out) hb); have n1_ := ak (hbox); have n2_ := ak ((by rw [hg]; exact (below_size (zB HB.out)) : w.heap.size ≤ gb223)); have n3_ := ak ((by rw [hg]; exact (below_size (zB HB.out)) : w.heap.size ≤ gb223)); clear HB; have HB := n0_; have BK223 := n1_; have GW223 := n2_; have GE223 := n3_; clear n0_ n1_ n2_ n3_; clear hb hbox hg))
 (try simp only [Act.put, zs, zz, zk])
 go_cut [24] (fun v24 wc => ∃ (kq : Nat) (x24_1 : Bool), v24 = .bool x24_1 ∧ Aside0 (impl_ValidLog.j0 kq x24_1 a0_0 l0_1 l0_2 = some r) ∧ Aside0 (kq ≤ k) ∧ Aside0 (wc.heap[gb223]? = some (.cells #[.int .i64 a0_0, (.slice A0_1 l0_1.length c0_1), (.slice A0_2 l0_2.length c0_2)] 39 (0, 0))) ∧ Aside0 (Below w.heap.size w wc))
 case first => (
 have H := HC2.out
 clear HC2
 replace H := Option.bind_eq_some_iff.mp H
 obtain ⟨t224, A40, H⟩ := H
 replace H : (if t224 = true then ((impl_size_People.f l0_1).bind fun t225 => ((impl_within.f t225 1 12).bind fun t226 => (if t226 = true then (impl_ValidLog.j0 k ((l0_2.length : Int) != (l0_1.length : Int)) a0_0 l0_1 l0_2) else (impl_ValidLog.j0 k true a0_0 l0_1 l0_2)))) else (impl_ValidLog.j0 k true a0_0 l0_1 l0_2)) = some r := H
 have A4 := ak A40
 clear A40
 by_cases c5 : t224 = true
 {
 subst c5
 have H1 : ((impl_size_People.f l0_1).bind fun t225 => ((impl_within.f t225 1 12).bind fun t226 => (if t226 = true then (impl_ValidLog.j0 k ((l0_2.length : Int) != (l0_1.length : Int)) a0_0 l0_1 l0_2) else (impl_ValidLog.j0 k true a0_0 l0_1 l0_2)))) = some r := by rw [if_pos rfl] at H; exact H
 clear H
 have H := H1
 clear H1
 replace H := Option.bind_eq_some_iff.mp H
 obtain ⟨t225, A60, H⟩ := H
 replace H : ((impl_within.f t225 1 12).bind fun t226 => (if t226 = true then (impl_ValidLog.j0 k ((l0_2.length : Int) != (l0_1.length : Int)) a0_0 l0_1 l0_2) else (impl_ValidLog.j0 k true a0_0 l0_1 l0_2))) = some r := H
 have A6 := ak A60
 clear A60
 replace H := Option.bind_eq_some_iff.mp H
 obtain ⟨t226, A70, H⟩ := H
 replace H : (if t226 = true then (impl_ValidLog.j0 k ((l0_2.length : Int) != (l0_1.length : Int)) a0_0 l0_1 l0_2) else (impl_ValidLog.j0 k true a0_0 l0_1 l0_2)) = some r := H
 have A7 := ak A70
 clear A70
 by_cases c8 : t226 = true
 {
 subst c8
 have H1 : (impl_ValidLog.j0 k ((l0_2.length : Int) != (l0_1.length : Int)) a0_0 l0_1 l0_2) = some r := by rw [if_pos rfl] at H; exact H
 clear H
 have H := H1
 clear H1
 have H' := ak H
 clear H
 have hcz9_0 : w3.cell? ⟨gb223, 0, none⟩ = some (.int .i64 a0_0) := (blk_cell BK223.out 0).trans rfl
 have hcz9_1 : w3.cell? ⟨gb223, 1, none⟩ = some (.slice A0_1 l0_1.length c0_1) := (blk_cell BK223.out 1).trans rfl
 have hcz9_2 : w3.cell? ⟨gb223, 2, none⟩ = some (.slice A0_2 l0_2.length c0_2) := (blk_cell BK223.out 2).trans rfl
 have hfz9_0 := blk_frozen BK223.out 0
 have hfz9_1 := blk_frozen BK223.out 1
 have hfz9_2 := blk_frozen BK223.out 2
 go_wp2_with (first | ((with_reducible refine gate_callee (f := 32) rfl ?_); refine goesL_ (some 7) rfl rfl Tryd.func32 (by kernel_rfl) rfl #[.int .i64 a0_0, .int .i64 1, .int .i64 14] rfl (by (try simp only [List.map_toArray, List.map_cons, List.map_nil]); first | done | rfl | (simp only [List.length_drop, List.length_take]; rfl)) ?_; (with_reducible refine (impl_within.calls a0_0 1 14 true _ A4.out).mono ?_); rintro e w' ⟨rfl, ⟨nd, rfl⟩⟩; refine ⟨_, rfl, ?_⟩) | (go_at_call 40; (with_reducible refine (impl_size_People.calls _ _ l0_1 t225 _ ?side1 ?side2 A6.out).mono ?_); (case side1 => repeat (first | exact (Kd.C_below HR0_1.out (zBG HB.out GE223.out)) | (with_reducible refine Kd.C_alloc ?_ _) | (with_reducible refine Kd.C_drewN ?_ _) | (with_reducible refine Kd.C_drew ?_))); (case side2 => exact HC0_1.out); rintro e w' ⟨rfl, ⟨nd, rfl⟩⟩) | (go_at_call 32; (with_reducible refine (impl_within.calls t225 1 12 true _ A7.out).mono ?_); rintro e w' ⟨rfl, ⟨nd, rfl⟩⟩))
 go_meet
 case rel => exact ⟨_, (((l0_2.length : Int) != (l0_1.length : Int))), (by first | rfl | (simp; done) | (simp [*]; done)), H', ⟨by first | omega | exact Nat.le_refl _⟩, ⟨by (with_reducible repeat (first | refine blk_drewN ?_ _ | refine blk_drew ?_ | refine blk_alloc ?_ _)); exact BK223.out⟩, ⟨by repeat (first | (with_reducible first | exact HB.out | apply below_alloc | apply pw_below_drewN | apply below_drew1 | refine below_set ?_ GE223.out) | exact HB.out)⟩⟩
 }
 {
 replace c8 := Bool.eq_false_iff.mpr c8
 subst c8
 have H1 : (impl_ValidLog.j0 k true a0_0 l0_1 l0_2) = some r := by rw [if_neg (show ¬ (false = true) by decide)] at H; exact H
 clear H
 have H := H1
 clear H1
 have H' := ak H
 clear H
 have hcz10_0 : w3.cell? ⟨gb223, 0, none⟩ = some (.int .i64 a0_0) := (blk_cell BK223.out 0).trans rfl
 have hcz10_1 : w3.cell? ⟨gb223, 1, none⟩ = some (.slice A0_1 l0_1.length c0_1) := (blk_cell BK223.out 1).trans rfl
 have hcz10_2 : w3.cell? ⟨gb223, 2, none⟩ = some (.slice A0_2 l0_2.length c0_2) := (blk_cell BK223.out 2).trans rfl
 have hfz10_0 := blk_frozen BK223.out 0
 have hfz10_1 := blk_frozen BK223.out 1
 have hfz10_2 := blk_frozen BK223.out 2
 go_wp2_with (first | ((with_reducible refine gate_callee (f := 32) rfl ?_); refine goesL_ (some 7) rfl rfl Tryd.func32 (by kernel_rfl) rfl #[.int .i64 a0_0, .int .i64 1, .int .i64 14] rfl (by (try simp only [List.map_toArray, List.map_cons, List.map_nil]); first | done | rfl | (simp only [List.length_drop, List.length_take]; rfl)) ?_; (with_reducible refine (impl_within.calls a0_0 1 14 true _ A4.out).mono ?_); rintro e w' ⟨rfl, ⟨nd, rfl⟩⟩; refine ⟨_, rfl, ?_⟩) | (go_at_call 40; (with_reducible refine (impl_size_People.calls _ _ l0_1 t225 _ ?side1 ?side2 A6.out).mono ?_); (case side1 => repeat (first | exact (Kd.C_below HR0_1.out (zBG HB.out GE223.out)) | (with_reducible refine Kd.C_alloc ?_ _) | (with_reducible refine Kd.C_drewN ?_ _) | (with_reducible refine Kd.C_drew ?_))); (case side2 => exact HC0_1.out); rintro e w' ⟨rfl, ⟨nd, rfl⟩⟩) | (go_at_call 32; (with_reducible refine (impl_within.calls t225 1 12 false _ A7.out).mono ?_); rintro e w' ⟨rfl, ⟨nd, rfl⟩⟩))
 go_meet
 case rel => exact ⟨_, (true), (by first | rfl | (simp; done) | (simp [*]; done)), H', ⟨by first | omega | exact Nat.le_refl _⟩, ⟨by (with_reducible repeat (first | refine blk_drewN ?_ _ | refine blk_drew ?_ | refine blk_alloc ?_ _)); exact BK223.out⟩, ⟨by repeat (first | (with_reducible first | exact HB.out | apply below_alloc | apply pw_below_drewN | apply below_drew1 | refine below_set ?_ GE223.out) | exact HB.out)⟩⟩
 }
 }
 {
 replace c5 := Bool.eq_false_iff.mpr c5
 subst c5
 have H1 : (impl_ValidLog.j0 k true a0_0 l0_1 l0_2) = some r := by rw [if_neg (show ¬ (false = true) by decide)] at H; exact H
 clear H
 have H := H1
 clear H1
 have H' := ak H
 clear H
 have hcz11_0 : w3.cell? ⟨gb223, 0, none⟩ = some (.int .i64 a0_0) := (blk_cell BK223.out 0).trans rfl
 have hcz11_1 : w3.cell? ⟨gb223, 1, none⟩ = some (.slice A0_1 l0_1.length c0_1) := (blk_cell BK223.out 1).trans rfl
 have hcz11_2 : w3.cell? ⟨gb223, 2, none⟩ = some (.slice A0_2 l0_2.length c0_2) := (blk_cell BK223.out 2).trans rfl
 have hfz11_0 := blk_frozen BK223.out 0
 have hfz11_1 := blk_frozen BK223.out 1
 have hfz11_2 := blk_frozen BK223.out 2
 go_wp2_with (first | ((with_reducible refine gate_callee (f := 32) rfl ?_); refine goesL_ (some 7) rfl rfl Tryd.func32 (by kernel_rfl) rfl #[.int .i64 a0_0, .int .i64 1, .int .i64 14] rfl (by (try simp only [List.map_toArray, List.map_cons, List.map_nil]); first | done | rfl | (simp only [List.length_drop, List.length_take]; rfl)) ?_; (with_reducible refine (impl_within.calls a0_0 1 14 false _ A4.out).mono ?_); rintro e w' ⟨rfl, ⟨nd, rfl⟩⟩; refine ⟨_, rfl, ?_⟩))
 go_meet
 case rel => exact ⟨_, (true), (by first | rfl | (simp; done) | (simp [*]; done)), H', ⟨by first | omega | exact Nat.le_refl _⟩, ⟨by (with_reducible repeat (first | refine blk_drewN ?_ _ | refine blk_drew ?_ | refine blk_alloc ?_ _)); exact BK223.out⟩, ⟨by repeat (first | (with_reducible first | exact HB.out | apply below_alloc | apply pw_below_drewN | apply below_drew1 | refine below_set ?_ GE223.out) | exact HB.out)⟩⟩
 }
 )
 case rest => (
 clear HC2
 try clear c2
 try clear p2
 try clear c3
 try clear c5
 try clear c8
 try clear hcz10_0
 try clear hcz10_1
 try clear hcz10_2
 try clear hcz11_0
 try clear hcz11_1
 try clear hcz11_2
 try clear hcz9_0
 try clear hcz9_1
 try clear hcz9_2
 try clear hfz10_0
 try clear hfz10_1
 try clear hfz10_2
 try clear hfz11_0
 try clear hfz11_1
 try clear hfz11_2
 try clear hfz9_0
 try clear hfz9_1
 try clear hfz9_2
 obtain ⟨kq, x24_1, rfl, HA, HJ1, BK223, HB⟩ := hcut
 cases kq with
 | zero => exact absurd HA.out (by simp [impl_ValidLog.j0])
 | succ kj1 => (
 have H := HA.out
 clear HA
 simp only [impl_ValidLog.j0] at H
 by_cases c12 : x24_1 = true
 {
 subst c12
 have H1 : (some false) = some r := by rw [if_pos rfl] at H; exact H
 clear H
 have H := H1
 clear H1
 obtain rfl := Option.some.inj H
 go_wp2
 go_ret
 exact ⟨by first | rfl | (simp [errW_none, errW_some] <;> rfl) | (simp [*, errW_none, errW_some] <;> rfl), by repeat (first | (with_reducible first | exact HB.out | apply below_alloc | apply pw_below_drewN | apply below_drew1 | refine below_set ?_ GE223.out) | exact HB.out)⟩
 }
 {
 replace c12 := Bool.eq_false_iff.mpr c12
 subst c12
 have H1 : (impl_ValidLog.l0 kj1 l0_1 (l0_1.length : Int) 0 a0_0 l0_1 l0_2) = some r := by rw [if_neg (show ¬ (false = true) by decide)] at H; exact H
 clear H
 have H := H1
 clear H1
 have H' := ak H
 clear H
 have hcz13_0 : wc.cell? ⟨gb223, 0, none⟩ = some (.int .i64 a0_0) := (blk_cell BK223.out 0).trans rfl
 have hcz13_1 : wc.cell? ⟨gb223, 1, none⟩ = some (.slice A0_1 l0_1.length c0_1) := (blk_cell BK223.out 1).trans rfl
 have hcz13_2 : wc.cell? ⟨gb223, 2, none⟩ = some (.slice A0_2 l0_2.length c0_2) := (blk_cell BK223.out 2).trans rfl
 have hfz13_0 := blk_frozen BK223.out 0
 have hfz13_1 := blk_frozen BK223.out 1
 have hfz13_2 := blk_frozen BK223.out 2
 go_wp2
 go_loopg [28] kj1 (fun kq v28 w' => ∃ (x28_2 : Int), v28 = .int .i64 x28_2 ∧ Aside0 (impl_ValidLog.l0 kq l0_1 (l0_1.length : Int) x28_2 a0_0 l0_1 l0_2 = some r) ∧ Aside0 (kq ≤ kj1) ∧ Aside0 (w'.heap[gb223]? = some (.cells #[.int .i64 a0_0, (.slice A0_1 l0_1.length c0_1), (.slice A0_2 l0_2.length c0_2)] 39 (0, 0))) ∧ Aside0 (Below w.heap.size w w'))
 case atStart => exact ⟨(0), (by first | rfl | (simp; done) | (simp [*]; done)), H', ⟨Nat.le_refl _⟩, ⟨by (with_reducible repeat (first | refine blk_drewN ?_ _ | refine blk_drew ?_ | refine blk_alloc ?_ _)); exact BK223.out⟩, ⟨by repeat (first | (with_reducible first | exact HB.out | apply below_alloc | apply pw_below_drewN | apply below_drew1 | refine below_set ?_ GE223.out) | exact HB.out)⟩⟩
 case round => (
 clear H'
 try clear c1
 try clear c2
 try clear p2
 try clear c3
 try clear c5
 try clear c8
 try clear c12
 try clear hcz10_0
 try clear hcz10_1
 try clear hcz10_2
 try clear hcz11_0
 try clear hcz11_1
 try clear hcz11_2
 try clear hcz13_0
 try clear hcz13_1
 try clear hcz13_2
 try clear hcz9_0
 try clear hcz9_1
 try clear hcz9_2
 try clear hfz10_0
 try clear hfz10_1
 try clear hfz10_2
 try clear hfz11_0
 try clear hfz11_1
 try clear hfz11_2
 try clear hfz13_0
 try clear hfz13_1
 try clear hfz13_2
 try clear hfz9_0
 try clear hfz9_1
 try clear hfz9_2
 try clear p2
 obtain ⟨x28_2, rfl, HA, HK2, BK223, HB⟩ := hrel
 cases gk with
 | zero => exact absurd HA.out (by simp [impl_ValidLog.l0])
 | succ k2 => (
 have H := HA.out
 clear HA
 simp only [impl_ValidLog.l0] at H
 by_cases c14 : x28_2 < (l0_1.length : Int)
 {
 rw [if_pos c14] at H
 have c14b0 : decide (x28_2 < (l0_1.length : Int)) = true := decide_eq_true c14
 clear c14
 by_cases c15 : 0 ≤ x28_2
 {
 rw [if_pos c15] at H
 have c15b0 : decide (0 ≤ x28_2) = true := decide_eq_true c15
 clear c15
 by_cases c16 : x28_2 < (l0_1.length : Int)
 {
 rw [if_pos c16] at H
 have c16b0 : decide (x28_2 < (l0_1.length : Int)) = true := decide_eq_true c16
 clear c16
 replace H := Option.bind_eq_some_iff.mp H
 obtain ⟨t228, A170, H⟩ := H
 replace H : (if (Go.bits .andNot .u16 (rd l0_1 x28_2) t228) = 0 then (if x28_2 < (l0_2.length : Int) then ((impl_within.f (wrap64 (rd l0_2 x28_2)) 0 100).bind fun t230 => (if t230 = true then (impl_ValidLog.l0 k2 l0_1 (l0_1.length : Int) (wrap64 (x28_2 + 1)) a0_0 l0_1 l0_2) else (some false))) else (none)) else (some false)) = some r := H
 have A17 := ak A170
 clear A170
 by_cases c18 : (Go.bits .andNot .u16 (rd l0_1 x28_2) t228) = 0
 {
 rw [if_pos c18] at H
 have c18b0 : ((Go.bits .andNot .u16 (rd l0_1 x28_2) t228) == 0) = true := beq_iff_eq.mpr c18
 have c18b1 : ((Go.bits .andNot .u16 (rd l0_1 x28_2) t228) != 0) = false := bne_eq_false_iff_eq.mpr c18
 clear c18
 by_cases c19 : x28_2 < (l0_2.length : Int)
 {
 rw [if_pos c19] at H
 have c19b0 : decide (x28_2 < (l0_2.length : Int)) = true := decide_eq_true c19
 clear c19
 replace H := Option.bind_eq_some_iff.mp H
 obtain ⟨t230, A200, H⟩ := H
 replace H : (if t230 = true then (impl_ValidLog.l0 k2 l0_1 (l0_1.length : Int) (wrap64 (x28_2 + 1)) a0_0 l0_1 l0_2) else (some false)) = some r := H
 have A20 := ak A200
 clear A200
 by_cases c21 : t230 = true
 {
 subst c21
 have H1 : (impl_ValidLog.l0 k2 l0_1 (l0_1.length : Int) (wrap64 (x28_2 + 1)) a0_0 l0_1 l0_2) = some r := by rw [if_pos rfl] at H; exact H
 clear H
 have H := H1
 clear H1
 have H' := ak H
 clear H
 have p227 : 0 ≤ (x28_2 : Int) := of_decide_eq_true (by first | (with_reducible assumption) | assumption)
 have q227 : x28_2 < (l0_1.length : Int) := of_decide_eq_true (by first | (with_reducible assumption) | assumption)
 obtain ⟨ad227, e227, hx227_0⟩ := Kd.at_int HR0_1.out x28_2 p227 q227
 cases e227
 replace hx227_0 := (HB.out.cell (World.block_lt_of_cell? w _ hx227_0)).trans hx227_0
 replace p227 := eq_true p227
 replace q227 := eq_true q227
 have hcz22_0 : wr.cell? ⟨gb223, 0, none⟩ = some (.int .i64 a0_0) := (blk_cell BK223.out 0).trans rfl
 have hcz22_1 : wr.cell? ⟨gb223, 1, none⟩ = some (.slice (some ad227) l0_1.length c0_1) := (blk_cell BK223.out 1).trans rfl
 have hcz22_2 : wr.cell? ⟨gb223, 2, none⟩ = some (.slice A0_2 l0_2.length c0_2) := (blk_cell BK223.out 2).trans rfl
 have hfz22_0 := blk_frozen BK223.out 0
 have hfz22_1 := blk_frozen BK223.out 1
 have hfz22_2 := blk_frozen BK223.out 2
 go_wp2_with (first | ((with_reducible refine gate_callee (f := 41) rfl ?_); refine goesL_ (some 36) rfl rfl Tryd.func41 (by kernel_rfl) rfl #[.agg #[.int .i64 a0_0, .slice (some ad227) l0_1.length c0_1, .slice A0_2 l0_2.length c0_2], .int .i64 x28_2] rfl (by (try simp only [List.map_toArray, List.map_cons, List.map_nil]); first | done | rfl | (simp only [List.length_drop, List.length_take]; rfl)) ?_; (with_reducible refine (impl_Log_before.calls a0_0 _ _ l0_1 _ _ l0_2 x28_2 t228 _ ?side1 ?side2 ?side3 ?side4 A17.out).mono ?_); (case side1 => repeat (first | exact (Kd.C_below HR0_1.out HB.out) | (with_reducible refine Kd.C_alloc ?_ _) | (with_reducible refine Kd.C_drewN ?_ _) | (with_reducible refine Kd.C_drew ?_))); (case side2 => exact HC0_1.out); (case side3 => repeat (first | exact (Kd.C_below HR0_2.out HB.out) | (with_reducible refine Kd.C_alloc ?_ _) | (with_reducible refine Kd.C_drewN ?_ _) | (with_reducible refine Kd.C_drew ?_))); (case side4 => exact HC0_2.out); rintro e w23 ⟨rfl, hb⟩; refine ⟨_, rfl, ?_⟩; have n0_ := ak (blk_below (g := gb223) (o := .cells #[.int .i64 a0_0, .slice (some ad227) l0_1.length c0_1, .slice A0_2 l0_2.length c0_2] 39 (0, 0)) (zK BK223.out) hb); have n1_ := ak (below_step (zBG HB.out GE223.out) hb); clear BK223 HB; have BK223 := n0_; have HB := n1_; clear n0_ n1_; (try clear hb); (try clear hb2); (try clear hk); (try clear hi); have hcz24_0 : w23.cell? ⟨gb223, 0, none⟩ = some (.int .i64 a0_0) := (blk_cell BK223.out 0).trans rfl; have hcz24_1 : w23.cell? ⟨gb223, 1, none⟩ = some (.slice (some ad227) l0_1.length c0_1) := (blk_cell BK223.out 1).trans rfl; have hcz24_2 : w23.cell? ⟨gb223, 2, none⟩ = some (.slice A0_2 l0_2.length c0_2) := (blk_cell BK223.out 2).trans rfl; have hfz24_0 := blk_frozen BK223.out 0; have hfz24_1 := blk_frozen BK223.out 1; have hfz24_2 := blk_frozen BK223.out 2; have p229 : 0 ≤ (x28_2 : Int) := of_decide_eq_true (by first | (with_reducible assumption) | assumption); have q229 : x28_2 < (l0_2.length : Int) := of_decide_eq_true (by first | (with_reducible assumption) | assumption); obtain ⟨ad229, e229, hx229_0⟩ := Kd.at_int HR0_2.out x28_2 p229 q229; cases e229; replace hx229_0 := (HB.out.cell (World.block_lt_of_cell? w _ hx229_0)).trans hx229_0; replace p229 := eq_true p229; replace q229 := eq_true q229) | (go_at_call 32; (with_reducible refine (impl_within.calls (wrap64 (rd l0_2 x28_2)) 0 100 true _ A20.out).mono ?_); rintro e w' ⟨rfl, ⟨nd, rfl⟩⟩))
 go_roundg k2
 case measure => have := HJ1.out; have := HK2.out; omega
 case rel => exact ⟨(wrap64 (x28_2 + 1)), (by first | rfl | (simp; done) | (simp [*]; done)), H', ⟨by have := HJ1.out; have := HK2.out; omega⟩, ⟨by (with_reducible repeat (first | refine blk_drewN ?_ _ | refine blk_drew ?_ | refine blk_alloc ?_ _)); exact BK223.out⟩, ⟨by repeat (first | (with_reducible first | exact HB.out | apply below_alloc | apply pw_below_drewN | apply below_drew1 | refine below_set ?_ GE223.out) | exact HB.out)⟩⟩
 }
 {
 replace c21 := Bool.eq_false_iff.mpr c21
 subst c21
 have H1 : (some false) = some r := by rw [if_neg (show ¬ (false = true) by decide)] at H; exact H
 clear H
 have H := H1
 clear H1
 obtain rfl := Option.some.inj H
 have p227 : 0 ≤ (x28_2 : Int) := of_decide_eq_true (by first | (with_reducible assumption) | assumption)
 have q227 : x28_2 < (l0_1.length : Int) := of_decide_eq_true (by first | (with_reducible assumption) | assumption)
 obtain ⟨ad227, e227, hx227_0⟩ := Kd.at_int HR0_1.out x28_2 p227 q227
 cases e227
 replace hx227_0 := (HB.out.cell (World.block_lt_of_cell? w _ hx227_0)).trans hx227_0
 replace p227 := eq_true p227
 replace q227 := eq_true q227
 have hcz25_0 : wr.cell? ⟨gb223, 0, none⟩ = some (.int .i64 a0_0) := (blk_cell BK223.out 0).trans rfl
 have hcz25_1 : wr.cell? ⟨gb223, 1, none⟩ = some (.slice (some ad227) l0_1.length c0_1) := (blk_cell BK223.out 1).trans rfl
 have hcz25_2 : wr.cell? ⟨gb223, 2, none⟩ = some (.slice A0_2 l0_2.length c0_2) := (blk_cell BK223.out 2).trans rfl
 have hfz25_0 := blk_frozen BK223.out 0
 have hfz25_1 := blk_frozen BK223.out 1
 have hfz25_2 := blk_frozen BK223.out 2
 go_wp2_with (first | ((with_reducible refine gate_callee (f := 41) rfl ?_); refine goesL_ (some 36) rfl rfl Tryd.func41 (by kernel_rfl) rfl #[.agg #[.int .i64 a0_0, .slice (some ad227) l0_1.length c0_1, .slice A0_2 l0_2.length c0_2], .int .i64 x28_2] rfl (by (try simp only [List.map_toArray, List.map_cons, List.map_nil]); first | done | rfl | (simp only [List.length_drop, List.length_take]; rfl)) ?_; (with_reducible refine (impl_Log_before.calls a0_0 _ _ l0_1 _ _ l0_2 x28_2 t228 _ ?side1 ?side2 ?side3 ?side4 A17.out).mono ?_); (case side1 => repeat (first | exact (Kd.C_below HR0_1.out HB.out) | (with_reducible refine Kd.C_alloc ?_ _) | (with_reducible refine Kd.C_drewN ?_ _) | (with_reducible refine Kd.C_drew ?_))); (case side2 => exact HC0_1.out); (case side3 => repeat (first | exact (Kd.C_below HR0_2.out HB.out) | (with_reducible refine Kd.C_alloc ?_ _) | (with_reducible refine Kd.C_drewN ?_ _) | (with_reducible refine Kd.C_drew ?_))); (case side4 => exact HC0_2.out); rintro e w26 ⟨rfl, hb⟩; refine ⟨_, rfl, ?_⟩; have n0_ := ak (blk_below (g := gb223) (o := .cells #[.int .i64 a0_0, .slice (some ad227) l0_1.length c0_1, .slice A0_2 l0_2.length c0_2] 39 (0, 0)) (zK BK223.out) hb); have n1_ := ak (below_step (zBG HB.out GE223.out) hb); clear BK223 HB; have BK223 := n0_; have HB := n1_; clear n0_ n1_; (try clear hb); (try clear hb2); (try clear hk); (try clear hi); have hcz27_0 : w26.cell? ⟨gb223, 0, none⟩ = some (.int .i64 a0_0) := (blk_cell BK223.out 0).trans rfl; have hcz27_1 : w26.cell? ⟨gb223, 1, none⟩ = some (.slice (some ad227) l0_1.length c0_1) := (blk_cell BK223.out 1).trans rfl; have hcz27_2 : w26.cell? ⟨gb223, 2, none⟩ = some (.slice A0_2 l0_2.length c0_2) := (blk_cell BK223.out 2).trans rfl; have hfz27_0 := blk_frozen BK223.out 0; have hfz27_1 := blk_frozen BK223.out 1; have hfz27_2 := blk_frozen BK223.out 2; have p229 : 0 ≤ (x28_2 : Int) := of_decide_eq_true (by first | (with_reducible assumption) | assumption); have q229 : x28_2 < (l0_2.length : Int) := of_decide_eq_true (by first | (with_reducible assumption) | assumption); obtain ⟨ad229, e229, hx229_0⟩ := Kd.at_int HR0_2.out x28_2 p229 q229; cases e229; replace hx229_0 := (HB.out.cell (World.block_lt_of_cell? w _ hx229_0)).trans hx229_0; replace p229 := eq_true p229; replace q229 := eq_true q229) | (go_at_call 32; (with_reducible refine (impl_within.calls (wrap64 (rd l0_2 x28_2)) 0 100 false _ A20.out).mono ?_); rintro e w' ⟨rfl, ⟨nd, rfl⟩⟩))
 go_ret
 exact ⟨by first | rfl | (simp [errW_none, errW_some] <;> rfl) | (simp [*, errW_none, errW_some] <;> rfl), by repeat (first | (with_reducible first | exact HB.out | apply below_alloc | apply pw_below_drewN | apply below_drew1 | refine below_set ?_ GE223.out) | exact HB.out)⟩
 }
 }
 · rw [if_neg c19] at H; exact absurd H (by simp)
 }
 {
 rw [if_neg c18] at H
 have c18b0 : ((Go.bits .andNot .u16 (rd l0_1 x28_2) t228) == 0) = false := beq_eq_false_iff_ne.mpr c18
 have c18b1 : ((Go.bits .andNot .u16 (rd l0_1 x28_2) t228) != 0) = true := bne_iff_ne.mpr c18
 obtain rfl := Option.some.inj H
 have p227 : 0 ≤ (x28_2 : Int) := of_decide_eq_true (by first | (with_reducible assumption) | assumption)
 have q227 : x28_2 < (l0_1.length : Int) := of_decide_eq_true (by first | (with_reducible assumption) | assumption)
 obtain ⟨ad227, e227, hx227_0⟩ := Kd.at_int HR0_1.out x28_2 p227 q227
 cases e227
 replace hx227_0 := (HB.out.cell (World.block_lt_of_cell? w _ hx227_0)).trans hx227_0
 replace p227 := eq_true p227
 replace q227 := eq_true q227
 have hcz28_0 : wr.cell? ⟨gb223, 0, none⟩ = some (.int .i64 a0_0) := (blk_cell BK223.out 0).trans rfl
 have hcz28_1 : wr.cell? ⟨gb223, 1, none⟩ = some (.slice (some ad227) l0_1.length c0_1) := (blk_cell BK223.out 1).trans rfl
 have hcz28_2 : wr.cell? ⟨gb223, 2, none⟩ = some (.slice A0_2 l0_2.length c0_2) := (blk_cell BK223.out 2).trans rfl
 have hfz28_0 := blk_frozen BK223.out 0
 have hfz28_1 := blk_frozen BK223.out 1
 have hfz28_2 := blk_frozen BK223.out 2
 go_wp2_with (first | ((with_reducible refine gate_callee (f := 41) rfl ?_); refine goesL_ (some 36) rfl rfl Tryd.func41 (by kernel_rfl) rfl #[.agg #[.int .i64 a0_0, .slice (some ad227) l0_1.length c0_1, .slice A0_2 l0_2.length c0_2], .int .i64 x28_2] rfl (by (try simp only [List.map_toArray, List.map_cons, List.map_nil]); first | done | rfl | (simp only [List.length_drop, List.length_take]; rfl)) ?_; (with_reducible refine (impl_Log_before.calls a0_0 _ _ l0_1 _ _ l0_2 x28_2 t228 _ ?side1 ?side2 ?side3 ?side4 A17.out).mono ?_); (case side1 => repeat (first | exact (Kd.C_below HR0_1.out HB.out) | (with_reducible refine Kd.C_alloc ?_ _) | (with_reducible refine Kd.C_drewN ?_ _) | (with_reducible refine Kd.C_drew ?_))); (case side2 => exact HC0_1.out); (case side3 => repeat (first | exact (Kd.C_below HR0_2.out HB.out) | (with_reducible refine Kd.C_alloc ?_ _) | (with_reducible refine Kd.C_drewN ?_ _) | (with_reducible refine Kd.C_drew ?_))); (case side4 => exact HC0_2.out); rintro e w29 ⟨rfl, hb⟩; refine ⟨_, rfl, ?_⟩; have n0_ := ak (blk_below (g := gb223) (o := .cells #[.int .i64 a0_0, .slice (some ad227) l0_1.length c0_1, .slice A0_2 l0_2.length c0_2] 39 (0, 0)) (zK BK223.out) hb); have n1_ := ak (below_step (zBG HB.out GE223.out) hb); clear BK223 HB; have BK223 := n0_; have HB := n1_; clear n0_ n1_; (try clear hb); (try clear hb2); (try clear hk); (try clear hi)))
 go_ret
 exact ⟨by first | rfl | (simp [errW_none, errW_some] <;> rfl) | (simp [*, errW_none, errW_some] <;> rfl), by repeat (first | (with_reducible first | exact HB.out | apply below_alloc | apply pw_below_drewN | apply below_drew1 | refine below_set ?_ GE223.out) | exact HB.out)⟩
 }
 }
 · rw [if_neg c16] at H; exact absurd H (by simp)
 }
 · rw [if_neg c15] at H; exact absurd H (by simp)
 }
 {
 rw [if_neg c14] at H
 have c14b0 : decide (x28_2 < (l0_1.length : Int)) = false := decide_eq_false c14
 clear c14
 obtain rfl := Option.some.inj H
 go_wp2
 go_ret
 exact ⟨by first | rfl | (simp [errW_none, errW_some] <;> rfl) | (simp [*, errW_none, errW_some] <;> rfl), by repeat (first | (with_reducible first | exact HB.out | apply below_alloc | apply pw_below_drewN | apply below_drew1 | refine below_set ?_ GE223.out) | exact HB.out)⟩
 }
 )
 )
 }
 )
 )
end Go.Proofs.YtgpilljegihblaaDoor.P
