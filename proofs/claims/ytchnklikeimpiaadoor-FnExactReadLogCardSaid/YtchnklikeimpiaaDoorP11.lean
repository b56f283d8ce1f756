-- Printed by wip/print (my turned copy of the kit's print) out of the translation; Lean checks it.
import Derived.Test.YtchnklikeimpiaaDoorP0
import Derived.Test.YtchnklikeimpiaaDoorP10
namespace Go.Proofs.YtchnklikeimpiaaDoor.P
open Go.RowKit Go.Proofs.YtchnklikeimpiaaDoorW.PrintWords Go.Proofs.YtchnklikeimpiaaDoorW.PrintLast Go.Proofs.YtchnklikeimpiaaDoorW.PrintMore
attribute [local go_sem] max2_int min2_int max_two min_two max_three min_three max_four min_four   -- for this text's walks alone
set_option linter.unusedVariables false
set_option linter.unusedSimpArgs false

/-! ### impl_LogText: function 37 -/
mutual
def impl_LogText.l0 : Nat → ByteArray → List Int → Int → Int → Int → List Int → List Int → Option (ByteArray)
  | 0, _, _, _, _, _, _, _ => none
  | k + 1, x3, x17, x18, x19, x323000, x323001, x323002 => if x19 < x18 then (if 0 ≤ x19 then (if x19 < (x17.length : Int) then ((impl_ListPeople.f k (rd x17 x19)).bind fun t329 => (impl_LogText.l1 k x3 x19 (([] : List ByteArray)) x17 x18 x19 t329 (t329.length : Int) 0 x323000 x323001 x323002)) else (none)) else (none)) else (some x3)
def impl_LogText.l1 : Nat → ByteArray → Int → List ByteArray → List Int → Int → Int → List Int → Int → Int → Int → List Int → List Int → Option (ByteArray)
  | 0, _, _, _, _, _, _, _, _, _, _, _, _ => none
  | k + 1, x3, x4, x6, x17, x18, x19, x26, x27, x28, x323000, x323001, x323002 => if x28 < x27 then (if 0 ≤ x28 then (if x28 < (x26.length : Int) then ((impl_decimal.f (rd x26 x28)).bind fun t333 => (if x6.length < 8796093022208 then (impl_LogText.l1 k x3 x4 (x6 ++ [t333]) x17 x18 x19 x26 x27 (wrap64 (x28 + 1)) x323000 x323001 x323002) else (none))) else (none)) else (none)) else (if 0 ≤ x4 then (if x4 < (x323002.length : Int) then ((impl_decimal.f (wrap64 (rd x323002 x4))).bind fun t338 => (if 1 + t338.size ≤ 9223372036854775807 then (if 1 + t338.size + 1 ≤ 9223372036854775807 then ((strings_Join.f x6 (⟨#[44]⟩ : ByteArray)).bind fun t339 => (if 1 + t338.size + 1 + t339.size ≤ 9223372036854775807 then (if x3.size + 1 + t338.size + 1 + t339.size ≤ 9223372036854775807 then (impl_LogText.l0 k (x3 ++ ((((⟨#[32]⟩ : ByteArray) ++ t338) ++ (⟨#[47]⟩ : ByteArray)) ++ t339)) x17 x18 (wrap64 (x19 + 1)) x323000 x323001 x323002) else (none)) else (none))) else (none)) else (none))) else (none)) else (none))
end
def impl_LogText.f (k : Nat) (a0_0 : Int) (l0_1 : List Int) (l0_2 : List Int)  : Option (ByteArray) := (impl_ValidLog.f k a0_0 l0_1 l0_2).bind fun t323 => (if t323 = true then ((impl_decimal.f a0_0).bind fun t324 => (if t324.size + 1 ≤ 9223372036854775807 then (impl_LogText.l0 k (t324 ++ (⟨#[58]⟩ : ByteArray)) l0_1 (l0_1.length : Int) 0 a0_0 l0_1 l0_2) else (none))) else (some (⟨#[]⟩ : ByteArray)))
theorem impl_LogText.mono_l : ∀ k, (∀ y0 y1 y2 y3 y4 y5 y6, LeO (impl_LogText.l0 k y0 y1 y2 y3 y4 y5 y6) (impl_LogText.l0 (k + 1) y0 y1 y2 y3 y4 y5 y6)) ∧ (∀ y0 y1 y2 y3 y4 y5 y6 y7 y8 y9 y10 y11, LeO (impl_LogText.l1 k y0 y1 y2 y3 y4 y5 y6 y7 y8 y9 y10 y11) (impl_LogText.l1 (k + 1) y0 y1 y2 y3 y4 y5 y6 y7 y8 y9 y10 y11))
  | 0 => ⟨fun _ _ _ _ _ _ _ r h => by simp [impl_LogText.l0] at h, fun _ _ _ _ _ _ _ _ _ _ _ _ r h => by simp [impl_LogText.l1] at h⟩
  | k + 1 => by
    obtain ⟨ih0, ih1⟩ := impl_LogText.mono_l k
    refine ⟨?_, ?_⟩
    · intro y0 y1 y2 y3 y4 y5 y6
      unfold impl_LogText.l0
      repeat' first
      | (with_reducible exact ih0 _ _ _ _ _ _ _)
      | (with_reducible exact ih1 _ _ _ _ _ _ _ _ _ _ _ _)
      | (with_reducible exact impl_ListPeople.mono _ _)
      | (with_reducible exact impl_ValidLog.mono _ _ _ _)
      | (with_reducible exact LeO.refl _)
      | (with_reducible exact LeO.none _)
      | (with_reducible refine LeO.ite ?_ ?_)
      | (with_reducible refine LeO.bind ?_ (fun _ => ?_))
      | exact ih0 _ _ _ _ _ _ _
      | exact ih1 _ _ _ _ _ _ _ _ _ _ _ _
      | exact impl_ListPeople.mono _ _
      | exact impl_ValidLog.mono _ _ _ _
      | exact LeO.none _
      | refine LeO.ite ?_ ?_
      | refine LeO.bind ?_ (fun _ => ?_)
    · intro y0 y1 y2 y3 y4 y5 y6 y7 y8 y9 y10 y11
      unfold impl_LogText.l1
      repeat' first
      | (with_reducible exact ih0 _ _ _ _ _ _ _)
      | (with_reducible exact ih1 _ _ _ _ _ _ _ _ _ _ _ _)
      | (with_reducible exact impl_ListPeople.mono _ _)
      | (with_reducible exact impl_ValidLog.mono _ _ _ _)
      | (with_reducible exact LeO.refl _)
      | (with_reducible exact LeO.none _)
      | (with_reducible refine LeO.ite ?_ ?_)
      | (with_reducible refine LeO.bind ?_ (fun _ => ?_))
      | exact ih0 _ _ _ _ _ _ _
      | exact ih1 _ _ _ _ _ _ _ _ _ _ _ _
      | exact impl_ListPeople.mono _ _
      | exact impl_ValidLog.mono _ _ _ _
      | exact LeO.none _
      | refine LeO.ite ?_ ?_
      | refine LeO.bind ?_ (fun _ => ?_)
theorem impl_LogText.mono : ∀ a0 a1 a2 k, LeO (impl_LogText.f k a0 a1 a2) (impl_LogText.f (k + 1) a0 a1 a2) := by
  intro a0 a1 a2 k
  obtain ⟨ih0, ih1⟩ := impl_LogText.mono_l k
  unfold impl_LogText.f
  repeat' first
      | (with_reducible exact ih0 _ _ _ _ _ _ _)
      | (with_reducible exact ih1 _ _ _ _ _ _ _ _ _ _ _ _)
      | (with_reducible exact impl_ListPeople.mono _ _)
      | (with_reducible exact impl_ValidLog.mono _ _ _ _)
      | (with_reducible exact LeO.refl _)
      | (with_reducible exact LeO.none _)
      | (with_reducible refine LeO.ite ?_ ?_)
      | (with_reducible refine LeO.bind ?_ (fun _ => ?_))
      | exact ih0 _ _ _ _ _ _ _
      | exact ih1 _ _ _ _ _ _ _ _ _ _ _ _
      | exact impl_ListPeople.mono _ _
      | exact impl_ValidLog.mono _ _ _ _
      | exact LeO.none _
      | refine LeO.ite ?_ ?_
      | refine LeO.bind ?_ (fun _ => ?_)
set_option maxHeartbeats 8000000 in
set_option maxRecDepth 100000 in
theorem impl_LogText.calls (k : Nat) (a0_0 : Int) (A0_1 : Option Addr) (c0_1 : Nat) (l0_1 : List Int) (A0_2 : Option Addr) (c0_2 : Nat) (l0_2 : List Int)  (r : ByteArray) (w : World) (hr0_1 : Kd.C (Kd.int .u16) w A0_1 l0_1.length l0_1) (hc0_1 : l0_1.length ≤ c0_1) (hr0_2 : Kd.C (Kd.int .i16) w A0_2 l0_2.length l0_2) (hc0_2 : l0_2.length ≤ c0_2) (hgt : Go.Proofs.YtchnklikeimpiaaDoor.H.Tab10 w) (h : impl_LogText.f k a0_0 l0_1 l0_2 = some r) :
    Calls Tryd.prog 37 #[.agg #[.int .i64 a0_0, .slice A0_1 l0_1.length c0_1, .slice A0_2 l0_2.length c0_2]] w fun e w' => e = .returned (.string r) ∧ Below w.heap.size w w' := by
 have hu39 := Tryd.underlying39
 have HR0_1 := ak hr0_1
 have HC0_1 := ak hc0_1
 clear hr0_1 hc0_1
 have HR0_2 := ak hr0_2
 have HC0_2 := ak hc0_2
 clear hr0_2 hc0_2
 have HGT := ak hgt
 clear hgt
 have HB := ak (Below.refl w.heap.size w)
 have H : ((impl_ValidLog.f k a0_0 l0_1 l0_2).bind fun t323 => (if t323 = true then ((impl_decimal.f a0_0).bind fun t324 => (if t324.size + 1 ≤ 9223372036854775807 then (impl_LogText.l0 k (t324 ++ (⟨#[58]⟩ : ByteArray)) l0_1 (l0_1.length : Int) 0 a0_0 l0_1 l0_2) else (none))) else (some (⟨#[]⟩ : ByteArray)))) = some r := h
 clear h
 replace H := Option.bind_eq_some_iff.mp H
 obtain ⟨t323, A30, H⟩ := H
 replace H : (if t323 = true then ((impl_decimal.f a0_0).bind fun t324 => (if t324.size + 1 ≤ 9223372036854775807 then (impl_LogText.l0 k (t324 ++ (⟨#[58]⟩ : ByteArray)) l0_1 (l0_1.length : Int) 0 a0_0 l0_1 l0_2) else (none))) else (some (⟨#[]⟩ : ByteArray))) = some r := H
 have A3 := ak A30
 clear A30
 by_cases c4 : t323 = true
 {
 subst c4
 have H1 : ((impl_decimal.f a0_0).bind fun t324 => (if t324.size + 1 ≤ 9223372036854775807 then (impl_LogText.l0 k (t324 ++ (⟨#[58]⟩ : ByteArray)) l0_1 (l0_1.length : Int) 0 a0_0 l0_1 l0_2) else (none))) = some r := by rw [if_pos rfl] at H; exact H
 clear H
 have H := H1
 clear H1
 replace H := Option.bind_eq_some_iff.mp H
 obtain ⟨t324, A50, H⟩ := H
 replace H : (if t324.size + 1 ≤ 9223372036854775807 then (impl_LogText.l0 k (t324 ++ (⟨#[58]⟩ : ByteArray)) l0_1 (l0_1.length : Int) 0 a0_0 l0_1 l0_2) else (none)) = some r := H
 have A5 := ak A50
 clear A50
 by_cases c6 : t324.size + 1 ≤ 9223372036854775807
 {
 rw [if_pos c6] at H
 have c6b0 := eq_true c6
 have c6b1 : decide (t324.size + 1 ≤ 9223372036854775807) = true := decide_eq_true c6
 try have c6b2 : (9223372036854775807 < t324.size + 1) = False := eq_false (Nat.not_lt.2 c6)
 have H' := ak H
 clear H
 go_enter Tryd.func37, Tryd.ntmps37
 go_wp2_with (first | ((with_reducible refine gate_dst (N := 1) rfl ?_); refine box_event ?hg (N := 1) ?hd (cs := #[.int .i64 a0_0, .slice A0_1 l0_1.length c0_1, .slice A0_2 l0_2.length c0_2]) (t := 39) ?hr ?_; (case hd => rfl); (case hg => rfl); (case hr => first | (go_simp; done) | (go_simp; rfl)); intro gb322 hg w7 hbox hb; have n0_ := ak (below_step (zB HB.out) hb); have n1_ := ak (hbox); have n2_ := ak ((by rw [hg]; exact (below_size (zB HB.out)) : w.heap.size ≤ gb322)); have n3_ := ak ((by rw [hg]; exact (below_size (zB HB.out)) : w.heap.size ≤ gb322)); clear HB; have HB := n0_; have BK322 := n1_; have GW322 := n2_; have GE322 := n3_; clear n0_ n1_ n2_ n3_; clear hb hbox hg; have hcz8_0 : w7.cell? ⟨gb322, 0, none⟩ = some (.int .i64 a0_0) := (blk_cell BK322.out 0).trans rfl; have hcz8_1 : w7.cell? ⟨gb322, 1, none⟩ = some (.slice A0_1 l0_1.length c0_1) := (blk_cell BK322.out 1).trans rfl; have hcz8_2 : w7.cell? ⟨gb322, 2, none⟩ = some (.slice A0_2 l0_2.length c0_2) := (blk_cell BK322.out 2).trans rfl; have hfz8_0 := blk_frozen BK322.out 0; have hfz8_1 := blk_frozen BK322.out 1; have hfz8_2 := blk_frozen BK322.out 2) | ((with_reducible refine gate_callee (f := 53) rfl ?_); refine goesL_ (some 10) rfl rfl Tryd.func53 (by kernel_rfl) rfl #[.agg #[.int .i64 a0_0, .slice A0_1 l0_1.length c0_1, .slice A0_2 l0_2.length c0_2]] rfl (by (try simp only [List.map_toArray, List.map_cons, List.map_nil]); first | done | rfl | (simp only [List.length_drop, List.length_take]; rfl)) ?_; (with_reducible refine (impl_ValidLog.calls k a0_0 _ _ l0_1 _ _ l0_2 true _ ?side1 ?side2 ?side3 ?side4 A3.out).mono ?_); (case side1 => repeat (first | exact (Kd.C_below HR0_1.out HB.out) | (with_reducible refine Kd.C_alloc ?_ _) | (with_reducible refine Kd.C_drewN ?_ _) | (with_reducible refine Kd.C_drew ?_))); (case side2 => exact HC0_1.out); (case side3 => repeat (first | exact (Kd.C_below HR0_2.out HB.out) | (with_reducible refine Kd.C_alloc ?_ _) | (with_reducible refine Kd.C_drewN ?_ _) | (with_reducible refine Kd.C_drew ?_))); (case side4 => exact HC0_2.out); rintro e w9 ⟨rfl, hb⟩; refine ⟨_, rfl, ?_⟩; have n0_ := ak (blk_below (g := gb322) (o := .cells #[.int .i64 a0_0, .slice A0_1 l0_1.length c0_1, .slice A0_2 l0_2.length c0_2] 39 (0, 0)) (zK BK322.out) hb); have n1_ := ak (below_step (zBG HB.out GE322.out) hb); clear BK322 HB; have BK322 := n0_; have HB := n1_; clear n0_ n1_; (try clear hb); (try clear hb2); (try clear hk); (try clear hi); have hcz10_0 : w9.cell? ⟨gb322, 0, none⟩ = some (.int .i64 a0_0) := (blk_cell BK322.out 0).trans rfl; have hcz10_1 : w9.cell? ⟨gb322, 1, none⟩ = some (.slice A0_1 l0_1.length c0_1) := (blk_cell BK322.out 1).trans rfl; have hcz10_2 : w9.cell? ⟨gb322, 2, none⟩ = some (.slice A0_2 l0_2.length c0_2) := (blk_cell BK322.out 2).trans rfl; have hfz10_0 := blk_frozen BK322.out 0; have hfz10_1 := blk_frozen BK322.out 1; have hfz10_2 := blk_frozen BK322.out 2) | ((with_reducible refine gate_callee (f := 46) rfl ?_); refine goesL_ (some 14) rfl rfl Tryd.func46 (by kernel_rfl) rfl #[.int .i64 a0_0] rfl (by (try simp only [List.map_toArray, List.map_cons, List.map_nil]); first | done | rfl | (simp only [List.length_drop, List.length_take]; rfl)) ?_; (with_reducible refine (impl_decimal.calls a0_0  t324 _ ?side1 A5.out).mono ?_); (case side1 => exact Go.Proofs.YtchnklikeimpiaaDoor.H.tab10_below HGT.out (zBG HB.out GE322.out)); rintro e w11 ⟨rfl, hb⟩; refine ⟨_, rfl, ?_⟩; have n0_ := ak (blk_below (g := gb322) (o := .cells #[.int .i64 a0_0, .slice A0_1 l0_1.length c0_1, .slice A0_2 l0_2.length c0_2] 39 (0, 0)) (zK BK322.out) hb); have n1_ := ak (below_step (zBG HB.out GE322.out) hb); clear BK322 HB; have BK322 := n0_; have HB := n1_; clear n0_ n1_; (try clear hb); (try clear hb2); (try clear hk); (try clear hi); have hcz12_0 : w11.cell? ⟨gb322, 0, none⟩ = some (.int .i64 a0_0) := (blk_cell BK322.out 0).trans rfl; have hcz12_1 : w11.cell? ⟨gb322, 1, none⟩ = some (.slice A0_1 l0_1.length c0_1) := (blk_cell BK322.out 1).trans rfl; have hcz12_2 : w11.cell? ⟨gb322, 2, none⟩ = some (.slice A0_2 l0_2.length c0_2) := (blk_cell BK322.out 2).trans rfl; have hfz12_0 := blk_frozen BK322.out 0; have hfz12_1 := blk_frozen BK322.out 1; have hfz12_2 := blk_frozen BK322.out 2))
 go_loopg [3, 19] k (fun kq v3 v19 w' => ∃ (x3_1 : ByteArray) (x19_1 : Int), v3 = .string x3_1 ∧ v19 = .int .i64 x19_1 ∧ Aside0 (impl_LogText.l0 kq x3_1 l0_1 (l0_1.length : Int) x19_1 a0_0 l0_1 l0_2 = some r) ∧ Aside0 (kq ≤ k) ∧ Aside0 (w'.heap[gb322]? = some (.cells #[.int .i64 a0_0, (.slice A0_1 l0_1.length c0_1), (.slice A0_2 l0_2.length c0_2)] 39 (0, 0))) ∧ Aside0 (Below w.heap.size w w'))
 case atStart => exact ⟨(t324 ++ (⟨#[58]⟩ : ByteArray)), (0), (by first | rfl | (simp; done) | (simp [*]; done)), (by first | rfl | (simp; done) | (simp [*]; done)), H', ⟨Nat.le_refl _⟩, ⟨by (with_reducible repeat (first | refine blk_drewN ?_ _ | refine blk_drew ?_ | refine blk_alloc ?_ _)); exact BK322.out⟩, ⟨by repeat (first | (with_reducible first | exact HB.out | apply below_alloc | apply pw_below_drewN | apply below_drew1 | refine below_set ?_ GE322.out) | exact HB.out)⟩⟩
 case round => (
 clear H'
 try clear p2
 try clear c3
 try clear c4
 try clear c5
 try clear c6
 try clear c6b0
 try clear c6b1
 try clear c6b2
 try clear hcz10_0
 try clear hcz10_1
 try clear hcz10_2
 try clear hcz12_0
 try clear hcz12_1
 try clear hcz12_2
 try clear hcz8_0
 try clear hcz8_1
 try clear hcz8_2
 try clear hfz10_0
 try clear hfz10_1
 try clear hfz10_2
 try clear hfz12_0
 try clear hfz12_1
 try clear hfz12_2
 try clear hfz8_0
 try clear hfz8_1
 try clear hfz8_2
 obtain ⟨x3_1, x19_1, rfl, rfl, HA, HK1, BK322, HB⟩ := hrel
 cases gk with
 | zero => exact absurd HA.out (by simp [impl_LogText.l0])
 | succ k1 => (
 have H := HA.out
 clear HA
 simp only [impl_LogText.l0] at H
 by_cases c13 : x19_1 < (l0_1.length : Int)
 {
 rw [if_pos c13] at H
 have c13b0 : decide (x19_1 < (l0_1.length : Int)) = true := decide_eq_true c13
 clear c13
 by_cases c14 : 0 ≤ x19_1
 {
 rw [if_pos c14] at H
 have c14b0 : decide (0 ≤ x19_1) = true := decide_eq_true c14
 clear c14
 by_cases c15 : x19_1 < (l0_1.length : Int)
 {
 rw [if_pos c15] at H
 have c15b0 : decide (x19_1 < (l0_1.length : Int)) = true := decide_eq_true c15
 clear c15
 obtain ⟨y326, hy326⟩ : ∃ y_ : List ByteArray, y_ = (([] : List ByteArray)) := ⟨_, rfl⟩
 replace H : ((impl_ListPeople.f k1 (rd l0_1 x19_1)).bind fun t329 => (impl_LogText.l1 k1 x3_1 x19_1 y326 l0_1 (l0_1.length : Int) x19_1 t329 (t329.length : Int) 0 a0_0 l0_1 l0_2)) = some r := by first | (rw [hy326]; with_reducible exact H) | (have H2_ := (Option.bind_some _ _).symm.trans H; rw [hy326]; with_reducible exact H2_) | (have H2_ := (Option.bind_some _ _).symm.trans H; with_reducible exact H2_) | with_reducible exact H | (rw [hy326]; exact H) | exact H
 have Ny326 := ak hy326
 clear hy326
 replace H := Option.bind_eq_some_iff.mp H
 obtain ⟨t329, A160, H⟩ := H
 replace H : (impl_LogText.l1 k1 x3_1 x19_1 y326 l0_1 (l0_1.length : Int) x19_1 t329 (t329.length : Int) 0 a0_0 l0_1 l0_2) = some r := H
 have A16 := ak A160
 clear A160
 have H' := ak H
 clear H
 have p325 : 0 ≤ (x19_1 : Int) := of_decide_eq_true (by first | (with_reducible assumption) | assumption)
 have q325 : x19_1 < (l0_1.length : Int) := of_decide_eq_true (by first | (with_reducible assumption) | assumption)
 obtain ⟨ad325, e325, hx325_0⟩ := Kd.at_int HR0_1.out x19_1 p325 q325
 cases e325
 replace hx325_0 := (HB.out.cell (World.block_lt_of_cell? w _ hx325_0)).trans hx325_0
 replace p325 := eq_true p325
 replace q325 := eq_true q325
 go_wp2_with (first | ((with_reducible refine gate_dst (N := 24) rfl ?_); refine Kd.R_lit Kd.string _ 9 ?hg (N := 24) ?hd (xs := ([] : List ByteArray)) (inner := []) (ok := fun _ => True) (okp := fun _ => True) ?hr ?hp (fun _ hk => hk) trivial (Below.refl _ _) (Nat.le_refl _) (by simp) ?_; (case hd => rfl); (case hg => rfl); (case hr => first | (go_simp; done) | (go_simp; rfl)); (case hp => exact (Reps.none _ _)); intro v327 w17 ho18 hb hg_ hnew_; clear hg_ hnew_; (first | rw [← Ny326.out] at ho18 | (simp only [Int.reduceToNat] at ho18; rw [← Ny326.out] at ho18)); have n0_ := ak (Kd.R_lower ho18 (below_size (zBG HB.out GE322.out))); have n1_ := ak (blk_below (g := gb322) (o := .cells #[.int .i64 a0_0, .slice (some ad325) l0_1.length c0_1, .slice A0_2 l0_2.length c0_2] 39 (0, 0)) (zK BK322.out) hb); have n2_ := ak (below_step (zBG HB.out GE322.out) hb); clear BK322 HB; have HO328 := n0_; have BK322 := n1_; have HB := n2_; clear n0_ n1_ n2_; clear hb ho18) | ((with_reducible refine gate_callee (f := 54) rfl ?_); refine goesL_ (some 26) rfl rfl Tryd.func54 (by kernel_rfl) rfl #[.int .u16 (rd l0_1 x19_1)] rfl (by (try simp only [List.map_toArray, List.map_cons, List.map_nil]); first | done | rfl | (simp only [List.length_drop, List.length_take]; rfl)) ?_; (with_reducible refine (impl_ListPeople.calls k1 (rd l0_1 x19_1) t329 _ A16.out).mono ?_); rintro e w19 ⟨v330, rfl, ho0, hb⟩; refine ⟨_, rfl, ?_⟩; have n0_ := ak (Kd.R_below (zR HO328.out) hb); have n1_ := ak (Kd.R_lower ho0 (below_size (zBG HB.out GE322.out))); have n2_ := ak (blk_below (g := gb322) (o := .cells #[.int .i64 a0_0, .slice (some ad325) l0_1.length c0_1, .slice A0_2 l0_2.length c0_2] 39 (0, 0)) (zK BK322.out) hb); have n3_ := ak (below_step (zBG HB.out GE322.out) hb); clear HO328 BK322 HB; have HO328 := n0_; have HO331 := n1_; have BK322 := n2_; have HB := n3_; clear n0_ n1_ n2_ n3_; (try clear hb); (try clear hb2); (try clear hk); (try clear hi); (try clear ho0); obtain ⟨Ao20, co20, eo20⟩ := Kd.R_slice HO331.out; subst eo20))
 go_loopg [6, 28] k1 (fun kq v6 v28 w' => ∃ (x6_2 : List ByteArray) (x28_2 : Int), v28 = .int .i64 x28_2 ∧ Aside0 (impl_LogText.l1 kq x3_1 x19_1 x6_2 l0_1 (l0_1.length : Int) x19_1 t329 (t329.length : Int) x28_2 a0_0 l0_1 l0_2 = some r) ∧ Aside0 (kq ≤ k1) ∧ Aside0 (Kd.R Kd.string 9 w' w.heap.size (fun _ => True) v6 x6_2) ∧ Aside0 (Kd.R (Kd.int .i64) 2 w' w.heap.size (fun _ => True) (.slice Ao20 t329.length co20) t329) ∧ Aside0 (w'.heap[gb322]? = some (.cells #[.int .i64 a0_0, (.slice (some ad325) l0_1.length c0_1), (.slice A0_2 l0_2.length c0_2)] 39 (0, 0))) ∧ Aside0 (Below w.heap.size w w'))
 case atStart => exact ⟨(y326), (0), (by first | rfl | (simp; done) | (simp [*]; done)), H', ⟨Nat.le_refl _⟩, ⟨by (with_reducible repeat (first | apply Kd.R_alloc | apply Kd.R_drewN | apply Kd.R_drew)); exact HO328.out⟩, ⟨by (with_reducible repeat (first | apply Kd.R_alloc | apply Kd.R_drewN | apply Kd.R_drew)); exact HO331.out⟩, ⟨by (with_reducible repeat (first | refine blk_drewN ?_ _ | refine blk_drew ?_ | refine blk_alloc ?_ _)); exact BK322.out⟩, ⟨by repeat (first | (with_reducible first | exact HB.out | apply below_alloc | apply pw_below_drewN | apply below_drew1 | refine below_set ?_ GE322.out) | exact HB.out)⟩⟩
 case round => (
 clear H'
 try clear c1
 try clear p2
 try clear c3
 try clear p3
 try clear q3
 try clear hx3
 try clear c4
 try clear c5
 try clear c6
 try clear c6b0
 try clear c6b1
 try clear c6b2
 try clear c13
 try clear c13b0
 try clear c14
 try clear c14b0
 try clear c15
 try clear c15b0
 try clear hcz10_0
 try clear hcz10_1
 try clear hcz10_2
 try clear hcz12_0
 try clear hcz12_1
 try clear hcz12_2
 try clear hcz8_0
 try clear hcz8_1
 try clear hcz8_2
 try clear hfz10_0
 try clear hfz10_1
 try clear hfz10_2
 try clear hfz12_0
 try clear hfz12_1
 try clear hfz12_2
 try clear hfz8_0
 try clear hfz8_1
 try clear hfz8_2
 try clear hx325_0
 try clear p2
 try clear p325
 try clear q325
 obtain ⟨x6_2, x28_2, rfl, HA, HK2, HO_6, HO_26, BK322, HB⟩ := hrel
 cases gk with
 | zero => exact absurd HA.out (by simp [impl_LogText.l1])
 | succ k2 => (
 have H := HA.out
 clear HA
 simp only [impl_LogText.l1] at H
 by_cases c21 : x28_2 < (t329.length : Int)
 {
 rw [if_pos c21] at H
 have c21b0 : decide (x28_2 < (t329.length : Int)) = true := decide_eq_true c21
 clear c21
 by_cases c22 : 0 ≤ x28_2
 {
 rw [if_pos c22] at H
 have c22b0 : decide (0 ≤ x28_2) = true := decide_eq_true c22
 clear c22
 by_cases c23 : x28_2 < (t329.length : Int)
 {
 rw [if_pos c23] at H
 have c23b0 : decide (x28_2 < (t329.length : Int)) = true := decide_eq_true c23
 clear c23
 replace H := Option.bind_eq_some_iff.mp H
 obtain ⟨t333, A240, H⟩ := H
 replace H : (if x6_2.length < 8796093022208 then (impl_LogText.l1 k2 x3_1 x19_1 (x6_2 ++ [t333]) l0_1 (l0_1.length : Int) x19_1 t329 (t329.length : Int) (wrap64 (x28_2 + 1)) a0_0 l0_1 l0_2) else (none)) = some r := H
 have A24 := ak A240
 clear A240
 by_cases c25 : x6_2.length < 8796093022208
 {
 rw [if_pos c25] at H
 have LMc25 := ak c25
 clear c25
 obtain ⟨y334, hy334⟩ : ∃ y_ : List ByteArray, y_ = (x6_2 ++ [t333]) := ⟨_, rfl⟩
 replace H : (impl_LogText.l1 k2 x3_1 x19_1 y334 l0_1 (l0_1.length : Int) x19_1 t329 (t329.length : Int) (wrap64 (x28_2 + 1)) a0_0 l0_1 l0_2) = some r := by first | (rw [hy334]; with_reducible exact H) | (have H2_ := (Option.bind_some _ _).symm.trans H; rw [hy334]; with_reducible exact H2_) | (have H2_ := (Option.bind_some _ _).symm.trans H; with_reducible exact H2_) | with_reducible exact H | (rw [hy334]; exact H) | exact H
 have Ny334 := ak hy334
 clear hy334
 have H' := ak H
 clear H
 have p332 : 0 ≤ (x28_2 : Int) := of_decide_eq_true (by first | (with_reducible assumption) | assumption)
 have q332 : x28_2 < (t329.length : Int) := of_decide_eq_true (by first | (with_reducible assumption) | assumption)
 obtain ⟨ad332, e332, hx332_0⟩ := Kd.at_int (Kd.R_reads' HO_26.out).2.2 x28_2 p332 q332
 cases e332
 replace p332 := eq_true p332
 replace q332 := eq_true q332
 go_wp2_with (first | ((with_reducible refine gate_callee (f := 46) rfl ?_); refine goesL_ (some 34) rfl rfl Tryd.func46 (by kernel_rfl) rfl #[.int .i64 (rd t329 x28_2)] rfl (by (try simp only [List.map_toArray, List.map_cons, List.map_nil]); first | done | rfl | (simp only [List.length_drop, List.length_take]; rfl)) ?_; (with_reducible refine (impl_decimal.calls (rd t329 x28_2)  t333 _ ?side1 A24.out).mono ?_); (case side1 => exact Go.Proofs.YtchnklikeimpiaaDoor.H.tab10_below HGT.out (zBG HB.out GE322.out)); rintro e w26 ⟨rfl, hb⟩; refine ⟨_, rfl, ?_⟩; have n0_ := ak (Kd.R_below (zR HO_6.out) hb); have n1_ := ak (Kd.R_below (zR HO_26.out) hb); have n2_ := ak (blk_below (g := gb322) (o := .cells #[.int .i64 a0_0, .slice (some ad325) l0_1.length c0_1, .slice A0_2 l0_2.length c0_2] 39 (0, 0)) (zK BK322.out) hb); have n3_ := ak (below_step (zBG HB.out GE322.out) hb); clear HO_6 HO_26 BK322 HB; have HO_6 := n0_; have HO_26 := n1_; have BK322 := n2_; have HB := n3_; clear n0_ n1_ n2_ n3_; (try clear hb); (try clear hb2); (try clear hk); (try clear hi)) | ((with_reducible refine gate_builtin (b := .append) (xs := #[.tmp 32, .tmp 35]) rfl ?_); at_builtin; refine Kd.R_append Kd.string (w0 := w) w.heap.size rfl (.tmp 32) (.tmp 35) 44 9 (.string ⟨#[]⟩) 16 rfl Tryd.underlying44 info9 rfl (by decide) (by omega) u6 x6_2 t333 [.string t333] (fun _ => True) (fun _ => False) rfl rfl ?aP (fun _ hk => hk.elim) ?aF ?aO ?aB ?aS ?aL ?_; (case aP => exact rfl); (case aB => exact (zBG HB.out GE322.out)); (case aF => exact (fun _ _ => trivial)); (case aO => exact (zR HO_6.out)); (case aS => exact (below_size (zBG HB.out GE322.out))); (case aL => have := LMc25.out; omega); intro v335 w27 ho hb hg hat; rw [← Ny334.out] at ho; have n0_ := ak (Kd.R_over' (zR HO_26.out) (Kd.R_typed (zR HO_6.out)) (by decide) hg); have n1_ := ak (blk_grown (g := gb322) (o := .cells #[.int .i64 a0_0, .slice (some ad325) l0_1.length c0_1, .slice A0_2 l0_2.length c0_2] 39 (0, 0)) (zK BK322.out) hg (Kd.R_ne HO_6.out BK322.out (by decide))); have n2_ := ak (hb); have n3_ := ak (ho); clear HO_26 BK322 HB HO_6; have HO_26 := n0_; have BK322 := n1_; have HB := n2_; have HO336 := n3_; clear n0_ n1_ n2_ n3_; clear ho hb hg hat))
 go_roundg k2
 case measure => have := HK1.out; have := HK2.out; omega
 case rel => exact ⟨(y334), (wrap64 (x28_2 + 1)), (by first | rfl | (simp; done) | (simp [*]; done)), H', ⟨by have := HK1.out; have := HK2.out; omega⟩, ⟨by (with_reducible repeat (first | apply Kd.R_alloc | apply Kd.R_drewN | apply Kd.R_drew)); exact HO336.out⟩, ⟨by (with_reducible repeat (first | apply Kd.R_alloc | apply Kd.R_drewN | apply Kd.R_drew)); exact HO_26.out⟩, ⟨by (with_reducible repeat (first | refine blk_drewN ?_ _ | refine blk_drew ?_ | refine blk_alloc ?_ _)); exact BK322.out⟩, ⟨by repeat (first | (with_reducible first | exact HB.out | apply below_alloc | apply pw_below_drewN | apply below_drew1 | refine below_set ?_ GE322.out) | exact HB.out)⟩⟩
 }
 · rw [if_neg c25] at H; exact absurd H (by simp)
 }
 · rw [if_neg c23] at H; exact absurd H (by simp)
 }
 · rw [if_neg c22] at H; exact absurd H (by simp)
 }
 {
 rw [if_neg c21] at H
 have c21b0 : decide (x28_2 < (t329.length : Int)) = false := decide_eq_false c21
 clear c21
 by_cases c28 : 0 ≤ x19_1
 {
 rw [if_pos c28] at H
 have c28b0 : decide (0 ≤ x19_1) = true := decide_eq_true c28
 clear c28
 by_cases c29 : x19_1 < (l0_2.length : Int)
 {
 rw [if_pos c29] at H
 have c29b0 : decide (x19_1 < (l0_2.length : Int)) = true := decide_eq_true c29
 clear c29
 replace H := Option.bind_eq_some_iff.mp H
 obtain ⟨t338, A300, H⟩ := H
 replace H : (if 1 + t338.size ≤ 9223372036854775807 then (if 1 + t338.size + 1 ≤ 9223372036854775807 then ((strings_Join.f x6_2 (⟨#[44]⟩ : ByteArray)).bind fun t339 => (if 1 + t338.size + 1 + t339.size ≤ 9223372036854775807 then (if x3_1.size + 1 + t338.size + 1 + t339.size ≤ 9223372036854775807 then (impl_LogText.l0 k2 (x3_1 ++ ((((⟨#[32]⟩ : ByteArray) ++ t338) ++ (⟨#[47]⟩ : ByteArray)) ++ t339)) l0_1 (l0_1.length : Int) (wrap64 (x19_1 + 1)) a0_0 l0_1 l0_2) else (none)) else (none))) else (none)) else (none)) = some r := H
 have A30 := ak A300
 clear A300
 by_cases c31 : 1 + t338.size ≤ 9223372036854775807
 {
 rw [if_pos c31] at H
 have c31b0 := eq_true c31
 have c31b1 : decide (1 + t338.size ≤ 9223372036854775807) = true := decide_eq_true c31
 try have c31b2 : (9223372036854775807 < 1 + t338.size) = False := eq_false (Nat.not_lt.2 c31)
 by_cases c32 : 1 + t338.size + 1 ≤ 9223372036854775807
 {
 rw [if_pos c32] at H
 have c32b0 := eq_true c32
 have c32b1 : decide (1 + t338.size + 1 ≤ 9223372036854775807) = true := decide_eq_true c32
 try have c32b2 : (9223372036854775807 < 1 + t338.size + 1) = False := eq_false (Nat.not_lt.2 c32)
 replace H := Option.bind_eq_some_iff.mp H
 obtain ⟨t339, A330, H⟩ := H
 replace H : (if 1 + t338.size + 1 + t339.size ≤ 9223372036854775807 then (if x3_1.size + 1 + t338.size + 1 + t339.size ≤ 9223372036854775807 then (impl_LogText.l0 k2 (x3_1 ++ ((((⟨#[32]⟩ : ByteArray) ++ t338) ++ (⟨#[47]⟩ : ByteArray)) ++ t339)) l0_1 (l0_1.length : Int) (wrap64 (x19_1 + 1)) a0_0 l0_1 l0_2) else (none)) else (none)) = some r := H
 have A33 := ak A330
 clear A330
 by_cases c34 : 1 + t338.size + 1 + t339.size ≤ 9223372036854775807
 {
 rw [if_pos c34] at H
 have c34b0 := eq_true c34
 have c34b1 : decide (1 + t338.size + 1 + t339.size ≤ 9223372036854775807) = true := decide_eq_true c34
 try have c34b2 : (9223372036854775807 < 1 + t338.size + 1 + t339.size) = False := eq_false (Nat.not_lt.2 c34)
 by_cases c35 : x3_1.size + 1 + t338.size + 1 + t339.size ≤ 9223372036854775807
 {
 rw [if_pos c35] at H
 have c35b0 := eq_true c35
 have c35b1 : decide (x3_1.size + 1 + t338.size + 1 + t339.size ≤ 9223372036854775807) = true := decide_eq_true c35
 try have c35b2 : (9223372036854775807 < x3_1.size + 1 + t338.size + 1 + t339.size) = False := eq_false (Nat.not_lt.2 c35)
 have H' := ak H
 clear H
 have hcz36_0 : wr.cell? ⟨gb322, 0, none⟩ = some (.int .i64 a0_0) := (blk_cell BK322.out 0).trans rfl
 have hcz36_1 : wr.cell? ⟨gb322, 1, none⟩ = some (.slice (some ad325) l0_1.length c0_1) := (blk_cell BK322.out 1).trans rfl
 have hcz36_2 : wr.cell? ⟨gb322, 2, none⟩ = some (.slice A0_2 l0_2.length c0_2) := (blk_cell BK322.out 2).trans rfl
 have hfz36_0 := blk_frozen BK322.out 0
 have hfz36_1 := blk_frozen BK322.out 1
 have hfz36_2 := blk_frozen BK322.out 2
 have p337 : 0 ≤ (x19_1 : Int) := of_decide_eq_true (by first | (with_reducible assumption) | assumption)
 have q337 : x19_1 < (l0_2.length : Int) := of_decide_eq_true (by first | (with_reducible assumption) | assumption)
 obtain ⟨ad337, e337, hx337_0⟩ := Kd.at_int HR0_2.out x19_1 p337 q337
 cases e337
 replace hx337_0 := (HB.out.cell (World.block_lt_of_cell? w _ hx337_0)).trans hx337_0
 replace p337 := eq_true p337
 replace q337 := eq_true q337
 go_wp2_with (first | ((with_reducible refine gate_callee (f := 46) rfl ?_); refine goesL_ (some 45) rfl rfl Tryd.func46 (by kernel_rfl) rfl #[.int .i64 (wrap64 (rd l0_2 x19_1))] rfl (by (try simp only [List.map_toArray, List.map_cons, List.map_nil]); first | done | rfl | (simp only [List.length_drop, List.length_take]; rfl)) ?_; (with_reducible refine (impl_decimal.calls (wrap64 (rd l0_2 x19_1))  t338 _ ?side1 A30.out).mono ?_); (case side1 => exact Go.Proofs.YtchnklikeimpiaaDoor.H.tab10_below HGT.out (zBG HB.out GE322.out)); rintro e w37 ⟨rfl, hb⟩; refine ⟨_, rfl, ?_⟩; have n0_ := ak (Kd.R_below (zR HO_6.out) hb); have n1_ := ak (Kd.R_below (zR HO_26.out) hb); have n2_ := ak (blk_below (g := gb322) (o := .cells #[.int .i64 a0_0, .slice (some ad325) l0_1.length c0_1, .slice (some ad337) l0_2.length c0_2] 39 (0, 0)) (zK BK322.out) hb); have n3_ := ak (below_step (zBG HB.out GE322.out) hb); clear HO_6 HO_26 BK322 HB; have HO_6 := n0_; have HO_26 := n1_; have BK322 := n2_; have HB := n3_; clear n0_ n1_ n2_ n3_; (try clear hb); (try clear hb2); (try clear hk); (try clear hi); obtain ⟨Ao38, co38, eo38⟩ := Kd.R_slice HO_6.out; subst eo38) | ((with_reducible refine gate_callee (f := 55) rfl ?_); refine goesL_ (some 49) rfl rfl Tryd.func55 (by kernel_rfl) rfl #[.slice Ao38 x6_2.length co38, .string (⟨#[44]⟩ : ByteArray)] rfl (by (try simp only [List.map_toArray, List.map_cons, List.map_nil]); first | done | rfl | (simp only [List.length_drop, List.length_take]; rfl)) ?_; (with_reducible refine (strings_Join.calls _ _ x6_2 (⟨#[44]⟩ : ByteArray) t339 _ ?side1 ?side2 A33.out).mono ?_); (case side1 => exact zC (Kd.R_reads' HO_6.out).2.2); (case side2 => exact (Kd.R_reads' HO_6.out).2.1); rintro e w39 ⟨rfl, hb⟩; refine ⟨_, rfl, ?_⟩; have n0_ := ak (Kd.R_below (zR HO_6.out) hb); have n1_ := ak (Kd.R_below (zR HO_26.out) hb); have n2_ := ak (blk_below (g := gb322) (o := .cells #[.int .i64 a0_0, .slice (some ad325) l0_1.length c0_1, .slice (some ad337) l0_2.length c0_2] 39 (0, 0)) (zK BK322.out) hb); have n3_ := ak (below_step (zBG HB.out GE322.out) hb); clear HO_6 HO_26 BK322 HB; have HO_6 := n0_; have HO_26 := n1_; have BK322 := n2_; have HB := n3_; clear n0_ n1_ n2_ n3_; (try clear hb); (try clear hb2); (try clear hk); (try clear hi)))
 go_roundg k2
 case measure => have := HK1.out; have := HK2.out; omega
 case rel => exact ⟨(x3_1 ++ ((((⟨#[32]⟩ : ByteArray) ++ t338) ++ (⟨#[47]⟩ : ByteArray)) ++ t339)), (wrap64 (x19_1 + 1)), (by first | rfl | (simp; done) | (simp [*]; done)), (by first | rfl | (simp; done) | (simp [*]; done)), H', ⟨by have := HK1.out; have := HK2.out; omega⟩, ⟨by (with_reducible repeat (first | refine blk_drewN ?_ _ | refine blk_drew ?_ | refine blk_alloc ?_ _)); exact BK322.out⟩, ⟨by repeat (first | (with_reducible first | exact HB.out | apply below_alloc | apply pw_below_drewN | apply below_drew1 | refine below_set ?_ GE322.out) | exact HB.out)⟩⟩
 }
 · rw [if_neg c35] at H; exact absurd H (by simp)
 }
 · rw [if_neg c34] at H; exact absurd H (by simp)
 }
 · rw [if_neg c32] at H; exact absurd H (by simp)
 }
 · rw [if_neg c31] at H; exact absurd H (by simp)
 }
 · rw [if_neg c29] at H; exact absurd H (by simp)
 }
 · rw [if_neg c28] at H; exact absurd H (by simp)
 }
 )
 )
 }
 · rw [if_neg c15] at H; exact absurd H (by simp)
 }
 · rw [if_neg c14] at H; exact absurd H (by simp)
 }
 {
 rw [if_neg c13] at H
 have c13b0 : decide (x19_1 < (l0_1.length : Int)) = false := decide_eq_false c13
 clear c13
 obtain rfl := Option.some.inj H
 go_wp2
 go_ret
 exact ⟨by first | rfl | (simp [errW_none, errW_some] <;> rfl) | (simp [*, errW_none, errW_some] <;> rfl), by repeat (first | (with_reducible first | exact HB.out | apply below_alloc | apply pw_below_drewN | apply below_drew1 | refine below_set ?_ GE322.out) | exact HB.out)⟩
 }
 )
 )
 }
 · rw [if_neg c6] at H; exact absurd H (by simp)
 }
 {
 replace c4 := Bool.eq_false_iff.mpr c4
 subst c4
 have H1 : (some (⟨#[]⟩ : ByteArray)) = some r := by rw [if_neg (show ¬ (false = true) by decide)] at H; exact H
 clear H
 have H := H1
 clear H1
 obtain rfl := Option.some.inj H
 go_enter Tryd.func37, Tryd.ntmps37
 go_wp2_with (first | ((with_reducible refine gate_dst (N := 1) rfl ?_); refine box_event ?hg (N := 1) ?hd (cs := #[.int .i64 a0_0, .slice A0_1 l0_1.length c0_1, .slice A0_2 l0_2.length c0_2]) (t := 39) ?hr ?_; (case hd => rfl); (case hg => rfl); (case hr => first | (go_simp; done) | (go_simp; rfl)); intro gb322 hg w40 hbox hb; have n0_ := ak (below_step (zB HB.out) hb); have n1_ := ak (hbox); have n2_ := ak ((by rw [hg]; exact (below_size (zB HB.out)) : w.heap.size ≤ gb322)); have n3_ := ak ((by rw [hg]; exact (below_size (zB HB.out)) : w.heap.size ≤ gb322)); clear HB; have HB := n0_; have BK322 := n1_; have GW322 := n2_; have GE322 := n3_; clear n0_ n1_ n2_ n3_; clear hb hbox hg; have hcz41_0 : w40.cell? ⟨gb322, 0, none⟩ = some (.int .i64 a0_0) := (blk_cell BK322.out 0).trans rfl; have hcz41_1 : w40.cell? ⟨gb322, 1, none⟩ = some (.slice A0_1 l0_1.length c0_1) := (blk_cell BK322.out 1).trans rfl; have hcz41_2 : w40.cell? ⟨gb322, 2, none⟩ = some (.slice A0_2 l0_2.length c0_2) := (blk_cell BK322.out 2).trans rfl; have hfz41_0 := blk_frozen BK322.out 0; have hfz41_1 := blk_frozen BK322.out 1; have hfz41_2 := blk_frozen BK322.out 2) | ((with_reducible refine gate_callee (f := 53) rfl ?_); refine goesL_ (some 10) rfl rfl Tryd.func53 (by kernel_rfl) rfl #[.agg #[.int .i64 a0_0, .slice A0_1 l0_1.length c0_1, .slice A0_2 l0_2.length c0_2]] rfl (by (try simp only [List.map_toArray, List.map_cons, List.map_nil]); first | done | rfl | (simp only [List.length_drop, List.length_take]; rfl)) ?_; (with_reducible refine (impl_ValidLog.calls k a0_0 _ _ l0_1 _ _ l0_2 false _ ?side1 ?side2 ?side3 ?side4 A3.out).mono ?_); (case side1 => repeat (first | exact (Kd.C_below HR0_1.out HB.out) | (with_reducible refine Kd.C_alloc ?_ _) | (with_reducible refine Kd.C_drewN ?_ _) | (with_reducible refine Kd.C_drew ?_))); (case side2 => exact HC0_1.out); (case side3 => repeat (first | exact (Kd.C_below HR0_2.out HB.out) | (with_reducible refine Kd.C_alloc ?_ _) | (with_reducible refine Kd.C_drewN ?_ _) | (with_reducible refine Kd.C_drew ?_))); (case side4 => exact HC0_2.out); rintro e w42 ⟨rfl, hb⟩; refine ⟨_, rfl, ?_⟩; have n0_ := ak (blk_below (g := gb322) (o := .cells #[.int .i64 a0_0, .slice A0_1 l0_1.length c0_1, .slice A0_2 l0_2.length c0_2] 39 (0, 0)) (zK BK322.out) hb); have n1_ := ak (below_step (zBG HB.out GE322.out) hb); clear BK322 HB; have BK322 := n0_; have HB := n1_; clear n0_ n1_; (try clear hb); (try clear hb2); (try clear hk); (try clear hi)))
 go_ret
 exact ⟨by first | rfl | (simp [errW_none, errW_some] <;> rfl) | (simp [*, errW_none, errW_some] <;> rfl), by repeat (first | (with_reducible first | exact HB.out | apply below_alloc | apply pw_below_drewN | apply below_drew1 | refine below_set ?_ GE322.out) | exact HB.out)⟩
 }
end Go.Proofs.YtchnklikeimpiaaDoor.P
