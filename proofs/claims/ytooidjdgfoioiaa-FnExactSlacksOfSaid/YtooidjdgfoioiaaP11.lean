-- Printed by wip/print (my turned copy of the kit's print) out of the translation; Lean checks it.
import Derived.Test.YtooidjdgfoioiaaP0
import Derived.Test.YtooidjdgfoioiaaP10
namespace Go.Proofs.Ytooidjdgfoioiaa.P
open Go.RowKit Go.Proofs.YtooidjdgfoioiaaW.PrintWords Go.Proofs.YtooidjdgfoioiaaW.PrintLast Go.Proofs.YtooidjdgfoioiaaW.PrintMore
attribute [local go_sem] max2_int min2_int max_two min_two max_three min_three max_four min_four   -- for this text's walks alone
set_option linter.unusedVariables false
set_option linter.unusedSimpArgs false

/-! ### impl_stepsAlong: function 47 -/
def impl_stepsAlong.l0 : Nat → List (S62) → List Int → Int → Int → Int → Int → Int → Int → Int → Int → Int → Int → Int → Int → Int → Option (List Int × Int)
  | 0, _, _, _, _, _, _, _, _, _, _, _, _, _, _, _ => none
  | k + 1, x1, x6, x7, x220000, x220001, x220002, x220003, x220004, x220005, x220006, x220007, x220008, x220009, x220010, x220011 => if x7 < (x1.length : Int) then (if 0 ≤ (wrap64 (x7 - 1)) then (if (wrap64 (x7 - 1)) < (x1.length : Int) then (if 0 ≤ x7 then ((impl_StepsBetween.f k x220000 x220001 x220002 x220003 x220004 x220005 x220006 x220007 x220008 x220009 x220010 x220011 ((rd_T62 x1 (wrap64 (x7 - 1))).f0) ((rd_T62 x1 (wrap64 (x7 - 1))).f1) ((rd_T62 x1 x7).f0) ((rd_T62 x1 x7).f1)).bind fun bt225 => (if bt225.2 = 0 then (if x6.length < 17592186044416 then (impl_stepsAlong.l0 k x1 (x6 ++ [bt225.1]) (wrap64 (x7 + 1)) x220000 x220001 x220002 x220003 x220004 x220005 x220006 x220007 x220008 x220009 x220010 x220011) else (none)) else (some (([] : List Int), bt225.2)))) else (none)) else (none)) else (none)) else (some (x6, 0))
def impl_stepsAlong.f (k : Nat) (a0_0 : Int) (a0_1 : Int) (a0_2 : Int) (a0_3 : Int) (a0_4 : Int) (a0_5 : Int) (a0_6 : Int) (a0_7 : Int) (a0_8 : Int) (a0_9 : Int) (a0_10 : Int) (a0_11 : Int) (l1 : List (S62)) : Option (List Int × Int) := impl_stepsAlong.l0 k l1 (([] : List Int)) 1 a0_0 a0_1 a0_2 a0_3 a0_4 a0_5 a0_6 a0_7 a0_8 a0_9 a0_10 a0_11
theorem impl_stepsAlong.mono_l : ∀ k, (∀ y0 y1 y2 y3 y4 y5 y6 y7 y8 y9 y10 y11 y12 y13 y14, LeO (impl_stepsAlong.l0 k y0 y1 y2 y3 y4 y5 y6 y7 y8 y9 y10 y11 y12 y13 y14) (impl_stepsAlong.l0 (k + 1) y0 y1 y2 y3 y4 y5 y6 y7 y8 y9 y10 y11 y12 y13 y14))
  | 0 => fun _ _ _ _ _ _ _ _ _ _ _ _ _ _ _ r h => by simp [impl_stepsAlong.l0] at h
  | k + 1 => by
    have ih0 := impl_stepsAlong.mono_l k
    · intro y0 y1 y2 y3 y4 y5 y6 y7 y8 y9 y10 y11 y12 y13 y14
      unfold impl_stepsAlong.l0
      repeat' first
      | (with_reducible exact ih0 ..)
      | (with_reducible exact impl_StepsBetween.mono ..)
      | (with_reducible exact LeO.refl ..)
      | (with_reducible exact LeO.none ..)
      | (with_reducible refine LeO.ite ?_ ?_)
      | (with_reducible refine LeO.bind ?_ (fun _ => ?_))
theorem impl_stepsAlong.mono : ∀ a0 a1 a2 a3 a4 a5 a6 a7 a8 a9 a10 a11 a12 k, LeO (impl_stepsAlong.f k a0 a1 a2 a3 a4 a5 a6 a7 a8 a9 a10 a11 a12) (impl_stepsAlong.f (k + 1) a0 a1 a2 a3 a4 a5 a6 a7 a8 a9 a10 a11 a12) := by
  intro a0 a1 a2 a3 a4 a5 a6 a7 a8 a9 a10 a11 a12 k
  have ih0 := impl_stepsAlong.mono_l k
  unfold impl_stepsAlong.f
  repeat' first
      | (with_reducible exact ih0 ..)
      | (with_reducible exact impl_StepsBetween.mono ..)
      | (with_reducible exact LeO.refl ..)
      | (with_reducible exact LeO.none ..)
      | (with_reducible refine LeO.ite ?_ ?_)
      | (with_reducible refine LeO.bind ?_ (fun _ => ?_))
def impl_stepsAlong.T5 : Bool × List (List Nat × List Nat) := (true, [([], []), ([], []), ([], []), ([2], [2]), ([1, 3], [1, 3]), ([4], [4]), ([], []), ([], []), ([6, 7], [6, 7]), ([8], [8]), ([0, 5, 9], [0, 5, 9]), ([10], [10]), ([11], [11]), ([11], [11]), ([12, 10, 0, 1, 2, 3, 4, 5, 6, 7, 8, 9, 10, 11, 12], [12]), ([13, 14, 0, 1, 2, 3, 4, 5, 6, 7, 8, 9, 10, 11, 12, 13, 14], [13])])
def impl_stepsAlong.B5 : List Nat := [0, 0, 0, 4, 14, 30, 0, 0, 192, 448, 1023, 2047, 4095, 4095, 8191, 32767]
theorem impl_stepsAlong.tab5 : rtab .any (opsOf Try.f47 5) = impl_stepsAlong.T5 := by kernel_rfl
theorem impl_stepsAlong.bits5 : waitsOk impl_stepsAlong.T5.2 impl_stepsAlong.B5 = true := by kernel_rfl
set_option maxHeartbeats 8000000 in
set_option maxRecDepth 100000 in
theorem impl_stepsAlong.calls (k : Nat) (a0_0 : Int) (a0_1 : Int) (a0_2 : Int) (a0_3 : Int) (a0_4 : Int) (a0_5 : Int) (a0_6 : Int) (a0_7 : Int) (a0_8 : Int) (a0_9 : Int) (a0_10 : Int) (a0_11 : Int) (A1 : Option Addr) (c1 : Nat) (l1 : List (S62)) (r1 : List Int) (r2 : Int) (w : World) (hr1 : Kd.C k62 w A1 l1.length l1) (hc1 : l1.length ≤ c1) (h : impl_stepsAlong.f k a0_0 a0_1 a0_2 a0_3 a0_4 a0_5 a0_6 a0_7 a0_8 a0_9 a0_10 a0_11 l1 = some (r1, r2)) :
    Calls Try.prog 47 #[.agg #[.int .i8 a0_0, .int .i8 a0_1, .int .u16 a0_2, .int .u16 a0_3, .int .u16 a0_4, .int .u16 a0_5, .int .u16 a0_6, .int .u16 a0_7, .int .u16 a0_8, .int .u16 a0_9, .int .u16 a0_10, .int .u16 a0_11], .slice A1 l1.length c1] w fun e w' => ∃ v0_ : Value, e = .returned (.tuple #[v0_, .int .i64 r2]) ∧ Kd.R (Kd.int .i64) 2 w' w.heap.size (fun _ => True) v0_ r1 ∧ Below w.heap.size w w' := by
 have hu35 := Try.underlying35
 have hu62 := Try.underlying62
 have HR1 := ak hr1
 have HC1 := ak hc1
 clear hr1 hc1
 have HB := ak (Below.refl w.heap.size w)
 have H := h
 unfold impl_stepsAlong.f at H
 clear h
 obtain ⟨y220, hy220⟩ : ∃ y_ : List Int, y_ = (([] : List Int)) := ⟨_, rfl⟩
 replace H : (impl_stepsAlong.l0 k l1 y220 1 a0_0 a0_1 a0_2 a0_3 a0_4 a0_5 a0_6 a0_7 a0_8 a0_9 a0_10 a0_11) = some (r1, r2) := by first | (rw [hy220]; with_reducible exact H) | (have H2_ := (Option.bind_some _ _).symm.trans H; rw [hy220]; with_reducible exact H2_) | (have H2_ := (Option.bind_some _ _).symm.trans H; with_reducible exact H2_) | with_reducible exact H | (rw [hy220]; exact H) | exact H
 have Ny220 := ak hy220
 clear hy220
 have H' := ak H
 clear H
 go_enter Try.func47, Try.ntmps47
 go_wp2_with (first | ((with_reducible refine gate_dst (N := 2) rfl ?_); refine box_event ?hg (N := 2) ?hd (cs := #[.int .i8 a0_0, .int .i8 a0_1, .int .u16 a0_2, .int .u16 a0_3, .int .u16 a0_4, .int .u16 a0_5, .int .u16 a0_6, .int .u16 a0_7, .int .u16 a0_8, .int .u16 a0_9, .int .u16 a0_10, .int .u16 a0_11]) (t := 35) ?hr ?_; (case hd => rfl); (case hg => rfl); (case hr => first | (go_simp; done) | (go_simp; rfl)); intro gb219 hg w3 hbox hb; have BK219 := ak (hbox); have GW219 := gS HB hg; have GE219 := gS HB hg; replace HB := kB HB hb; clear hb hbox hg) | ((with_reducible refine gate_dst (N := 10) rfl ?_); refine Kd.R_lit (Kd.int .i64) _ 2 ?hg (N := 10) ?hd (xs := ([] : List Int)) (inner := []) (ok := fun _ => True) (okp := fun _ => True) ?hr ?hp (fun _ hk => hk) trivial (Below.refl _ _) (Nat.le_refl _) (by simp) ?_; (case hd => rfl); (case hg => rfl); (case hr => first | (go_simp; done) | (go_simp; rfl)); (case hp => exact (Reps.none _ _)); intro v221 w4 ho5 hb hg_ hnew_; clear hg_ hnew_; (first | rw [← Ny220.out] at ho5 | (simp only [Int.reduceToNat] at ho5; rw [← Ny220.out] at ho5)); have HO222 := ak (Kd.R_lower ho5 (below_size (zBG HB.out GE219.out))); replace BK219 := kK BK219 hb; replace HB := kB1 HB GE219 hb; clear hb ho5))
 go_loopg [6, 7] k (fun kq v6 v7 w' => ∃ (x6_1 : List Int) (x7_1 : Int), v7 = .int .i64 x7_1 ∧ Aside0 (impl_stepsAlong.l0 kq l1 x6_1 x7_1 a0_0 a0_1 a0_2 a0_3 a0_4 a0_5 a0_6 a0_7 a0_8 a0_9 a0_10 a0_11 = some (r1, r2)) ∧ Aside0 (kq ≤ k) ∧ Aside0 (Kd.R (Kd.int .i64) 2 w' w.heap.size (fun _ => True) v6 x6_1) ∧ Aside0 (w'.heap[gb219]? = some (.cells #[.int .i8 a0_0, .int .i8 a0_1, .int .u16 a0_2, .int .u16 a0_3, .int .u16 a0_4, .int .u16 a0_5, .int .u16 a0_6, .int .u16 a0_7, .int .u16 a0_8, .int .u16 a0_9, .int .u16 a0_10, .int .u16 a0_11] 35 (0, 0))) ∧ Aside0 (Below w.heap.size w w'))
 case atStart => exact ⟨(y220), (1), (by first | rfl | (simp; done) | (simp [*]; done)), H', ⟨Nat.le_refl _⟩, ⟨(zR HO222.out)⟩, ⟨(zK BK219.out)⟩, ⟨zBG HB.out GE219.out⟩⟩
 case round => (
 clear H'
 try clear c1
 obtain ⟨x6_1, x7_1, rfl, HA, HK1, HO_6, BK219, HB⟩ := hrel
 cases gk with
 | zero => exact absurd HA.out (by simp [impl_stepsAlong.l0])
 | succ k1 => (
 have H := HA.out
 clear HA
 simp only [impl_stepsAlong.l0] at H
 by_cases c6 : x7_1 < (l1.length : Int)
 {
 rw [if_pos c6] at H
 have c6b0 : decide (x7_1 < (l1.length : Int)) = true := decide_eq_true c6
 clear c6
 obtain ⟨ji7, hji7⟩ : ∃ j_ : Int, (wrap64 (x7_1 - 1)) = j_ := ⟨_, rfl⟩
 first | rw [hji7] at H | simp only [hji7] at H
 have hji7w : (IntKind.i64.wrap (x7_1 - 1)) = ji7 := (i64_w _).trans hji7
 by_cases c8 : 0 ≤ (ji7)
 {
 rw [if_pos c8] at H
 have c8b0 : decide (0 ≤ (ji7)) = true := decide_eq_true c8
 clear c8
 by_cases c9 : (ji7) < (l1.length : Int)
 {
 rw [if_pos c9] at H
 have c9b0 : decide ((ji7) < (l1.length : Int)) = true := decide_eq_true c9
 clear c9
 by_cases c10 : 0 ≤ x7_1
 {
 rw [if_pos c10] at H
 have c10b0 : decide (0 ≤ x7_1) = true := decide_eq_true c10
 clear c10
 replace H := Option.bind_eq_some_iff.mp H
 obtain ⟨⟨t225, t226⟩, A110, H⟩ := H
 have A11 := ak A110
 clear A110
 by_cases c12 : t226 = 0
 {
 rw [if_pos c12] at H
 have c12b0 : (t226 == 0) = true := beq_iff_eq.mpr c12
 have c12b1 : (t226 != 0) = false := bne_eq_false_iff_eq.mpr c12
 clear c12
 by_cases c13 : x6_1.length < 17592186044416
 {
 rw [if_pos c13] at H
 have LMc13 := ak c13
 clear c13
 obtain ⟨y227, hy227⟩ : ∃ y_ : List Int, y_ = (x6_1 ++ [t225]) := ⟨_, rfl⟩
 replace H : (impl_stepsAlong.l0 k1 l1 y227 (wrap64 (x7_1 + 1)) a0_0 a0_1 a0_2 a0_3 a0_4 a0_5 a0_6 a0_7 a0_8 a0_9 a0_10 a0_11) = some (r1, r2) := by first | (rw [hy227]; with_reducible exact H) | (have H2_ := (Option.bind_some _ _).symm.trans H; rw [hy227]; with_reducible exact H2_) | (have H2_ := (Option.bind_some _ _).symm.trans H; with_reducible exact H2_) | with_reducible exact H | (rw [hy227]; exact H) | exact H
 have Ny227 := ak hy227
 clear hy227
 have H' := ak H
 clear H
 try go_wp2
 replace HO_6 := ak (Kd.R_drew HO_6.out)
 replace BK219 := ak (blk_drew BK219.out)
 replace HB := ak (below_drew1 HB.out)
 have p223 : 0 ≤ ((ji7) : Int) := of_decide_eq_true (by first | (with_reducible assumption) | assumption)
 have q223 : (ji7) < (l1.length : Int) := of_decide_eq_true (by first | (with_reducible assumption) | assumption)
 obtain ⟨ad223, e223, hx223_0, hx223_1⟩ := at_T62 HR1.out (ji7) p223 q223
 have hw223_1 := hx223_1
 have hw223_0 := hx223_0
 cases e223
 replace hx223_0 := (HB.out.cell (World.block_lt_of_cell? w _ hx223_0)).trans hx223_0
 replace hx223_1 := (HB.out.cell (World.block_lt_of_cell? w _ hx223_1)).trans hx223_1
 replace p223 := eq_true p223
 replace q223 := eq_true q223
 have p224 : 0 ≤ (x7_1 : Int) := of_decide_eq_true (by first | (with_reducible assumption) | assumption)
 have q224 : x7_1 < (l1.length : Int) := of_decide_eq_true (by first | (with_reducible assumption) | assumption)
 obtain ⟨ad224, e224, hx224_0, hx224_1⟩ := at_T62 HR1.out x7_1 p224 q224
 have hw224_1 := hx224_1
 have hw224_0 := hx224_0
 obtain rfl : ad223 = ad224 := (by injection e224)
 replace hx224_0 := (HB.out.cell (World.block_lt_of_cell? w _ hx224_0)).trans hx224_0
 replace hx224_1 := (HB.out.cell (World.block_lt_of_cell? w _ hx224_1)).trans hx224_1
 replace p224 := eq_true p224
 replace q224 := eq_true q224
 refine start_ (n := 16) (S := fun w' => w'.cell? ⟨gb219, 0, none⟩ = some (.int .i8 a0_0) ∧ w'.cell? ⟨gb219, 1, none⟩ = some (.int .i8 a0_1) ∧ w'.cell? ⟨gb219, 2, none⟩ = some (.int .u16 a0_2) ∧ w'.cell? ⟨gb219, 3, none⟩ = some (.int .u16 a0_3) ∧ w'.cell? ⟨gb219, 4, none⟩ = some (.int .u16 a0_4) ∧ w'.cell? ⟨gb219, 5, none⟩ = some (.int .u16 a0_5) ∧ w'.cell? ⟨gb219, 6, none⟩ = some (.int .u16 a0_6) ∧ w'.cell? ⟨gb219, 7, none⟩ = some (.int .u16 a0_7) ∧ w'.cell? ⟨gb219, 8, none⟩ = some (.int .u16 a0_8) ∧ w'.cell? ⟨gb219, 9, none⟩ = some (.int .u16 a0_9) ∧ w'.cell? ⟨gb219, 10, none⟩ = some (.int .u16 a0_10) ∧ w'.cell? ⟨gb219, 11, none⟩ = some (.int .u16 a0_11) ∧ w'.cell? (ad223.add (((ji7)).toNat * 2)) = some (.int .i8 ((rd_T62 l1 (ji7)).f0)) ∧ w'.cell? ⟨(ad223.add (((ji7)).toNat * 2)).block, (ad223.add (((ji7)).toNat * 2)).off + 1, none⟩ = some (.int .i8 ((rd_T62 l1 (ji7)).f1)) ∧ w'.cell? (ad223.add ((x7_1).toNat * 2)) = some (.int .i8 ((rd_T62 l1 x7_1).f0)) ∧ w'.cell? ⟨(ad223.add ((x7_1).toNat * 2)).block, (ad223.add ((x7_1).toNat * 2)).off + 1, none⟩ = some (.int .i8 ((rd_T62 l1 x7_1).f1))) (ds := []) (bA 16 0) (by kernel_rfl) rfl rfl ⟨(blk_cell BK219.out 0).trans rfl, (blk_cell BK219.out 1).trans rfl, (blk_cell BK219.out 2).trans rfl, (blk_cell BK219.out 3).trans rfl, (blk_cell BK219.out 4).trans rfl, (blk_cell BK219.out 5).trans rfl, (blk_cell BK219.out 6).trans rfl, (blk_cell BK219.out 7).trans rfl, (blk_cell BK219.out 8).trans rfl, (blk_cell BK219.out 9).trans rfl, (blk_cell BK219.out 10).trans rfl, (blk_cell BK219.out 11).trans rfl, ((HB.out.cell (World.block_lt_of_cell? w _ hw223_0)).trans hw223_0), ((HB.out.cell (World.block_lt_of_cell? w _ hw223_1)).trans hw223_1), ((HB.out.cell (World.block_lt_of_cell? w _ hw224_0)).trans hw224_0), ((HB.out.cell (World.block_lt_of_cell? w _ hw224_1)).trans hw224_1)⟩ (fun hHeld => ?_); refine with_tabW impl_stepsAlong.tab5 impl_stepsAlong.bits5 (fun HT_ HW_ => ?_)
 generalize wr.drew = w14 at HO_6 BK219 HB hx223_0 hx223_1 hx224_0 hx224_1 hHeld ⊢
 refine pU 1 19 (bA 16 2) HT_ ?_
 refine pU 2 20 (bA 16 6) HT_ ?_
 refine pU 3 21 (bA 16 14) HT_ ?_
 refine pU 4 22 (bA 16 30) HT_ ?_
 refine pU 6 24 (bA 16 94) HT_ ?_
 refine pU 7 25 (bA 16 222) HT_ ?_
 refine pU 8 26 (bA 16 478) HT_ ?_
 refine tK 0 18 (bA 16 479) HT_ HW_ hHeld ?_
 refine tK 5 23 (bA 16 511) HT_ HW_ hHeld ?_
 refine tK 9 27 (bA 16 1023) HT_ HW_ hHeld ?_
 refine one_ (i := 10) (N := some 28) (bA 16 2047) rfl rfl (one_of HT_.out (by kernel_rfl)) (by decide) (fun K hK => ?_)
 refine goes_ Try.func79 (by kernel_rfl) rfl #[.agg #[.int .i8 a0_0, .int .i8 a0_1, .int .u16 a0_2, .int .u16 a0_3, .int .u16 a0_4, .int .u16 a0_5, .int .u16 a0_6, .int .u16 a0_7, .int .u16 a0_8, .int .u16 a0_9, .int .u16 a0_10, .int .u16 a0_11], .agg #[.int .i8 ((rd_T62 l1 (ji7)).f0), .int .i8 ((rd_T62 l1 (ji7)).f1)], .agg #[.int .i8 ((rd_T62 l1 x7_1).f0), .int .i8 ((rd_T62 l1 x7_1).f1)]] (by rfl) rfl rfl (by (try simp only [List.map_toArray, List.map_cons, List.map_nil]); first | done | (simp only [hji7]; rfl) | rfl | (simp only [List.length_drop, List.length_take]; rfl)) ?_
 with_reducible refine (impl_StepsBetween.calls k1 a0_0 a0_1 a0_2 a0_3 a0_4 a0_5 a0_6 a0_7 a0_8 a0_9 a0_10 a0_11 ((rd_T62 l1 (ji7)).f0) ((rd_T62 l1 (ji7)).f1) ((rd_T62 l1 x7_1).f0) ((rd_T62 l1 x7_1).f1) t225 t226 _ A11.out).mono ?_
 rintro e w15 ⟨rfl, hb⟩
 refine ⟨_, rfl, ?_⟩
 replace HO_6 := kR HO_6 hb
 replace BK219 := kK BK219 hb
 replace HB := kB1 HB GE219 hb
 (try clear hb)
 refine hK.out _ _ ⟨(blk_cell BK219.out 0).trans rfl, (blk_cell BK219.out 1).trans rfl, (blk_cell BK219.out 2).trans rfl, (blk_cell BK219.out 3).trans rfl, (blk_cell BK219.out 4).trans rfl, (blk_cell BK219.out 5).trans rfl, (blk_cell BK219.out 6).trans rfl, (blk_cell BK219.out 7).trans rfl, (blk_cell BK219.out 8).trans rfl, (blk_cell BK219.out 9).trans rfl, (blk_cell BK219.out 10).trans rfl, (blk_cell BK219.out 11).trans rfl, ((HB.out.cell (World.block_lt_of_cell? w _ hw223_0)).trans hw223_0), ((HB.out.cell (World.block_lt_of_cell? w _ hw223_1)).trans hw223_1), ((HB.out.cell (World.block_lt_of_cell? w _ hw224_0)).trans hw224_0), ((HB.out.cell (World.block_lt_of_cell? w _ hw224_1)).trans hw224_1)⟩ (fun hHeld => ?_)
 clear hK K
 refine norm_ (a' := ?_) ?_ ?_
 rotate_left
 {
 show Act.put _ (some 28) _ = _
 simp only [Act.put, zs, zz, zk, i64_w, i32_w]
 rfl
 }
 refine pU 11 17 (bA 16 4095) HT_ ?_
 refine pU 12 29 (bA 16 8191) HT_ ?_
 refine pU 13 30 (bA 16 16383) HT_ ?_
 refine pU 14 8 (bA 16 32767) HT_ ?_
 refine pU 15 9 (bA 16 65535) HT_ ?_
 refine done_ (done_of HT_.out (by kernel_rfl)) ?_
 try go_wp2_with (first | ((with_reducible refine gate_builtin (b := .append) (xs := #[.tmp 34, .tmp 36]) rfl ?_); at_builtin; refine Kd.R_append (Kd.int .i64) (w0 := w) w.heap.size rfl (.tmp 34) (.tmp 36) 66 2 (.int .i64 0) 8 rfl Try.underlying66 info2 rfl (by decide) (by omega) u6 x6_1 t225 [.int .i64 t225] (fun _ => True) (fun _ => False) rfl rfl ?aP (fun _ hk => hk.elim) ?aF ?aO ?aB ?aS ?aL ?_; (case aP => exact rfl); (case aB => exact (zBG HB.out GE219.out)); (case aF => exact (fun _ _ => trivial)); (case aO => exact (zR HO_6.out)); (case aS => exact (below_size (zBG HB.out GE219.out))); (case aL => have := LMc13.out; omega); intro v228 w16 ho hb hg hat; rw [← Ny227.out] at ho; have n0_ := ak (blk_grown (g := gb219) (o := .cells #[.int .i8 a0_0, .int .i8 a0_1, .int .u16 a0_2, .int .u16 a0_3, .int .u16 a0_4, .int .u16 a0_5, .int .u16 a0_6, .int .u16 a0_7, .int .u16 a0_8, .int .u16 a0_9, .int .u16 a0_10, .int .u16 a0_11] 35 (0, 0)) (zK BK219.out) hg (Kd.R_ne HO_6.out BK219.out (by decide))); have n1_ := ak (hb); have n2_ := ak (ho); clear BK219 HB HO_6; have BK219 := n0_; have HB := n1_; have HO229 := n2_; clear n0_ n1_ n2_; clear ho hb hg hat))
 go_roundg k1
 case measure => have := HK1.out; omega
 case rel => exact ⟨(y227), (wrap64 (x7_1 + 1)), (by first | rfl | (simp; done) | (simp [*]; done)), H', ⟨by have := HK1.out; omega⟩, ⟨(zR HO229.out)⟩, ⟨(zK BK219.out)⟩, ⟨zBG HB.out GE219.out⟩⟩
 }
 · rw [if_neg c13] at H; exact absurd H (by simp)
 }
 {
 rw [if_neg c12] at H
 have c12b0 : (t226 == 0) = false := beq_eq_false_iff_ne.mpr c12
 have c12b1 : (t226 != 0) = true := bne_iff_ne.mpr c12
 simp only [Option.some.injEq, Prod.mk.injEq] at H
 obtain ⟨rfl, rfl⟩ := H
 try go_wp2
 replace HO_6 := ak (Kd.R_drew HO_6.out)
 replace BK219 := ak (blk_drew BK219.out)
 replace HB := ak (below_drew1 HB.out)
 have p223 : 0 ≤ ((ji7) : Int) := of_decide_eq_true (by first | (with_reducible assumption) | assumption)
 have q223 : (ji7) < (l1.length : Int) := of_decide_eq_true (by first | (with_reducible assumption) | assumption)
 obtain ⟨ad223, e223, hx223_0, hx223_1⟩ := at_T62 HR1.out (ji7) p223 q223
 have hw223_1 := hx223_1
 have hw223_0 := hx223_0
 cases e223
 replace hx223_0 := (HB.out.cell (World.block_lt_of_cell? w _ hx223_0)).trans hx223_0
 replace hx223_1 := (HB.out.cell (World.block_lt_of_cell? w _ hx223_1)).trans hx223_1
 replace p223 := eq_true p223
 replace q223 := eq_true q223
 have p224 : 0 ≤ (x7_1 : Int) := of_decide_eq_true (by first | (with_reducible assumption) | assumption)
 have q224 : x7_1 < (l1.length : Int) := of_decide_eq_true (by first | (with_reducible assumption) | assumption)
 obtain ⟨ad224, e224, hx224_0, hx224_1⟩ := at_T62 HR1.out x7_1 p224 q224
 have hw224_1 := hx224_1
 have hw224_0 := hx224_0
 obtain rfl : ad223 = ad224 := (by injection e224)
 replace hx224_0 := (HB.out.cell (World.block_lt_of_cell? w _ hx224_0)).trans hx224_0
 replace hx224_1 := (HB.out.cell (World.block_lt_of_cell? w _ hx224_1)).trans hx224_1
 replace p224 := eq_true p224
 replace q224 := eq_true q224
 refine start_ (n := 16) (S := fun w' => w'.cell? ⟨gb219, 0, none⟩ = some (.int .i8 a0_0) ∧ w'.cell? ⟨gb219, 1, none⟩ = some (.int .i8 a0_1) ∧ w'.cell? ⟨gb219, 2, none⟩ = some (.int .u16 a0_2) ∧ w'.cell? ⟨gb219, 3, none⟩ = some (.int .u16 a0_3) ∧ w'.cell? ⟨gb219, 4, none⟩ = some (.int .u16 a0_4) ∧ w'.cell? ⟨gb219, 5, none⟩ = some (.int .u16 a0_5) ∧ w'.cell? ⟨gb219, 6, none⟩ = some (.int .u16 a0_6) ∧ w'.cell? ⟨gb219, 7, none⟩ = some (.int .u16 a0_7) ∧ w'.cell? ⟨gb219, 8, none⟩ = some (.int .u16 a0_8) ∧ w'.cell? ⟨gb219, 9, none⟩ = some (.int .u16 a0_9) ∧ w'.cell? ⟨gb219, 10, none⟩ = some (.int .u16 a0_10) ∧ w'.cell? ⟨gb219, 11, none⟩ = some (.int .u16 a0_11) ∧ w'.cell? (ad223.add (((ji7)).toNat * 2)) = some (.int .i8 ((rd_T62 l1 (ji7)).f0)) ∧ w'.cell? ⟨(ad223.add (((ji7)).toNat * 2)).block, (ad223.add (((ji7)).toNat * 2)).off + 1, none⟩ = some (.int .i8 ((rd_T62 l1 (ji7)).f1)) ∧ w'.cell? (ad223.add ((x7_1).toNat * 2)) = some (.int .i8 ((rd_T62 l1 x7_1).f0)) ∧ w'.cell? ⟨(ad223.add ((x7_1).toNat * 2)).block, (ad223.add ((x7_1).toNat * 2)).off + 1, none⟩ = some (.int .i8 ((rd_T62 l1 x7_1).f1))) (ds := []) (bA 16 0) (by kernel_rfl) rfl rfl ⟨(blk_cell BK219.out 0).trans rfl, (blk_cell BK219.out 1).trans rfl, (blk_cell BK219.out 2).trans rfl, (blk_cell BK219.out 3).trans rfl, (blk_cell BK219.out 4).trans rfl, (blk_cell BK219.out 5).trans rfl, (blk_cell BK219.out 6).trans rfl, (blk_cell BK219.out 7).trans rfl, (blk_cell BK219.out 8).trans rfl, (blk_cell BK219.out 9).trans rfl, (blk_cell BK219.out 10).trans rfl, (blk_cell BK219.out 11).trans rfl, ((HB.out.cell (World.block_lt_of_cell? w _ hw223_0)).trans hw223_0), ((HB.out.cell (World.block_lt_of_cell? w _ hw223_1)).trans hw223_1), ((HB.out.cell (World.block_lt_of_cell? w _ hw224_0)).trans hw224_0), ((HB.out.cell (World.block_lt_of_cell? w _ hw224_1)).trans hw224_1)⟩ (fun hHeld => ?_); refine with_tabW impl_stepsAlong.tab5 impl_stepsAlong.bits5 (fun HT_ HW_ => ?_)
 generalize wr.drew = w17 at HO_6 BK219 HB hx223_0 hx223_1 hx224_0 hx224_1 hHeld ⊢
 refine pU 1 19 (bA 16 2) HT_ ?_
 refine pU 2 20 (bA 16 6) HT_ ?_
 refine pU 3 21 (bA 16 14) HT_ ?_
 refine pU 4 22 (bA 16 30) HT_ ?_
 refine pU 6 24 (bA 16 94) HT_ ?_
 refine pU 7 25 (bA 16 222) HT_ ?_
 refine pU 8 26 (bA 16 478) HT_ ?_
 refine tK 0 18 (bA 16 479) HT_ HW_ hHeld ?_
 refine tK 5 23 (bA 16 511) HT_ HW_ hHeld ?_
 refine tK 9 27 (bA 16 1023) HT_ HW_ hHeld ?_
 refine one_ (i := 10) (N := some 28) (bA 16 2047) rfl rfl (one_of HT_.out (by kernel_rfl)) (by decide) (fun K hK => ?_)
 refine goes_ Try.func79 (by kernel_rfl) rfl #[.agg #[.int .i8 a0_0, .int .i8 a0_1, .int .u16 a0_2, .int .u16 a0_3, .int .u16 a0_4, .int .u16 a0_5, .int .u16 a0_6, .int .u16 a0_7, .int .u16 a0_8, .int .u16 a0_9, .int .u16 a0_10, .int .u16 a0_11], .agg #[.int .i8 ((rd_T62 l1 (ji7)).f0), .int .i8 ((rd_T62 l1 (ji7)).f1)], .agg #[.int .i8 ((rd_T62 l1 x7_1).f0), .int .i8 ((rd_T62 l1 x7_1).f1)]] (by rfl) rfl rfl (by (try simp only [List.map_toArray, List.map_cons, List.map_nil]); first | done | (simp only [hji7]; rfl) | rfl | (simp only [List.length_drop, List.length_take]; rfl)) ?_
 with_reducible refine (impl_StepsBetween.calls k1 a0_0 a0_1 a0_2 a0_3 a0_4 a0_5 a0_6 a0_7 a0_8 a0_9 a0_10 a0_11 ((rd_T62 l1 (ji7)).f0) ((rd_T62 l1 (ji7)).f1) ((rd_T62 l1 x7_1).f0) ((rd_T62 l1 x7_1).f1) t225 t226 _ A11.out).mono ?_
 rintro e w18 ⟨rfl, hb⟩
 refine ⟨_, rfl, ?_⟩
 replace HO_6 := kR HO_6 hb
 replace BK219 := kK BK219 hb
 replace HB := kB1 HB GE219 hb
 (try clear hb)
 refine hK.out _ _ ⟨(blk_cell BK219.out 0).trans rfl, (blk_cell BK219.out 1).trans rfl, (blk_cell BK219.out 2).trans rfl, (blk_cell BK219.out 3).trans rfl, (blk_cell BK219.out 4).trans rfl, (blk_cell BK219.out 5).trans rfl, (blk_cell BK219.out 6).trans rfl, (blk_cell BK219.out 7).trans rfl, (blk_cell BK219.out 8).trans rfl, (blk_cell BK219.out 9).trans rfl, (blk_cell BK219.out 10).trans rfl, (blk_cell BK219.out 11).trans rfl, ((HB.out.cell (World.block_lt_of_cell? w _ hw223_0)).trans hw223_0), ((HB.out.cell (World.block_lt_of_cell? w _ hw223_1)).trans hw223_1), ((HB.out.cell (World.block_lt_of_cell? w _ hw224_0)).trans hw224_0), ((HB.out.cell (World.block_lt_of_cell? w _ hw224_1)).trans hw224_1)⟩ (fun hHeld => ?_)
 clear hK K
 refine norm_ (a' := ?_) ?_ ?_
 rotate_left
 {
 show Act.put _ (some 28) _ = _
 simp only [Act.put, zs, zz, zk, i64_w, i32_w]
 rfl
 }
 refine pU 11 17 (bA 16 4095) HT_ ?_
 refine pU 12 29 (bA 16 8191) HT_ ?_
 refine pU 13 30 (bA 16 16383) HT_ ?_
 refine pU 14 8 (bA 16 32767) HT_ ?_
 refine pU 15 9 (bA 16 65535) HT_ ?_
 refine done_ (done_of HT_.out (by kernel_rfl)) ?_
 try go_wp2
 go_ret2
 exact ⟨_, by first | rfl | (simp [errW_none, errW_some] <;> rfl) | (simp only [← hji7]; first | rfl | (simp [errW_none, errW_some] <;> rfl)) | (simp [*, errW_none, errW_some] <;> rfl), by first | exact Kd.R_nil _ _ _ _ _ | exact Kd.N_nil _ _ _ _ _ | exact Kd.V_nil _ _ _ _ _ | exact Kd.Q_nil _ _ _ _ _ | exact Kd.S_nil _ _ _ _ _, zBG HB.out GE219.out⟩
 }
 }
 · rw [if_neg c10] at H; exact absurd H (by simp)
 }
 · rw [if_neg c9] at H; exact absurd H (by simp)
 }
 · rw [if_neg c8] at H; exact absurd H (by simp)
 }
 {
 rw [if_neg c6] at H
 have c6b0 : decide (x7_1 < (l1.length : Int)) = false := decide_eq_false c6
 clear c6
 simp only [Option.some.injEq, Prod.mk.injEq] at H
 obtain ⟨rfl, rfl⟩ := H
 go_wp2
 go_ret2
 exact ⟨_, by first | rfl | (simp [errW_none, errW_some] <;> rfl) | (simp [*, errW_none, errW_some] <;> rfl), by (with_reducible repeat (first | apply Kd.R_alloc | apply Kd.R_drewN | apply Kd.R_drew)); exact HO_6.out, zBG HB.out GE219.out⟩
 }
 )
 )
end Go.Proofs.Ytooidjdgfoioiaa.P
