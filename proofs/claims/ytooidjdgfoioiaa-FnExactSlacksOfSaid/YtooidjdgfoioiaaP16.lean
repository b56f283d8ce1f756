-- Printed by wip/print (my turned copy of the kit's print) out of the translation; Lean checks it.
import Derived.Test.YtooidjdgfoioiaaP0
namespace Go.Proofs.Ytooidjdgfoioiaa.P
open Go.RowKit Go.Proofs.YtooidjdgfoioiaaW.PrintWords Go.Proofs.YtooidjdgfoioiaaW.PrintLast Go.Proofs.YtooidjdgfoioiaaW.PrintMore
attribute [local go_sem] max2_int min2_int max_two min_two max_three min_three max_four min_four   -- for this text's walks alone
set_option linter.unusedVariables false
set_option linter.unusedSimpArgs false

/-! ### spec_l03Gaps: function 70 -/
def spec_l03Gaps.l0 : Nat → List (S65) → List Int → Int → Int → List Int → Option (List Int)
  | 0, _, _, _, _, _ => none
  | k + 1, x1, x5, x6, x1000, x1001 => if x6 < (x1.length : Int) then (if 0 ≤ x6 then (if 0 ≤ ((rd_T65 x1 x6).f1) then (if ((rd_T65 x1 x6).f1) < (x1001.length : Int) then (if 0 ≤ (wrap64 (x6 - 1)) then (if (wrap64 (x6 - 1)) < (x1.length : Int) then (if 0 ≤ ((rd_T65 x1 (wrap64 (x6 - 1))).f1) then (if ((rd_T65 x1 (wrap64 (x6 - 1))).f1) < (x1001.length : Int) then (if x5.length < 17592186044416 then (spec_l03Gaps.l0 k x1 (x5 ++ [wrap64 ((wrap64 (rd x1001 ((rd_T65 x1 x6).f1))) - (wrap64 (rd x1001 ((rd_T65 x1 (wrap64 (x6 - 1))).f1))))]) (wrap64 (x6 + 1)) x1000 x1001) else (none)) else (none)) else (none)) else (none)) else (none)) else (none)) else (none)) else (none)) else (some x5)
def spec_l03Gaps.f (k : Nat) (a0_0 : Int) (l0_1 : List Int) (l1 : List (S65)) : Option (List Int) := spec_l03Gaps.l0 k l1 (([] : List Int)) 1 a0_0 l0_1
theorem spec_l03Gaps.mono_l : ∀ k, (∀ y0 y1 y2 y3 y4, LeO (spec_l03Gaps.l0 k y0 y1 y2 y3 y4) (spec_l03Gaps.l0 (k + 1) y0 y1 y2 y3 y4))
  | 0 => fun _ _ _ _ _ r h => by simp [spec_l03Gaps.l0] at h
  | k + 1 => by
    have ih0 := spec_l03Gaps.mono_l k
    · intro y0 y1 y2 y3 y4
      unfold spec_l03Gaps.l0
      repeat' first
      | (with_reducible exact ih0 ..)
      | (with_reducible exact LeO.refl ..)
      | (with_reducible exact LeO.none ..)
      | (with_reducible refine LeO.ite ?_ ?_)
      | (with_reducible refine LeO.bind ?_ (fun _ => ?_))
theorem spec_l03Gaps.mono : ∀ a0 a1 a2 k, LeO (spec_l03Gaps.f k a0 a1 a2) (spec_l03Gaps.f (k + 1) a0 a1 a2) := by
  intro a0 a1 a2 k
  have ih0 := spec_l03Gaps.mono_l k
  unfold spec_l03Gaps.f
  repeat' first
      | (with_reducible exact ih0 ..)
      | (with_reducible exact LeO.refl ..)
      | (with_reducible exact LeO.none ..)
      | (with_reducible refine LeO.ite ?_ ?_)
      | (with_reducible refine LeO.bind ?_ (fun _ => ?_))
def spec_l03Gaps.T5 : Bool × List (List Nat × List Nat) := (true, [([], []), ([], []), ([1], [1]), ([2], [2]), ([3], [3]), ([], []), ([], []), ([5, 6], [5, 6]), ([7], [7]), ([8], [8]), ([4, 9], [4, 9]), ([10], [10]), ([11], [11]), ([], []), ([13], [13]), ([14], [14]), ([15], [15]), ([], []), ([], []), ([18], [18]), ([17, 19], [17, 19]), ([20], [20]), ([21], [21]), ([16, 22], [16, 22]), ([23], [23]), ([24], [24]), ([12, 25], [12, 25]), ([26], [26]), ([0, 27], [0, 27]), ([28, 28, 0, 1, 2, 3, 4, 5, 6, 7, 8, 9, 10, 11, 12, 13, 14, 15, 16, 17, 18, 19, 20, 21, 22, 23, 24, 25, 26, 27, 28], [0, 28])])
def spec_l03Gaps.B5 : List Nat := [0, 0, 2, 6, 14, 0, 0, 96, 224, 480, 1022, 2046, 4094, 0, 8192, 24576, 57344, 0, 0, 262144, 917504, 1966080, 4063232, 8380416, 16769024, 33546240, 67108862, 134217726, 268435455, 536870911]
theorem spec_l03Gaps.tab5 : rtab .any (opsOf Try.f70 5) = spec_l03Gaps.T5 := by kernel_rfl
theorem spec_l03Gaps.bits5 : waitsOk spec_l03Gaps.T5.2 spec_l03Gaps.B5 = true := by kernel_rfl
set_option maxHeartbeats 8000000 in
set_option maxRecDepth 100000 in
theorem spec_l03Gaps.calls (k : Nat) (b0 : Nat) (a0_0 : Int) (A0_1 : Option Addr) (c0_1 : Nat) (l0_1 : List Int) (A1 : Option Addr) (c1 : Nat) (l1 : List (S65)) (r : List Int) (w : World) (hr0_1 : Kd.C (Kd.int .i16) w A0_1 l0_1.length l0_1) (hc0_1 : l0_1.length ≤ c0_1) (hr1 : Kd.C k65 w A1 l1.length l1) (hc1 : l1.length ≤ c1) (hx0 : w.heap[b0]? = some (.cells #[.int .i16 a0_0, .slice A0_1 l0_1.length c0_1] 32 (0, 0))) (h : spec_l03Gaps.f k a0_0 l0_1 l1 = some r) :
    Calls Try.prog 70 #[.pointer (some ⟨b0, 0, none⟩), .slice A1 l1.length c1] w fun e w' => ∃ v0_ : Value, e = .returned (v0_) ∧ Kd.R (Kd.int .i64) 2 w' w.heap.size (fun _ => True) v0_ r ∧ Below w.heap.size w w' := by
 have HR0_1 := ak hr0_1
 have HC0_1 := ak hc0_1
 clear hr0_1 hc0_1
 have HR1 := ak hr1
 have HC1 := ak hc1
 clear hr1 hc1
 have BK0 := ak hx0
 clear hx0
 have HB := ak (Below.refl w.heap.size w)
 have H := h
 unfold spec_l03Gaps.f at H
 clear h
 obtain ⟨y382, hy382⟩ : ∃ y_ : List Int, y_ = (([] : List Int)) := ⟨_, rfl⟩
 replace H : (spec_l03Gaps.l0 k l1 y382 1 a0_0 l0_1) = some r := by first | (rw [hy382]; with_reducible exact H) | (have H2_ := (Option.bind_some _ _).symm.trans H; rw [hy382]; with_reducible exact H2_) | (have H2_ := (Option.bind_some _ _).symm.trans H; with_reducible exact H2_) | with_reducible exact H | (rw [hy382]; exact H) | exact H
 have Ny382 := ak hy382
 clear hy382
 have H' := ak H
 clear H
 go_enter Try.func70, Try.ntmps70
 go_wp2_with (first | ((with_reducible refine gate_dst (N := 7) rfl ?_); refine Kd.R_lit (Kd.int .i64) _ 2 ?hg (N := 7) ?hd (xs := ([] : List Int)) (inner := []) (ok := fun _ => True) (okp := fun _ => True) ?hr ?hp (fun _ hk => hk) trivial (Below.refl _ _) (Nat.le_refl _) (by simp) ?_; (case hd => rfl); (case hg => rfl); (case hr => first | (go_simp; done) | (go_simp; rfl)); (case hp => exact (Reps.none _ _)); intro v383 w3 ho4 hb hg_ hnew_; clear hg_ hnew_; (first | rw [← Ny382.out] at ho4 | (simp only [Int.reduceToNat] at ho4; rw [← Ny382.out] at ho4)); have HO384 := ak (Kd.R_lower ho4 (below_size (zB HB.out))); replace BK0 := kK BK0 hb; replace HB := kB HB hb; clear hb ho4))
 go_loopg [5, 6] k (fun kq v5 v6 w' => ∃ (x5_1 : List Int) (x6_1 : Int), v6 = .int .i64 x6_1 ∧ Aside0 (spec_l03Gaps.l0 kq l1 x5_1 x6_1 a0_0 l0_1 = some r) ∧ Aside0 (kq ≤ k) ∧ Aside0 (Kd.R (Kd.int .i64) 2 w' w.heap.size (fun _ => True) v5 x5_1) ∧ Aside0 (w'.heap[b0]? = some (.cells #[.int .i16 a0_0, (.slice A0_1 l0_1.length c0_1)] 32 (0, 0))) ∧ Aside0 (Below w.heap.size w w'))
 case atStart => exact ⟨(y382), (1), (by first | rfl | (simp; done) | (simp [*]; done)), H', ⟨Nat.le_refl _⟩, ⟨(zR HO384.out)⟩, ⟨(zK BK0.out)⟩, ⟨zB HB.out⟩⟩
 case round => (
 clear H'
 try clear c1
 obtain ⟨x5_1, x6_1, rfl, HA, HK1, HO_5, BK0, HB⟩ := hrel
 cases gk with
 | zero => exact absurd HA.out (by simp [spec_l03Gaps.l0])
 | succ k1 => (
 have H := HA.out
 clear HA
 simp only [spec_l03Gaps.l0] at H
 by_cases c5 : x6_1 < (l1.length : Int)
 {
 rw [if_pos c5] at H
 have c5b0 : decide (x6_1 < (l1.length : Int)) = true := decide_eq_true c5
 clear c5
 by_cases c6 : 0 ≤ x6_1
 {
 rw [if_pos c6] at H
 have c6b0 : decide (0 ≤ x6_1) = true := decide_eq_true c6
 clear c6
 by_cases c7 : 0 ≤ ((rd_T65 l1 x6_1).f1)
 {
 rw [if_pos c7] at H
 have c7b0 : decide (0 ≤ ((rd_T65 l1 x6_1).f1)) = true := decide_eq_true c7
 clear c7
 by_cases c8 : ((rd_T65 l1 x6_1).f1) < (l0_1.length : Int)
 {
 rw [if_pos c8] at H
 have c8b0 : decide (((rd_T65 l1 x6_1).f1) < (l0_1.length : Int)) = true := decide_eq_true c8
 clear c8
 obtain ⟨ji9, hji9⟩ : ∃ j_ : Int, (wrap64 (x6_1 - 1)) = j_ := ⟨_, rfl⟩
 first | rw [hji9] at H | simp only [hji9] at H
 have hji9w : (IntKind.i64.wrap (x6_1 - 1)) = ji9 := (i64_w _).trans hji9
 by_cases c10 : 0 ≤ (ji9)
 {
 rw [if_pos c10] at H
 have c10b0 : decide (0 ≤ (ji9)) = true := decide_eq_true c10
 clear c10
 by_cases c11 : (ji9) < (l1.length : Int)
 {
 rw [if_pos c11] at H
 have c11b0 : decide ((ji9) < (l1.length : Int)) = true := decide_eq_true c11
 clear c11
 by_cases c12 : 0 ≤ ((rd_T65 l1 (ji9)).f1)
 {
 rw [if_pos c12] at H
 have c12b0 : decide (0 ≤ ((rd_T65 l1 (ji9)).f1)) = true := decide_eq_true c12
 clear c12
 by_cases c13 : ((rd_T65 l1 (ji9)).f1) < (l0_1.length : Int)
 {
 rw [if_pos c13] at H
 have c13b0 : decide (((rd_T65 l1 (ji9)).f1) < (l0_1.length : Int)) = true := decide_eq_true c13
 clear c13
 by_cases c14 : x5_1.length < 17592186044416
 {
 rw [if_pos c14] at H
 have LMc14 := ak c14
 clear c14
 obtain ⟨y389, hy389⟩ : ∃ y_ : List Int, y_ = (x5_1 ++ [wrap64 ((wrap64 (rd l0_1 ((rd_T65 l1 x6_1).f1))) - (wrap64 (rd l0_1 ((rd_T65 l1 (ji9)).f1))))]) := ⟨_, rfl⟩
 replace H : (spec_l03Gaps.l0 k1 l1 y389 (wrap64 (x6_1 + 1)) a0_0 l0_1) = some r := by first | (rw [hy389]; with_reducible exact H) | (have H2_ := (Option.bind_some _ _).symm.trans H; rw [hy389]; with_reducible exact H2_) | (have H2_ := (Option.bind_some _ _).symm.trans H; with_reducible exact H2_) | with_reducible exact H | (rw [hy389]; exact H) | exact H
 have Ny389 := ak hy389
 clear hy389
 have H' := ak H
 clear H
 try go_wp2
 replace HO_5 := ak (Kd.R_drew HO_5.out)
 replace BK0 := ak (blk_drew BK0.out)
 replace HB := ak (below_drew1 HB.out)
 have p385 : 0 ≤ (x6_1 : Int) := of_decide_eq_true (by first | (with_reducible assumption) | assumption)
 have q385 : x6_1 < (l1.length : Int) := of_decide_eq_true (by first | (with_reducible assumption) | assumption)
 obtain ⟨ad385, e385, hx385_0, hx385_1⟩ := at_T65 HR1.out x6_1 p385 q385
 have hw385_1 := hx385_1
 have hw385_0 := hx385_0
 cases e385
 replace hx385_0 := (HB.out.cell (World.block_lt_of_cell? w _ hx385_0)).trans hx385_0
 replace hx385_1 := (HB.out.cell (World.block_lt_of_cell? w _ hx385_1)).trans hx385_1
 replace p385 := eq_true p385
 replace q385 := eq_true q385
 have p386 : 0 ≤ (((rd_T65 l1 x6_1).f1) : Int) := of_decide_eq_true (by first | (with_reducible assumption) | assumption)
 have q386 : ((rd_T65 l1 x6_1).f1) < (l0_1.length : Int) := of_decide_eq_true (by first | (with_reducible assumption) | assumption)
 obtain ⟨ad386, e386, hx386_0⟩ := Kd.at_int HR0_1.out ((rd_T65 l1 x6_1).f1) p386 q386
 have hw386_0 := hx386_0
 cases e386
 replace hx386_0 := (HB.out.cell (World.block_lt_of_cell? w _ hx386_0)).trans hx386_0
 replace p386 := eq_true p386
 replace q386 := eq_true q386
 have p387 : 0 ≤ ((ji9) : Int) := of_decide_eq_true (by first | (with_reducible assumption) | assumption)
 have q387 : (ji9) < (l1.length : Int) := of_decide_eq_true (by first | (with_reducible assumption) | assumption)
 obtain ⟨ad387, e387, hx387_0, hx387_1⟩ := at_T65 HR1.out (ji9) p387 q387
 have hw387_1 := hx387_1
 have hw387_0 := hx387_0
 obtain rfl : ad385 = ad387 := (by injection e387)
 replace hx387_0 := (HB.out.cell (World.block_lt_of_cell? w _ hx387_0)).trans hx387_0
 replace hx387_1 := (HB.out.cell (World.block_lt_of_cell? w _ hx387_1)).trans hx387_1
 replace p387 := eq_true p387
 replace q387 := eq_true q387
 have p388 : 0 ≤ (((rd_T65 l1 (ji9)).f1) : Int) := of_decide_eq_true (by first | (with_reducible assumption) | assumption)
 have q388 : ((rd_T65 l1 (ji9)).f1) < (l0_1.length : Int) := of_decide_eq_true (by first | (with_reducible assumption) | assumption)
 obtain ⟨ad388, e388, hx388_0⟩ := Kd.at_int HR0_1.out ((rd_T65 l1 (ji9)).f1) p388 q388
 have hw388_0 := hx388_0
 obtain rfl : ad386 = ad388 := (by injection e388)
 replace hx388_0 := (HB.out.cell (World.block_lt_of_cell? w _ hx388_0)).trans hx388_0
 replace p388 := eq_true p388
 replace q388 := eq_true q388
 refine start_ (n := 30) (S := fun w' => w'.cell? ⟨b0, 0, none⟩ = some (.int .i16 a0_0) ∧ w'.cell? ⟨b0, 1, none⟩ = some (.slice (some ad386) l0_1.length c0_1) ∧ w'.cell? (ad385.add ((x6_1).toNat * 2)) = some (.int .i16 ((rd_T65 l1 x6_1).f0)) ∧ w'.cell? ⟨(ad385.add ((x6_1).toNat * 2)).block, (ad385.add ((x6_1).toNat * 2)).off + 1, none⟩ = some (.int .i8 ((rd_T65 l1 x6_1).f1)) ∧ w'.cell? (ad386.add (((rd_T65 l1 x6_1).f1)).toNat) = some (.int .i16 (rd l0_1 ((rd_T65 l1 x6_1).f1))) ∧ w'.cell? (ad385.add (((ji9)).toNat * 2)) = some (.int .i16 ((rd_T65 l1 (ji9)).f0)) ∧ w'.cell? ⟨(ad385.add (((ji9)).toNat * 2)).block, (ad385.add (((ji9)).toNat * 2)).off + 1, none⟩ = some (.int .i8 ((rd_T65 l1 (ji9)).f1)) ∧ w'.cell? (ad386.add (((rd_T65 l1 (ji9)).f1)).toNat) = some (.int .i16 (rd l0_1 ((rd_T65 l1 (ji9)).f1)))) (ds := []) (bA 30 0) (by kernel_rfl) rfl rfl ⟨(blk_cell BK0.out 0).trans rfl, (blk_cell BK0.out 1).trans rfl, ((HB.out.cell (World.block_lt_of_cell? w _ hw385_0)).trans hw385_0), ((HB.out.cell (World.block_lt_of_cell? w _ hw385_1)).trans hw385_1), ((HB.out.cell (World.block_lt_of_cell? w _ hw386_0)).trans hw386_0), ((HB.out.cell (World.block_lt_of_cell? w _ hw387_0)).trans hw387_0), ((HB.out.cell (World.block_lt_of_cell? w _ hw387_1)).trans hw387_1), ((HB.out.cell (World.block_lt_of_cell? w _ hw388_0)).trans hw388_0)⟩ (fun hHeld => ?_); refine with_tabW spec_l03Gaps.tab5 spec_l03Gaps.bits5 (fun HT_ HW_ => ?_)
 generalize wr.drew = w15 at HO_5 BK0 HB hx385_0 hx385_1 hx386_0 hx387_0 hx387_1 hx388_0 hHeld ⊢
 refine pU 0 14 (bA 30 1) HT_ ?_
 refine pU 1 15 (bA 30 3) HT_ ?_
 refine pU 2 16 (bA 30 7) HT_ ?_
 refine pU 3 17 (bA 30 15) HT_ ?_
 refine pU 5 19 (bA 30 47) HT_ ?_
 refine pU 6 20 (bA 30 111) HT_ ?_
 refine pU 7 21 (bA 30 239) HT_ ?_
 refine pU 8 22 (bA 30 495) HT_ ?_
 refine pU 13 27 (bA 30 8687) HT_ ?_
 refine pU 14 28 (bA 30 25071) HT_ ?_
 refine pU 15 29 (bA 30 57839) HT_ ?_
 refine pU 17 31 (bA 30 188911) HT_ ?_
 refine pU 18 32 (bA 30 451055) HT_ ?_
 refine pU 19 33 (bA 30 975343) HT_ ?_
 refine pU 20 34 (bA 30 2023919) HT_ ?_
 refine pU 21 35 (bA 30 4121071) HT_ ?_
 refine tK 4 18 (bA 30 4121087) HT_ HW_ hHeld ?_
 refine tK 9 23 (bA 30 4121599) HT_ HW_ hHeld ?_
 refine pU 10 24 (bA 30 4122623) HT_ ?_
 refine tK 11 25 (bA 30 4124671) HT_ HW_ hHeld ?_
 refine pU 12 26 (bA 30 4128767) HT_ ?_
 refine tK 16 30 (bA 30 4194303) HT_ HW_ hHeld ?_
 refine tK 22 36 (bA 30 8388607) HT_ HW_ hHeld ?_
 refine pU 23 37 (bA 30 16777215) HT_ ?_
 refine tK 24 38 (bA 30 33554431) HT_ HW_ hHeld ?_
 refine pU 25 39 (bA 30 67108863) HT_ ?_
 refine pU 26 40 (bA 30 134217727) HT_ ?_
 refine one_ (i := 27) (N := some 41) (bA 30 268435455) rfl rfl (one_of HT_.out (by kernel_rfl)) (by decide) (fun K hK => ?_)
 refine value_ (w1 := ?_) (v := ?_) (by rfl) rfl ?_ ?_
 rotate_left 2
 {
 go_simp
 constructor
 · rfl
 · rfl
 }
 refine hK.out _ _ ⟨(blk_cell (blk_alloc BK0.out _) 0).trans rfl, (blk_cell (blk_alloc BK0.out _) 1).trans rfl, (World.cell?_alloc_lt _ _ _ (World.block_lt_of_cell? _ _ (((HB.out.cell (World.block_lt_of_cell? w _ hw385_0)).trans hw385_0)))).trans (((HB.out.cell (World.block_lt_of_cell? w _ hw385_0)).trans hw385_0)), (World.cell?_alloc_lt _ _ _ (World.block_lt_of_cell? _ _ (((HB.out.cell (World.block_lt_of_cell? w _ hw385_1)).trans hw385_1)))).trans (((HB.out.cell (World.block_lt_of_cell? w _ hw385_1)).trans hw385_1)), (World.cell?_alloc_lt _ _ _ (World.block_lt_of_cell? _ _ (((HB.out.cell (World.block_lt_of_cell? w _ hw386_0)).trans hw386_0)))).trans (((HB.out.cell (World.block_lt_of_cell? w _ hw386_0)).trans hw386_0)), (World.cell?_alloc_lt _ _ _ (World.block_lt_of_cell? _ _ (((HB.out.cell (World.block_lt_of_cell? w _ hw387_0)).trans hw387_0)))).trans (((HB.out.cell (World.block_lt_of_cell? w _ hw387_0)).trans hw387_0)), (World.cell?_alloc_lt _ _ _ (World.block_lt_of_cell? _ _ (((HB.out.cell (World.block_lt_of_cell? w _ hw387_1)).trans hw387_1)))).trans (((HB.out.cell (World.block_lt_of_cell? w _ hw387_1)).trans hw387_1)), (World.cell?_alloc_lt _ _ _ (World.block_lt_of_cell? _ _ (((HB.out.cell (World.block_lt_of_cell? w _ hw388_0)).trans hw388_0)))).trans (((HB.out.cell (World.block_lt_of_cell? w _ hw388_0)).trans hw388_0))⟩ (fun hHeld => ?_)
 clear hK K
 refine norm_ (a' := ?_) ?_ ?_
 rotate_left
 {
 show Act.put _ (some 41) _ = _
 simp only [Act.put, zs, zz, zk, i64_w, i32_w]
 rfl
 }
 refine one_ (i := 28) (N := some 42) (bA 30 536870911) rfl rfl (one_of HT_.out (by kernel_rfl)) (by decide) (fun K hK => ?_)
 refine Kd.R_append_step (Kd.int .i64) (w0 := w) w.heap.size (by rfl) (.tmp 14) (.tmp 41) 66 2 (.int .i64 0) 8 rfl Try.underlying66 info2 rfl (by decide) (by omega) u5 x5_1 (wrap64 ((wrap64 (rd l0_1 ((rd_T65 l1 x6_1).f1))) - (wrap64 (rd l0_1 ((rd_T65 l1 (ji9)).f1))))) [.int .i64 (wrap64 ((wrap64 (rd l0_1 ((rd_T65 l1 x6_1).f1))) - (wrap64 (rd l0_1 ((rd_T65 l1 (ji9)).f1)))))] (fun _ => True) (fun _ => False) rfl rfl ?aP (fun _ hk => hk.elim) ?aF ?aO ?aB ?aS ?aL ?_
 (case aP => exact rfl)
 (case aB => exact (zB HB.out))
 (case aF => exact (fun _ _ => trivial))
 (case aO => exact (zR HO_5.out))
 (case aS => exact (below_size (zB HB.out)))
 (case aL => have := LMc14.out; omega)
 intro v390 w16 ho hb hg hat
 rw [← Ny389.out] at ho
 have HO391 := ak (ho)
 replace BK0 := ak (blk_grown (g := b0) (o := .cells #[.int .i16 a0_0, .slice (some ad386) l0_1.length c0_1] 32 (0, 0)) (zK BK0.out) hg (Kd.R_ne HO_5.out BK0.out (by decide)))
 replace HB := ak (hb)
 clear HO_5
 refine hK.out _ _ ⟨(blk_cell BK0.out 0).trans rfl, (blk_cell BK0.out 1).trans rfl, ((HB.out.cell (World.block_lt_of_cell? w _ hw385_0)).trans hw385_0), ((HB.out.cell (World.block_lt_of_cell? w _ hw385_1)).trans hw385_1), ((HB.out.cell (World.block_lt_of_cell? w _ hw386_0)).trans hw386_0), ((HB.out.cell (World.block_lt_of_cell? w _ hw387_0)).trans hw387_0), ((HB.out.cell (World.block_lt_of_cell? w _ hw387_1)).trans hw387_1), ((HB.out.cell (World.block_lt_of_cell? w _ hw388_0)).trans hw388_0)⟩ (fun hHeld => ?_)
 clear hK K
 refine norm_ (a' := ?_) ?_ ?_
 rotate_left
 {
 show Act.put _ (some 42) _ = _
 simp only [Act.put, zs, zz, zk, i64_w, i32_w]
 rfl
 }
 refine pU 29 5 (bA 30 1073741823) HT_ ?_
 refine done_ (done_of HT_.out (by kernel_rfl)) ?_
 try go_wp2
 go_roundg k1
 case measure => have := HK1.out; omega
 case rel => exact ⟨(y389), (wrap64 (x6_1 + 1)), (by first | rfl | (simp; done) | (simp [*]; done)), H', ⟨by have := HK1.out; omega⟩, ⟨(zR HO391.out)⟩, ⟨(zK BK0.out)⟩, ⟨zB HB.out⟩⟩
 }
 · rw [if_neg c14] at H; exact absurd H (by simp)
 }
 · rw [if_neg c13] at H; exact absurd H (by simp)
 }
 · rw [if_neg c12] at H; exact absurd H (by simp)
 }
 · rw [if_neg c11] at H; exact absurd H (by simp)
 }
 · rw [if_neg c10] at H; exact absurd H (by simp)
 }
 · rw [if_neg c8] at H; exact absurd H (by simp)
 }
 · rw [if_neg c7] at H; exact absurd H (by simp)
 }
 · rw [if_neg c6] at H; exact absurd H (by simp)
 }
 {
 rw [if_neg c5] at H
 have c5b0 : decide (x6_1 < (l1.length : Int)) = false := decide_eq_false c5
 clear c5
 obtain rfl := Option.some.inj H
 go_wp2
 go_ret
 exact ⟨_, by first | rfl | (simp [errW_none, errW_some] <;> rfl) | (simp [*, errW_none, errW_some] <;> rfl), by (with_reducible repeat (first | apply Kd.R_alloc | apply Kd.R_drewN | apply Kd.R_drew)); exact HO_5.out, zB HB.out⟩
 }
 )
 )
end Go.Proofs.Ytooidjdgfoioiaa.P
