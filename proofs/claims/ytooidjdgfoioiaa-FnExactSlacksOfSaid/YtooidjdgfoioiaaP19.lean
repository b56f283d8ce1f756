-- Printed by wip/print (my turned copy of the kit's print) out of the translation; Lean checks it.
import Derived.Test.YtooidjdgfoioiaaP0
import Derived.Test.YtooidjdgfoioiaaP17
import Derived.Test.YtooidjdgfoioiaaP18
namespace Go.Proofs.Ytooidjdgfoioiaa.P
open Go.RowKit Go.Proofs.YtooidjdgfoioiaaW.PrintWords Go.Proofs.YtooidjdgfoioiaaW.PrintLast Go.Proofs.YtooidjdgfoioiaaW.PrintMore
attribute [local go_sem] max2_int min2_int max_two min_two max_three min_three max_four min_four   -- for this text's walks alone
set_option linter.unusedVariables false
set_option linter.unusedSimpArgs false

/-! ### impl_ValidHolds: function 87 -/
def impl_ValidHolds.l0 : Nat → List (S65) → List (S65) → Int → Int → Int → List Int → Option (Bool)
  | 0, _, _, _, _, _, _ => none
  | k + 1, x1, x7, x8, x9, x439000, x439001 => if x9 < x8 then (if 0 ≤ x9 then (if x9 < (x7.length : Int) then ((impl_Rope_isHold.f x439000 x439001 ((rd_T65 x7 x9).f0) ((rd_T65 x7 x9).f1)).bind fun t442 => (if t442 = true then (if x9 > 0 then (if 0 ≤ (wrap64 (x9 - 1)) then (if (wrap64 (x9 - 1)) < (x1.length : Int) then (if ((rd_T65 x7 x9).f1) ≤ ((rd_T65 x1 (wrap64 (x9 - 1))).f1) then (some false) else (if x9 ≤ (x1.length : Int) then ((slices_ContainsFunc_Hold_at_ValidHolds_1.f k (x1.take (x9 : Int).toNat) ((rd_T65 x7 x9).f0) ((rd_T65 x7 x9).f1)).bind fun t448 => (if t448 = true then (some false) else (impl_ValidHolds.l0 k x1 x7 x8 (wrap64 (x9 + 1)) x439000 x439001))) else (none))) else (none)) else (none)) else (if x9 ≤ (x1.length : Int) then ((slices_ContainsFunc_Hold_at_ValidHolds_1.f k (x1.take (x9 : Int).toNat) ((rd_T65 x7 x9).f0) ((rd_T65 x7 x9).f1)).bind fun t453 => (if t453 = true then (some false) else (impl_ValidHolds.l0 k x1 x7 x8 (wrap64 (x9 + 1)) x439000 x439001))) else (none))) else (some false))) else (none)) else (none)) else ((impl_ValidRope.f k x439000 x439001).bind fun t439 => (some t439))
def impl_ValidHolds.f (k : Nat) (a0_0 : Int) (l0_1 : List Int) (l1 : List (S65)) : Option (Bool) := impl_ValidHolds.l0 k l1 l1 (l1.length : Int) 0 a0_0 l0_1
theorem impl_ValidHolds.mono_l : ∀ k, (∀ y0 y1 y2 y3 y4 y5, LeO (impl_ValidHolds.l0 k y0 y1 y2 y3 y4 y5) (impl_ValidHolds.l0 (k + 1) y0 y1 y2 y3 y4 y5))
  | 0 => fun _ _ _ _ _ _ r h => by simp [impl_ValidHolds.l0] at h
  | k + 1 => by
    have ih0 := impl_ValidHolds.mono_l k
    · intro y0 y1 y2 y3 y4 y5
      unfold impl_ValidHolds.l0
      repeat' first
      | (with_reducible exact ih0 ..)
      | (with_reducible exact impl_ValidRope.mono ..)
      | (with_reducible exact slices_ContainsFunc_Hold_at_ValidHolds_1.mono ..)
      | (with_reducible exact LeO.refl ..)
      | (with_reducible exact LeO.none ..)
      | (with_reducible refine LeO.ite ?_ ?_)
      | (with_reducible refine LeO.bind ?_ (fun _ => ?_))
theorem impl_ValidHolds.mono : ∀ a0 a1 a2 k, LeO (impl_ValidHolds.f k a0 a1 a2) (impl_ValidHolds.f (k + 1) a0 a1 a2) := by
  intro a0 a1 a2 k
  have ih0 := impl_ValidHolds.mono_l k
  unfold impl_ValidHolds.f
  repeat' first
      | (with_reducible exact ih0 ..)
      | (with_reducible exact impl_ValidRope.mono ..)
      | (with_reducible exact slices_ContainsFunc_Hold_at_ValidHolds_1.mono ..)
      | (with_reducible exact LeO.refl ..)
      | (with_reducible exact LeO.none ..)
      | (with_reducible refine LeO.ite ?_ ?_)
      | (with_reducible refine LeO.bind ?_ (fun _ => ?_))
def impl_ValidHolds.T4 : Bool × List (List Nat × List Nat) := (true, [([], []), ([], []), ([0, 1], [0, 1]), ([2], [2]), ([3, 2], [3]), ([4], [4]), ([5, 4], [4, 5]), ([6, 4, 4], [4, 6]), ([7], [7]), ([8, 7], [7, 8]), ([7], [7]), ([7], [7]), ([11, 7], [7, 11]), ([10, 12, 7], [7, 10, 12]), ([13, 7], [7, 13]), ([14, 7], [7, 14]), ([9, 15, 7], [7, 9, 15]), ([7, 16, 4], [4, 7, 16]), ([4, 17], [4, 17]), ([18, 7], [18]), ([19], [19]), ([19], [19]), ([20, 21, 19], [19, 20, 21]), ([19], [19]), ([22, 23, 19, 19], [19, 22, 23]), ([19, 24], [19, 24])])
def impl_ValidHolds.B4 : List Nat := [0, 0, 3, 7, 15, 31, 63, 127, 255, 511, 255, 255, 2303, 7423, 15615, 31999, 65535, 131071, 262143, 524287, 1048575, 1048575, 4194303, 1048575, 16777215, 33554431]
theorem impl_ValidHolds.tab4 : rtab .any (opsOf Try.f87 4) = impl_ValidHolds.T4 := by kernel_rfl
theorem impl_ValidHolds.bits4 : waitsOk impl_ValidHolds.T4.2 impl_ValidHolds.B4 = true := by kernel_rfl
set_option maxHeartbeats 8000000 in
set_option maxRecDepth 100000 in
theorem impl_ValidHolds.calls (k : Nat) (a0_0 : Int) (A0_1 : Option Addr) (c0_1 : Nat) (l0_1 : List Int) (A1 : Option Addr) (c1 : Nat) (l1 : List (S65)) (r : Bool) (w : World) (hr0_1 : Kd.C (Kd.int .i16) w A0_1 l0_1.length l0_1) (hc0_1 : l0_1.length ≤ c0_1) (hr1 : Kd.C k65 w A1 l1.length l1) (hc1 : l1.length ≤ c1) (h : impl_ValidHolds.f k a0_0 l0_1 l1 = some r) :
    Calls Try.prog 87 #[.agg #[.int .i16 a0_0, .slice A0_1 l0_1.length c0_1], .slice A1 l1.length c1] w fun e w' => e = .returned (.bool r) ∧ Below w.heap.size w w' := by
 have hu32 := Try.underlying32
 have hu65 := Try.underlying65
 have HR0_1 := ak hr0_1
 have HC0_1 := ak hc0_1
 clear hr0_1 hc0_1
 have HR1 := ak hr1
 have HC1 := ak hc1
 clear hr1 hc1
 have HB := ak (Below.refl w.heap.size w)
 have H := h
 unfold impl_ValidHolds.f at H
 clear h
 have H' := ak H
 clear H
 go_enter Try.func87, Try.ntmps87
 go_wp2_with (first | ((with_reducible refine gate_dst (N := 2) rfl ?_); refine box_event ?hg (N := 2) ?hd (cs := #[.int .i16 a0_0, .slice A0_1 l0_1.length c0_1]) (t := 32) ?hr ?_; (case hd => rfl); (case hg => rfl); (case hr => first | (go_simp; done) | (go_simp; rfl)); intro gb438 hg w3 hbox hb; have BK438 := ak (hbox); have GW438 := gS HB hg; have GE438 := gS HB hg; replace HB := kB HB hb; clear hb hbox hg))
 go_loopg [9] k (fun kq v9 w' => ∃ (x9_1 : Int), v9 = .int .i64 x9_1 ∧ Aside0 (impl_ValidHolds.l0 kq l1 l1 (l1.length : Int) x9_1 a0_0 l0_1 = some r) ∧ Aside0 (kq ≤ k) ∧ Aside0 (w'.heap[gb438]? = some (.cells #[.int .i16 a0_0, (.slice A0_1 l0_1.length c0_1)] 32 (0, 0))) ∧ Aside0 (Below w.heap.size w w'))
 case atStart => exact ⟨(0), (by first | rfl | (simp; done) | (simp [*]; done)), H', ⟨Nat.le_refl _⟩, ⟨(zK BK438.out)⟩, ⟨zBG HB.out GE438.out⟩⟩
 case round => (
 clear H'
 try clear c1
 obtain ⟨x9_1, rfl, HA, HK1, BK438, HB⟩ := hrel
 cases gk with
 | zero => exact absurd HA.out (by simp [impl_ValidHolds.l0])
 | succ k1 => (
 have H := HA.out
 clear HA
 simp only [impl_ValidHolds.l0] at H
 by_cases c4 : x9_1 < (l1.length : Int)
 {
 rw [if_pos c4] at H
 have c4b0 : decide (x9_1 < (l1.length : Int)) = true := decide_eq_true c4
 clear c4
 by_cases c5 : 0 ≤ x9_1
 {
 rw [if_pos c5] at H
 have c5b0 : decide (0 ≤ x9_1) = true := decide_eq_true c5
 clear c5
 by_cases c6 : x9_1 < (l1.length : Int)
 {
 rw [if_pos c6] at H
 have c6b0 : decide (x9_1 < (l1.length : Int)) = true := decide_eq_true c6
 clear c6
 replace H := Option.bind_eq_some_iff.mp H
 obtain ⟨t442, A70, H⟩ := H
 have A7 := ak A70
 clear A70
 by_cases c8 : t442 = true
 {
 subst c8
 rw [if_pos rfl] at H
 by_cases c9 : x9_1 > 0
 {
 rw [if_pos c9] at H
 have c9b0 : decide (0 < x9_1) = true := decide_eq_true c9
 clear c9
 obtain ⟨ji10, hji10⟩ : ∃ j_ : Int, (wrap64 (x9_1 - 1)) = j_ := ⟨_, rfl⟩
 first | rw [hji10] at H | simp only [hji10] at H
 (try rw [hji10] at A7)
 have hji10w : (IntKind.i64.wrap (x9_1 - 1)) = ji10 := (i64_w _).trans hji10
 by_cases c11 : 0 ≤ (ji10)
 {
 rw [if_pos c11] at H
 have c11b0 : decide (0 ≤ (ji10)) = true := decide_eq_true c11
 clear c11
 by_cases c12 : (ji10) < (l1.length : Int)
 {
 rw [if_pos c12] at H
 have c12b0 : decide ((ji10) < (l1.length : Int)) = true := decide_eq_true c12
 clear c12
 by_cases c13 : ((rd_T65 l1 x9_1).f1) ≤ ((rd_T65 l1 (ji10)).f1)
 {
 rw [if_pos c13] at H
 have c13b0 : decide (((rd_T65 l1 x9_1).f1) ≤ ((rd_T65 l1 (ji10)).f1)) = true := decide_eq_true c13
 clear c13
 obtain rfl := Option.some.inj H
 have p440 : 0 ≤ (x9_1 : Int) := of_decide_eq_true (by first | (with_reducible assumption) | assumption)
 have q440 : x9_1 < (l1.length : Int) := of_decide_eq_true (by first | (with_reducible assumption) | assumption)
 obtain ⟨ad440, e440, hx440_0, hx440_1⟩ := at_T65 HR1.out x9_1 p440 q440
 cases e440
 replace hx440_0 := (HB.out.cell (World.block_lt_of_cell? w _ hx440_0)).trans hx440_0
 replace hx440_1 := (HB.out.cell (World.block_lt_of_cell? w _ hx440_1)).trans hx440_1
 replace p440 := eq_true p440
 replace q440 := eq_true q440
 try go_wp2_with (first | ((with_reducible refine gate_dst (N := 6) rfl ?_); refine box_event ?hg (N := 6) ?hd (cs := #[.int .i16 0, .int .i8 0]) (t := 65) ?hr ?_; (case hd => rfl); (case hg => rfl); (case hr => first | (go_simp; done) | (go_simp; rfl)); intro gb441 hg w14 hbox hb; have n0_ := ak (blk_below (g := gb438) (o := .cells #[.int .i16 a0_0, .slice A0_1 l0_1.length c0_1] 32 (0, 0)) (zK BK438.out) hb); have n1_ := ak (below_step (zBG HB.out GE438.out) hb); have n2_ := ak (hbox); have n3_ := gS1 HB GE438 hg; have n4_ := gS1 HB GE438 hg; have n5_ := nL BK438 hg; have n6_ := nG BK438 hg; clear BK438 HB; have BK438 := n0_; have HB := n1_; have BK441 := n2_; have GW441 := n3_; have GE441 := n4_; have NB438_441 := n5_; have NB441_438 := n6_; clear n0_ n1_ n2_ n3_ n4_ n5_ n6_; clear hb hbox hg; have hnb15 := NB441_438.out; have hnc15 := NB438_441.out; have hcz16_0 : w14.cell? ⟨gb441, 0, none⟩ = some (.int .i16 0) := (blk_cell BK441.out 0).trans rfl; have hcz16_1 : w14.cell? ⟨gb441, 1, none⟩ = some (.int .i8 0) := (blk_cell BK441.out 1).trans rfl; have hfz16_0 := blk_frozen BK441.out 0; have hfz16_1 := blk_frozen BK441.out 1))
 have n0_ : Aside0 (((w14.setCell ⟨gb441, 0, none⟩ (.int .i16 ((rd_T65 l1 x9_1).f0))).setCell ⟨gb441, 1, none⟩ (.int .i8 ((rd_T65 l1 x9_1).f1))).heap[gb438]? = some (.cells #[.int .i16 a0_0, .slice A0_1 l0_1.length c0_1] 32 (0, 0))) := ⟨by (with_reducible repeat (first | refine blk_drewN ?_ _ | refine blk_drew ?_ | refine blk_alloc ?_ _)); refine blk_far ?_ NB438_441.out _; (with_reducible repeat (first | refine blk_drewN ?_ _ | refine blk_drew ?_ | refine blk_alloc ?_ _)); refine blk_far ?_ NB438_441.out _; (with_reducible repeat (first | refine blk_drewN ?_ _ | refine blk_drew ?_ | refine blk_alloc ?_ _)); exact BK438.out⟩
 have n1_ : Aside0 (((w14.setCell ⟨gb441, 0, none⟩ (.int .i16 ((rd_T65 l1 x9_1).f0))).setCell ⟨gb441, 1, none⟩ (.int .i8 ((rd_T65 l1 x9_1).f1))).heap[gb441]? = some (.cells #[.int .i16 ((rd_T65 l1 x9_1).f0), .int .i8 ((rd_T65 l1 x9_1).f1)] 65 (0, 0))) := ⟨by (with_reducible repeat (first | refine blk_drewN ?_ _ | refine blk_drew ?_ | refine blk_alloc ?_ _)); refine blk_put (cs := #[.int .i16 ((rd_T65 l1 x9_1).f0), .int .i8 0]) ?_ 1 _ rfl; (with_reducible repeat (first | refine blk_drewN ?_ _ | refine blk_drew ?_ | refine blk_alloc ?_ _)); refine blk_put (cs := #[.int .i16 0, .int .i8 0]) ?_ 0 _ rfl; (with_reducible repeat (first | refine blk_drewN ?_ _ | refine blk_drew ?_ | refine blk_alloc ?_ _)); exact BK441.out⟩
 have n2_ : Aside0 (Below w.heap.size w ((w14.setCell ⟨gb441, 0, none⟩ (.int .i16 ((rd_T65 l1 x9_1).f0))).setCell ⟨gb441, 1, none⟩ (.int .i8 ((rd_T65 l1 x9_1).f1)))) := ⟨zH2 HB GE438 GE441⟩
 (try clear BK438)
 (try clear BK441)
 (try clear HB)
 generalize ((w14.setCell ⟨gb441, 0, none⟩ (.int .i16 ((rd_T65 l1 x9_1).f0))).setCell ⟨gb441, 1, none⟩ (.int .i8 ((rd_T65 l1 x9_1).f1))) = w17 at n0_ n1_ n2_ ⊢
 have BK438 := n0_
 have BK441 := n1_
 have HB := n2_
 clear n0_ n1_ n2_
 replace BK438 := ak (blk_drew BK438.out)
 replace BK441 := ak (blk_drew BK441.out)
 replace HB := ak (below_drew1 HB.out)
 have p443 : 0 ≤ ((ji10) : Int) := of_decide_eq_true (by first | (with_reducible assumption) | assumption)
 have q443 : (ji10) < (l1.length : Int) := of_decide_eq_true (by first | (with_reducible assumption) | assumption)
 obtain ⟨ad443, e443, hx443_0, hx443_1⟩ := at_T65 HR1.out (ji10) p443 q443
 have hw443_1 := hx443_1
 have hw443_0 := hx443_0
 obtain rfl : ad440 = ad443 := (by injection e443)
 replace hx443_0 := (HB.out.cell (World.block_lt_of_cell? w _ hx443_0)).trans hx443_0
 replace hx443_1 := (HB.out.cell (World.block_lt_of_cell? w _ hx443_1)).trans hx443_1
 replace p443 := eq_true p443
 replace q443 := eq_true q443
 refine start_ (n := 26) (S := fun w' => w'.cell? ⟨gb438, 0, none⟩ = some (.int .i16 a0_0) ∧ w'.cell? ⟨gb438, 1, none⟩ = some (.slice A0_1 l0_1.length c0_1) ∧ w'.cell? ⟨gb441, 0, none⟩ = some (.int .i16 ((rd_T65 l1 x9_1).f0)) ∧ w'.cell? ⟨gb441, 1, none⟩ = some (.int .i8 ((rd_T65 l1 x9_1).f1)) ∧ w'.cell? (ad440.add (((ji10)).toNat * 2)) = some (.int .i16 ((rd_T65 l1 (ji10)).f0)) ∧ w'.cell? ⟨(ad440.add (((ji10)).toNat * 2)).block, (ad440.add (((ji10)).toNat * 2)).off + 1, none⟩ = some (.int .i8 ((rd_T65 l1 (ji10)).f1))) (ds := []) (bA 26 0) (by kernel_rfl) rfl rfl ⟨(blk_cell BK438.out 0).trans rfl, (blk_cell BK438.out 1).trans rfl, (blk_cell BK441.out 0).trans rfl, (blk_cell BK441.out 1).trans rfl, ((HB.out.cell (World.block_lt_of_cell? w _ hw443_0)).trans hw443_0), ((HB.out.cell (World.block_lt_of_cell? w _ hw443_1)).trans hw443_1)⟩ (fun hHeld => ?_); refine with_tabW impl_ValidHolds.tab4 impl_ValidHolds.bits4 (fun HT_ HW_ => ?_)
 generalize w17.drew = w18 at BK438 BK441 HB hx443_0 hx443_1 hHeld ⊢
 refine tK 0 14 (bA 26 1) HT_ HW_ hHeld ?_
 refine tK 1 15 (bA 26 3) HT_ HW_ hHeld ?_
 refine one_ (i := 2) (N := some 16) (bA 26 7) rfl rfl (one_of HT_.out (by kernel_rfl)) (by decide) (fun K hK => ?_)
 refine goes_ Try.func95 (by kernel_rfl) rfl #[.agg #[.int .i16 a0_0, .slice A0_1 l0_1.length c0_1], .agg #[.int .i16 ((rd_T65 l1 x9_1).f0), .int .i8 ((rd_T65 l1 x9_1).f1)]] (by rfl) rfl rfl gl_ ?_
 with_reducible refine (impl_Rope_isHold.calls a0_0 _ _ l0_1 ((rd_T65 l1 x9_1).f0) ((rd_T65 l1 x9_1).f1) true _ ?side1 ?side2 A7.out).mono ?_
 (case side1 => exact sQ (Kd.C_below HR0_1.out HB.out))
 (case side2 => exact HC0_1.out)
 rintro e w19 ⟨rfl, hb⟩
 refine ⟨_, rfl, ?_⟩
 replace BK438 := kK BK438 hb
 replace BK441 := kK BK441 hb
 replace HB := kB2 HB GE438 GE441 hb
 (try clear hb)
 refine hK.out _ _ ⟨(blk_cell BK438.out 0).trans rfl, (blk_cell BK438.out 1).trans rfl, (blk_cell BK441.out 0).trans rfl, (blk_cell BK441.out 1).trans rfl, ((HB.out.cell (World.block_lt_of_cell? w _ hw443_0)).trans hw443_0), ((HB.out.cell (World.block_lt_of_cell? w _ hw443_1)).trans hw443_1)⟩ (fun hHeld => ?_)
 clear hK K
 refine norm_ (a' := ?_) ?_ ?_
 rotate_left
 {
 show Act.put _ (some 16) _ = _
 simp only [Act.put, zs, zz, zk, i64_w, i32_w]
 rfl
 }
 refine pU 3 17 (bA 26 15) HT_ ?_
 refine pU 4 18 (bA 26 31) HT_ ?_
 refine pU 5 19 (bA 26 63) HT_ ?_
 refine pU 6 20 (bA 26 127) HT_ ?_
 refine pU 7 21 (bA 26 255) HT_ ?_
 refine pU 8 22 (bA 26 511) HT_ ?_
 refine pU 10 24 (bA 26 1535) HT_ ?_
 refine pU 11 25 (bA 26 3583) HT_ ?_
 refine pU 12 26 (bA 26 7679) HT_ ?_
 refine pU 13 27 (bA 26 15871) HT_ ?_
 refine pU 14 28 (bA 26 32255) HT_ ?_
 refine tK 9 23 (bA 26 32767) HT_ HW_ hHeld ?_
 refine tK 15 29 (bA 26 65535) HT_ HW_ hHeld ?_
 refine pU 16 30 (bA 26 131071) HT_ ?_
 refine pU 17 31 (bA 26 262143) HT_ ?_
 refine pU 18 32 (bA 26 524287) HT_ ?_
 refine pU 19 33 (bA 26 1048575) HT_ ?_
 refine pN 20 34 (bA 26 2097151) HT_ ?_
 refine pN 21 35 (bA 26 4194303) HT_ ?_
 refine pN 22 36 (bA 26 8388607) HT_ ?_
 refine pN 23 37 (bA 26 16777215) HT_ ?_
 refine pN 24 38 (bA 26 33554431) HT_ ?_
 refine pU 25 39 (bA 26 67108863) HT_ ?_
 refine done_ (done_of HT_.out (by kernel_rfl)) ?_
 try go_wp2
 go_ret
 exact ⟨by first | rfl | (simp [errW_none, errW_some] <;> rfl) | (simp only [← hji10]; first | rfl | (simp [errW_none, errW_some] <;> rfl)) | (simp [*, errW_none, errW_some] <;> rfl), zH2 HB GE438 GE441⟩
 }
 {
 rw [if_neg c13] at H
 have c13b0 : decide (((rd_T65 l1 x9_1).f1) ≤ ((rd_T65 l1 (ji10)).f1)) = false := decide_eq_false c13
 clear c13
 have c20b0 := eq_true (of_decide_eq_true (by first | (with_reducible assumption) | assumption) : 0 ≤ x9_1)
 by_cases c21 : x9_1 ≤ (l1.length : Int)
 {
 rw [if_pos c21] at H
 have c21b0 := eq_true c21
 have c21b1 : decide (x9_1 ≤ (l1.length : Int)) = true := decide_eq_true c21
 clear c21
 obtain ⟨y444, hy444⟩ : ∃ y_ : List (S65), y_ = (l1.take (x9_1 : Int).toNat) := ⟨_, rfl⟩
 replace H : ((slices_ContainsFunc_Hold_at_ValidHolds_1.f k1 y444 ((rd_T65 l1 x9_1).f0) ((rd_T65 l1 x9_1).f1)).bind fun t448 => (if t448 = true then (some false) else (impl_ValidHolds.l0 k1 l1 l1 (l1.length : Int) (wrap64 (x9_1 + 1)) a0_0 l0_1))) = some r := by first | (rw [hy444]; with_reducible exact H) | (have H2_ := (Option.bind_some _ _).symm.trans H; rw [hy444]; with_reducible exact H2_) | (have H2_ := (Option.bind_some _ _).symm.trans H; with_reducible exact H2_) | with_reducible exact H | (rw [hy444]; exact H) | exact H
 have Ny444 := ak hy444
 clear hy444
 replace H := Option.bind_eq_some_iff.mp H
 obtain ⟨t448, A220, H⟩ := H
 have A22 := ak A220
 clear A220
 by_cases c23 : t448 = true
 {
 subst c23
 rw [if_pos rfl] at H
 obtain rfl := Option.some.inj H
 have p440 : 0 ≤ (x9_1 : Int) := of_decide_eq_true (by first | (with_reducible assumption) | assumption)
 have q440 : x9_1 < (l1.length : Int) := of_decide_eq_true (by first | (with_reducible assumption) | assumption)
 obtain ⟨ad440, e440, hx440_0, hx440_1⟩ := at_T65 HR1.out x9_1 p440 q440
 cases e440
 replace hx440_0 := (HB.out.cell (World.block_lt_of_cell? w _ hx440_0)).trans hx440_0
 replace hx440_1 := (HB.out.cell (World.block_lt_of_cell? w _ hx440_1)).trans hx440_1
 replace p440 := eq_true p440
 replace q440 := eq_true q440
 try go_wp2_with (first | ((with_reducible refine gate_dst (N := 6) rfl ?_); refine box_event ?hg (N := 6) ?hd (cs := #[.int .i16 0, .int .i8 0]) (t := 65) ?hr ?_; (case hd => rfl); (case hg => rfl); (case hr => first | (go_simp; done) | (go_simp; rfl)); intro gb441 hg w24 hbox hb; have n0_ := ak (blk_below (g := gb438) (o := .cells #[.int .i16 a0_0, .slice A0_1 l0_1.length c0_1] 32 (0, 0)) (zK BK438.out) hb); have n1_ := ak (below_step (zBG HB.out GE438.out) hb); have n2_ := ak (hbox); have n3_ := gS1 HB GE438 hg; have n4_ := gS1 HB GE438 hg; have n5_ := nL BK438 hg; have n6_ := nG BK438 hg; clear BK438 HB; have BK438 := n0_; have HB := n1_; have BK441 := n2_; have GW441 := n3_; have GE441 := n4_; have NB438_441 := n5_; have NB441_438 := n6_; clear n0_ n1_ n2_ n3_ n4_ n5_ n6_; clear hb hbox hg; have hnb25 := NB441_438.out; have hnc25 := NB438_441.out; have hcz26_0 : w24.cell? ⟨gb441, 0, none⟩ = some (.int .i16 0) := (blk_cell BK441.out 0).trans rfl; have hcz26_1 : w24.cell? ⟨gb441, 1, none⟩ = some (.int .i8 0) := (blk_cell BK441.out 1).trans rfl; have hfz26_0 := blk_frozen BK441.out 0; have hfz26_1 := blk_frozen BK441.out 1))
 have n0_ : Aside0 (((w24.setCell ⟨gb441, 0, none⟩ (.int .i16 ((rd_T65 l1 x9_1).f0))).setCell ⟨gb441, 1, none⟩ (.int .i8 ((rd_T65 l1 x9_1).f1))).heap[gb438]? = some (.cells #[.int .i16 a0_0, .slice A0_1 l0_1.length c0_1] 32 (0, 0))) := ⟨by (with_reducible repeat (first | refine blk_drewN ?_ _ | refine blk_drew ?_ | refine blk_alloc ?_ _)); refine blk_far ?_ NB438_441.out _; (with_reducible repeat (first | refine blk_drewN ?_ _ | refine blk_drew ?_ | refine blk_alloc ?_ _)); refine blk_far ?_ NB438_441.out _; (with_reducible repeat (first | refine blk_drewN ?_ _ | refine blk_drew ?_ | refine blk_alloc ?_ _)); exact BK438.out⟩
 have n1_ : Aside0 (((w24.setCell ⟨gb441, 0, none⟩ (.int .i16 ((rd_T65 l1 x9_1).f0))).setCell ⟨gb441, 1, none⟩ (.int .i8 ((rd_T65 l1 x9_1).f1))).heap[gb441]? = some (.cells #[.int .i16 ((rd_T65 l1 x9_1).f0), .int .i8 ((rd_T65 l1 x9_1).f1)] 65 (0, 0))) := ⟨by (with_reducible repeat (first | refine blk_drewN ?_ _ | refine blk_drew ?_ | refine blk_alloc ?_ _)); refine blk_put (cs := #[.int .i16 ((rd_T65 l1 x9_1).f0), .int .i8 0]) ?_ 1 _ rfl; (with_reducible repeat (first | refine blk_drewN ?_ _ | refine blk_drew ?_ | refine blk_alloc ?_ _)); refine blk_put (cs := #[.int .i16 0, .int .i8 0]) ?_ 0 _ rfl; (with_reducible repeat (first | refine blk_drewN ?_ _ | refine blk_drew ?_ | refine blk_alloc ?_ _)); exact BK441.out⟩
 have n2_ : Aside0 (Below w.heap.size w ((w24.setCell ⟨gb441, 0, none⟩ (.int .i16 ((rd_T65 l1 x9_1).f0))).setCell ⟨gb441, 1, none⟩ (.int .i8 ((rd_T65 l1 x9_1).f1)))) := ⟨zH2 HB GE438 GE441⟩
 (try clear BK438)
 (try clear BK441)
 (try clear HB)
 generalize ((w24.setCell ⟨gb441, 0, none⟩ (.int .i16 ((rd_T65 l1 x9_1).f0))).setCell ⟨gb441, 1, none⟩ (.int .i8 ((rd_T65 l1 x9_1).f1))) = w27 at n0_ n1_ n2_ ⊢
 have BK438 := n0_
 have BK441 := n1_
 have HB := n2_
 clear n0_ n1_ n2_
 replace BK438 := ak (blk_drew BK438.out)
 replace BK441 := ak (blk_drew BK441.out)
 replace HB := ak (below_drew1 HB.out)
 have p443 : 0 ≤ ((ji10) : Int) := of_decide_eq_true (by first | (with_reducible assumption) | assumption)
 have q443 : (ji10) < (l1.length : Int) := of_decide_eq_true (by first | (with_reducible assumption) | assumption)
 obtain ⟨ad443, e443, hx443_0, hx443_1⟩ := at_T65 HR1.out (ji10) p443 q443
 have hw443_1 := hx443_1
 have hw443_0 := hx443_0
 obtain rfl : ad440 = ad443 := (by injection e443)
 replace hx443_0 := (HB.out.cell (World.block_lt_of_cell? w _ hx443_0)).trans hx443_0
 replace hx443_1 := (HB.out.cell (World.block_lt_of_cell? w _ hx443_1)).trans hx443_1
 replace p443 := eq_true p443
 replace q443 := eq_true q443
 refine start_ (n := 26) (S := fun w' => w'.cell? ⟨gb438, 0, none⟩ = some (.int .i16 a0_0) ∧ w'.cell? ⟨gb438, 1, none⟩ = some (.slice A0_1 l0_1.length c0_1) ∧ w'.cell? ⟨gb441, 0, none⟩ = some (.int .i16 ((rd_T65 l1 x9_1).f0)) ∧ w'.cell? ⟨gb441, 1, none⟩ = some (.int .i8 ((rd_T65 l1 x9_1).f1)) ∧ w'.cell? (ad440.add (((ji10)).toNat * 2)) = some (.int .i16 ((rd_T65 l1 (ji10)).f0)) ∧ w'.cell? ⟨(ad440.add (((ji10)).toNat * 2)).block, (ad440.add (((ji10)).toNat * 2)).off + 1, none⟩ = some (.int .i8 ((rd_T65 l1 (ji10)).f1))) (ds := []) (bA 26 0) (by kernel_rfl) rfl rfl ⟨(blk_cell BK438.out 0).trans rfl, (blk_cell BK438.out 1).trans rfl, (blk_cell BK441.out 0).trans rfl, (blk_cell BK441.out 1).trans rfl, ((HB.out.cell (World.block_lt_of_cell? w _ hw443_0)).trans hw443_0), ((HB.out.cell (World.block_lt_of_cell? w _ hw443_1)).trans hw443_1)⟩ (fun hHeld => ?_); refine with_tabW impl_ValidHolds.tab4 impl_ValidHolds.bits4 (fun HT_ HW_ => ?_)
 generalize w27.drew = w28 at BK438 BK441 HB hx443_0 hx443_1 hHeld ⊢
 refine tK 0 14 (bA 26 1) HT_ HW_ hHeld ?_
 refine tK 1 15 (bA 26 3) HT_ HW_ hHeld ?_
 refine one_ (i := 2) (N := some 16) (bA 26 7) rfl rfl (one_of HT_.out (by kernel_rfl)) (by decide) (fun K hK => ?_)
 refine goes_ Try.func95 (by kernel_rfl) rfl #[.agg #[.int .i16 a0_0, .slice A0_1 l0_1.length c0_1], .agg #[.int .i16 ((rd_T65 l1 x9_1).f0), .int .i8 ((rd_T65 l1 x9_1).f1)]] (by rfl) rfl rfl gl_ ?_
 with_reducible refine (impl_Rope_isHold.calls a0_0 _ _ l0_1 ((rd_T65 l1 x9_1).f0) ((rd_T65 l1 x9_1).f1) true _ ?side1 ?side2 A7.out).mono ?_
 (case side1 => exact sQ (Kd.C_below HR0_1.out HB.out))
 (case side2 => exact HC0_1.out)
 rintro e w29 ⟨rfl, hb⟩
 refine ⟨_, rfl, ?_⟩
 replace BK438 := kK BK438 hb
 replace BK441 := kK BK441 hb
 replace HB := kB2 HB GE438 GE441 hb
 (try clear hb)
 have q30 : (x9_1 : Int) ≤ ((l1.length : Int) : Int) := of_decide_eq_true (by first | (with_reducible assumption) | assumption)
 obtain ⟨i030, hi030, _, hsz30, _⟩ := info_parts info65
 have hroom30 : l1.length ≤ c1 := HC1.out
 have hC30 : Kd.C k65 _ (some ad440) l1.length l1 := HR1.out
 have hcut30 := cut_to (P := Try.prog) 51 65 .i64 Try.underlying51 hi030 (some ad440) l1.length c1 x9_1 (of_decide_eq_true (by first | (with_reducible assumption) | assumption)) q30 hroom30
 have hr30 := Kd.C_take (m := (x9_1 : Int).toNat) hC30 (by omega)
 have hy30 : y444.length = (x9_1 : Int).toNat := (by rw [Ny444.out, List.length_take]; omega)
 rw [← Ny444.out] at hr30
 rw [← hy30] at hcut30
 have HR447 := ak hr30
 have HC447 := ak (show y444.length ≤ c1 from by omega)
 clear hr30 hC30 hroom30 hi030 hsz30
 have KY30 := ak hy30
 clear hy30
 replace q30 := eq_true q30
 refine hK.out _ _ ⟨(blk_cell BK438.out 0).trans rfl, (blk_cell BK438.out 1).trans rfl, (blk_cell BK441.out 0).trans rfl, (blk_cell BK441.out 1).trans rfl, ((HB.out.cell (World.block_lt_of_cell? w _ hw443_0)).trans hw443_0), ((HB.out.cell (World.block_lt_of_cell? w _ hw443_1)).trans hw443_1)⟩ (fun hHeld => ?_)
 clear hK K
 refine norm_ (a' := ?_) ?_ ?_
 rotate_left
 {
 show Act.put _ (some 16) _ = _
 simp only [Act.put, zs, zz, zk, i64_w, i32_w]
 rfl
 }
 refine pU 3 17 (bA 26 15) HT_ ?_
 refine pU 4 18 (bA 26 31) HT_ ?_
 refine pU 5 19 (bA 26 63) HT_ ?_
 refine pU 6 20 (bA 26 127) HT_ ?_
 refine pU 7 21 (bA 26 255) HT_ ?_
 refine pU 8 22 (bA 26 511) HT_ ?_
 refine pU 10 24 (bA 26 1535) HT_ ?_
 refine pU 11 25 (bA 26 3583) HT_ ?_
 refine pU 12 26 (bA 26 7679) HT_ ?_
 refine pU 13 27 (bA 26 15871) HT_ ?_
 refine pU 14 28 (bA 26 32255) HT_ ?_
 refine tK 9 23 (bA 26 32767) HT_ HW_ hHeld ?_
 refine tK 15 29 (bA 26 65535) HT_ HW_ hHeld ?_
 refine pU 16 30 (bA 26 131071) HT_ ?_
 refine pU 17 31 (bA 26 262143) HT_ ?_
 refine pU 18 32 (bA 26 524287) HT_ ?_
 refine pU 19 33 (bA 26 1048575) HT_ ?_
 refine pU 20 34 (bA 26 2097151) HT_ ?_
 refine pU 21 35 (bA 26 4194303) HT_ ?_
 refine pU 22 36 (bA 26 8388607) HT_ ?_
 refine pU 23 37 (bA 26 16777215) HT_ ?_
 refine one_ (i := 24) (N := some 38) (bA 26 33554431) rfl rfl (one_of HT_.out (by kernel_rfl)) (by decide) (fun K hK => ?_)
 refine goes_ Try.func96 (by kernel_rfl) rfl #[.slice (some ad440) y444.length c1, .func (.func 97) #[] #[.pointer (some ⟨gb441, 0, none⟩)]] (by rfl) rfl rfl gl_ ?_
 with_reducible refine (slices_ContainsFunc_Hold_at_ValidHolds_1.calls k1 _ _ y444 gb441 ((rd_T65 l1 x9_1).f0) ((rd_T65 l1 x9_1).f1) true _ ?side1 ?side2 ?side3 A22.out).mono ?_
 (case side1 => exact sQ (Kd.C_below HR447.out HB.out))
 (case side2 => exact HC447.out)
 (case side3 => exact (zK BK441.out))
 rintro e w31 ⟨rfl, hb⟩
 refine ⟨_, rfl, ?_⟩
 replace BK438 := kK BK438 hb
 replace BK441 := kK BK441 hb
 replace HB := kB2 HB GE438 GE441 hb
 (try clear hb)
 refine hK.out _ _ ⟨(blk_cell BK438.out 0).trans rfl, (blk_cell BK438.out 1).trans rfl, (blk_cell BK441.out 0).trans rfl, (blk_cell BK441.out 1).trans rfl, ((HB.out.cell (World.block_lt_of_cell? w _ hw443_0)).trans hw443_0), ((HB.out.cell (World.block_lt_of_cell? w _ hw443_1)).trans hw443_1)⟩ (fun hHeld => ?_)
 clear hK K
 refine norm_ (a' := ?_) ?_ ?_
 rotate_left
 {
 show Act.put _ (some 38) _ = _
 simp only [Act.put, zs, zz, zk, i64_w, i32_w]
 rfl
 }
 refine pU 25 39 (bA 26 67108863) HT_ ?_
 refine done_ (done_of HT_.out (by kernel_rfl)) ?_
 try go_wp2
 go_ret
 exact ⟨by first | rfl | (simp [errW_none, errW_some] <;> rfl) | (simp only [← hji10]; first | rfl | (simp [errW_none, errW_some] <;> rfl)) | (simp [*, errW_none, errW_some] <;> rfl), zH2 HB GE438 GE441⟩
 }
 {
 replace c23 := Bool.eq_false_iff.mpr c23
 subst c23
 rw [if_neg (show ¬ (false = true) by decide)] at H
 have H' := ak H
 clear H
 have p440 : 0 ≤ (x9_1 : Int) := of_decide_eq_true (by first | (with_reducible assumption) | assumption)
 have q440 : x9_1 < (l1.length : Int) := of_decide_eq_true (by first | (with_reducible assumption) | assumption)
 obtain ⟨ad440, e440, hx440_0, hx440_1⟩ := at_T65 HR1.out x9_1 p440 q440
 cases e440
 replace hx440_0 := (HB.out.cell (World.block_lt_of_cell? w _ hx440_0)).trans hx440_0
 replace hx440_1 := (HB.out.cell (World.block_lt_of_cell? w _ hx440_1)).trans hx440_1
 replace p440 := eq_true p440
 replace q440 := eq_true q440
 try go_wp2_with (first | ((with_reducible refine gate_dst (N := 6) rfl ?_); refine box_event ?hg (N := 6) ?hd (cs := #[.int .i16 0, .int .i8 0]) (t := 65) ?hr ?_; (case hd => rfl); (case hg => rfl); (case hr => first | (go_simp; done) | (go_simp; rfl)); intro gb441 hg w32 hbox hb; have n0_ := ak (blk_below (g := gb438) (o := .cells #[.int .i16 a0_0, .slice A0_1 l0_1.length c0_1] 32 (0, 0)) (zK BK438.out) hb); have n1_ := ak (below_step (zBG HB.out GE438.out) hb); have n2_ := ak (hbox); have n3_ := gS1 HB GE438 hg; have n4_ := gS1 HB GE438 hg; have n5_ := nL BK438 hg; have n6_ := nG BK438 hg; clear BK438 HB; have BK438 := n0_; have HB := n1_; have BK441 := n2_; have GW441 := n3_; have GE441 := n4_; have NB438_441 := n5_; have NB441_438 := n6_; clear n0_ n1_ n2_ n3_ n4_ n5_ n6_; clear hb hbox hg; have hnb33 := NB441_438.out; have hnc33 := NB438_441.out; have hcz34_0 : w32.cell? ⟨gb441, 0, none⟩ = some (.int .i16 0) := (blk_cell BK441.out 0).trans rfl; have hcz34_1 : w32.cell? ⟨gb441, 1, none⟩ = some (.int .i8 0) := (blk_cell BK441.out 1).trans rfl; have hfz34_0 := blk_frozen BK441.out 0; have hfz34_1 := blk_frozen BK441.out 1))
 have n0_ : Aside0 (((w32.setCell ⟨gb441, 0, none⟩ (.int .i16 ((rd_T65 l1 x9_1).f0))).setCell ⟨gb441, 1, none⟩ (.int .i8 ((rd_T65 l1 x9_1).f1))).heap[gb438]? = some (.cells #[.int .i16 a0_0, .slice A0_1 l0_1.length c0_1] 32 (0, 0))) := ⟨by (with_reducible repeat (first | refine blk_drewN ?_ _ | refine blk_drew ?_ | refine blk_alloc ?_ _)); refine blk_far ?_ NB438_441.out _; (with_reducible repeat (first | refine blk_drewN ?_ _ | refine blk_drew ?_ | refine blk_alloc ?_ _)); refine blk_far ?_ NB438_441.out _; (with_reducible repeat (first | refine blk_drewN ?_ _ | refine blk_drew ?_ | refine blk_alloc ?_ _)); exact BK438.out⟩
 have n1_ : Aside0 (((w32.setCell ⟨gb441, 0, none⟩ (.int .i16 ((rd_T65 l1 x9_1).f0))).setCell ⟨gb441, 1, none⟩ (.int .i8 ((rd_T65 l1 x9_1).f1))).heap[gb441]? = some (.cells #[.int .i16 ((rd_T65 l1 x9_1).f0), .int .i8 ((rd_T65 l1 x9_1).f1)] 65 (0, 0))) := ⟨by (with_reducible repeat (first | refine blk_drewN ?_ _ | refine blk_drew ?_ | refine blk_alloc ?_ _)); refine blk_put (cs := #[.int .i16 ((rd_T65 l1 x9_1).f0), .int .i8 0]) ?_ 1 _ rfl; (with_reducible repeat (first | refine blk_drewN ?_ _ | refine blk_drew ?_ | refine blk_alloc ?_ _)); refine blk_put (cs := #[.int .i16 0, .int .i8 0]) ?_ 0 _ rfl; (with_reducible repeat (first | refine blk_drewN ?_ _ | refine blk_drew ?_ | refine blk_alloc ?_ _)); exact BK441.out⟩
 have n2_ : Aside0 (Below w.heap.size w ((w32.setCell ⟨gb441, 0, none⟩ (.int .i16 ((rd_T65 l1 x9_1).f0))).setCell ⟨gb441, 1, none⟩ (.int .i8 ((rd_T65 l1 x9_1).f1)))) := ⟨zH2 HB GE438 GE441⟩
 (try clear BK438)
 (try clear BK441)
 (try clear HB)
 generalize ((w32.setCell ⟨gb441, 0, none⟩ (.int .i16 ((rd_T65 l1 x9_1).f0))).setCell ⟨gb441, 1, none⟩ (.int .i8 ((rd_T65 l1 x9_1).f1))) = w35 at n0_ n1_ n2_ ⊢
 have BK438 := n0_
 have BK441 := n1_
 have HB := n2_
 clear n0_ n1_ n2_
 replace BK438 := ak (blk_drew BK438.out)
 replace BK441 := ak (blk_drew BK441.out)
 replace HB := ak (below_drew1 HB.out)
 have p443 : 0 ≤ ((ji10) : Int) := of_decide_eq_true (by first | (with_reducible assumption) | assumption)
 have q443 : (ji10) < (l1.length : Int) := of_decide_eq_true (by first | (with_reducible assumption) | assumption)
 obtain ⟨ad443, e443, hx443_0, hx443_1⟩ := at_T65 HR1.out (ji10) p443 q443
 have hw443_1 := hx443_1
 have hw443_0 := hx443_0
 obtain rfl : ad440 = ad443 := (by injection e443)
 replace hx443_0 := (HB.out.cell (World.block_lt_of_cell? w _ hx443_0)).trans hx443_0
 replace hx443_1 := (HB.out.cell (World.block_lt_of_cell? w _ hx443_1)).trans hx443_1
 replace p443 := eq_true p443
 replace q443 := eq_true q443
 refine start_ (n := 26) (S := fun w' => w'.cell? ⟨gb438, 0, none⟩ = some (.int .i16 a0_0) ∧ w'.cell? ⟨gb438, 1, none⟩ = some (.slice A0_1 l0_1.length c0_1) ∧ w'.cell? ⟨gb441, 0, none⟩ = some (.int .i16 ((rd_T65 l1 x9_1).f0)) ∧ w'.cell? ⟨gb441, 1, none⟩ = some (.int .i8 ((rd_T65 l1 x9_1).f1)) ∧ w'.cell? (ad440.add (((ji10)).toNat * 2)) = some (.int .i16 ((rd_T65 l1 (ji10)).f0)) ∧ w'.cell? ⟨(ad440.add (((ji10)).toNat * 2)).block, (ad440.add (((ji10)).toNat * 2)).off + 1, none⟩ = some (.int .i8 ((rd_T65 l1 (ji10)).f1))) (ds := []) (bA 26 0) (by kernel_rfl) rfl rfl ⟨(blk_cell BK438.out 0).trans rfl, (blk_cell BK438.out 1).trans rfl, (blk_cell BK441.out 0).trans rfl, (blk_cell BK441.out 1).trans rfl, ((HB.out.cell (World.block_lt_of_cell? w _ hw443_0)).trans hw443_0), ((HB.out.cell (World.block_lt_of_cell? w _ hw443_1)).trans hw443_1)⟩ (fun hHeld => ?_); refine with_tabW impl_ValidHolds.tab4 impl_ValidHolds.bits4 (fun HT_ HW_ => ?_)
 generalize w35.drew = w36 at BK438 BK441 HB hx443_0 hx443_1 hHeld ⊢
 refine tK 0 14 (bA 26 1) HT_ HW_ hHeld ?_
 refine tK 1 15 (bA 26 3) HT_ HW_ hHeld ?_
 refine one_ (i := 2) (N := some 16) (bA 26 7) rfl rfl (one_of HT_.out (by kernel_rfl)) (by decide) (fun K hK => ?_)
 refine goes_ Try.func95 (by kernel_rfl) rfl #[.agg #[.int .i16 a0_0, .slice A0_1 l0_1.length c0_1], .agg #[.int .i16 ((rd_T65 l1 x9_1).f0), .int .i8 ((rd_T65 l1 x9_1).f1)]] (by rfl) rfl rfl gl_ ?_
 with_reducible refine (impl_Rope_isHold.calls a0_0 _ _ l0_1 ((rd_T65 l1 x9_1).f0) ((rd_T65 l1 x9_1).f1) true _ ?side1 ?side2 A7.out).mono ?_
 (case side1 => exact sQ (Kd.C_below HR0_1.out HB.out))
 (case side2 => exact HC0_1.out)
 rintro e w37 ⟨rfl, hb⟩
 refine ⟨_, rfl, ?_⟩
 replace BK438 := kK BK438 hb
 replace BK441 := kK BK441 hb
 replace HB := kB2 HB GE438 GE441 hb
 (try clear hb)
 have q38 : (x9_1 : Int) ≤ ((l1.length : Int) : Int) := of_decide_eq_true (by first | (with_reducible assumption) | assumption)
 obtain ⟨i038, hi038, _, hsz38, _⟩ := info_parts info65
 have hroom38 : l1.length ≤ c1 := HC1.out
 have hC38 : Kd.C k65 _ (some ad440) l1.length l1 := HR1.out
 have hcut38 := cut_to (P := Try.prog) 51 65 .i64 Try.underlying51 hi038 (some ad440) l1.length c1 x9_1 (of_decide_eq_true (by first | (with_reducible assumption) | assumption)) q38 hroom38
 have hr38 := Kd.C_take (m := (x9_1 : Int).toNat) hC38 (by omega)
 have hy38 : y444.length = (x9_1 : Int).toNat := (by rw [Ny444.out, List.length_take]; omega)
 rw [← Ny444.out] at hr38
 rw [← hy38] at hcut38
 have HR447 := ak hr38
 have HC447 := ak (show y444.length ≤ c1 from by omega)
 clear hr38 hC38 hroom38 hi038 hsz38
 have KY38 := ak hy38
 clear hy38
 replace q38 := eq_true q38
 refine hK.out _ _ ⟨(blk_cell BK438.out 0).trans rfl, (blk_cell BK438.out 1).trans rfl, (blk_cell BK441.out 0).trans rfl, (blk_cell BK441.out 1).trans rfl, ((HB.out.cell (World.block_lt_of_cell? w _ hw443_0)).trans hw443_0), ((HB.out.cell (World.block_lt_of_cell? w _ hw443_1)).trans hw443_1)⟩ (fun hHeld => ?_)
 clear hK K
 refine norm_ (a' := ?_) ?_ ?_
 rotate_left
 {
 show Act.put _ (some 16) _ = _
 simp only [Act.put, zs, zz, zk, i64_w, i32_w]
 rfl
 }
 refine pU 3 17 (bA 26 15) HT_ ?_
 refine pU 4 18 (bA 26 31) HT_ ?_
 refine pU 5 19 (bA 26 63) HT_ ?_
 refine pU 6 20 (bA 26 127) HT_ ?_
 refine pU 7 21 (bA 26 255) HT_ ?_
 refine pU 8 22 (bA 26 511) HT_ ?_
 refine pU 10 24 (bA 26 1535) HT_ ?_
 refine pU 11 25 (bA 26 3583) HT_ ?_
 refine pU 12 26 (bA 26 7679) HT_ ?_
 refine pU 13 27 (bA 26 15871) HT_ ?_
 refine pU 14 28 (bA 26 32255) HT_ ?_
 refine tK 9 23 (bA 26 32767) HT_ HW_ hHeld ?_
 refine tK 15 29 (bA 26 65535) HT_ HW_ hHeld ?_
 refine pU 16 30 (bA 26 131071) HT_ ?_
 refine pU 17 31 (bA 26 262143) HT_ ?_
 refine pU 18 32 (bA 26 524287) HT_ ?_
 refine pU 19 33 (bA 26 1048575) HT_ ?_
 refine pU 20 34 (bA 26 2097151) HT_ ?_
 refine pU 21 35 (bA 26 4194303) HT_ ?_
 refine pU 22 36 (bA 26 8388607) HT_ ?_
 refine pU 23 37 (bA 26 16777215) HT_ ?_
 refine one_ (i := 24) (N := some 38) (bA 26 33554431) rfl rfl (one_of HT_.out (by kernel_rfl)) (by decide) (fun K hK => ?_)
 refine goes_ Try.func96 (by kernel_rfl) rfl #[.slice (some ad440) y444.length c1, .func (.func 97) #[] #[.pointer (some ⟨gb441, 0, none⟩)]] (by rfl) rfl rfl gl_ ?_
 with_reducible refine (slices_ContainsFunc_Hold_at_ValidHolds_1.calls k1 _ _ y444 gb441 ((rd_T65 l1 x9_1).f0) ((rd_T65 l1 x9_1).f1) false _ ?side1 ?side2 ?side3 A22.out).mono ?_
 (case side1 => exact sQ (Kd.C_below HR447.out HB.out))
 (case side2 => exact HC447.out)
 (case side3 => exact (zK BK441.out))
 rintro e w39 ⟨rfl, hb⟩
 refine ⟨_, rfl, ?_⟩
 replace BK438 := kK BK438 hb
 replace BK441 := kK BK441 hb
 replace HB := kB2 HB GE438 GE441 hb
 (try clear hb)
 refine hK.out _ _ ⟨(blk_cell BK438.out 0).trans rfl, (blk_cell BK438.out 1).trans rfl, (blk_cell BK441.out 0).trans rfl, (blk_cell BK441.out 1).trans rfl, ((HB.out.cell (World.block_lt_of_cell? w _ hw443_0)).trans hw443_0), ((HB.out.cell (World.block_lt_of_cell? w _ hw443_1)).trans hw443_1)⟩ (fun hHeld => ?_)
 clear hK K
 refine norm_ (a' := ?_) ?_ ?_
 rotate_left
 {
 show Act.put _ (some 38) _ = _
 simp only [Act.put, zs, zz, zk, i64_w, i32_w]
 rfl
 }
 refine pU 25 39 (bA 26 67108863) HT_ ?_
 refine done_ (done_of HT_.out (by kernel_rfl)) ?_
 try go_wp2
 go_roundg k1
 case measure => have := HK1.out; omega
 case rel => exact ⟨(wrap64 (x9_1 + 1)), (by first | rfl | (simp; done) | (simp [*]; done)), H', ⟨by have := HK1.out; omega⟩, ⟨(zK BK438.out)⟩, ⟨zH2 HB GE438 GE441⟩⟩
 }
 }
 · rw [if_neg c21] at H; exact absurd H (by simp)
 }
 }
 · rw [if_neg c12] at H; exact absurd H (by simp)
 }
 · rw [if_neg c11] at H; exact absurd H (by simp)
 }
 {
 rw [if_neg c9] at H
 have c9b0 : decide (0 < x9_1) = false := decide_eq_false c9
 clear c9
 have c40b0 := eq_true (of_decide_eq_true (by first | (with_reducible assumption) | assumption) : 0 ≤ x9_1)
 by_cases c41 : x9_1 ≤ (l1.length : Int)
 {
 rw [if_pos c41] at H
 have c41b0 := eq_true c41
 have c41b1 : decide (x9_1 ≤ (l1.length : Int)) = true := decide_eq_true c41
 clear c41
 obtain ⟨y449, hy449⟩ : ∃ y_ : List (S65), y_ = (l1.take (x9_1 : Int).toNat) := ⟨_, rfl⟩
 replace H : ((slices_ContainsFunc_Hold_at_ValidHolds_1.f k1 y449 ((rd_T65 l1 x9_1).f0) ((rd_T65 l1 x9_1).f1)).bind fun t453 => (if t453 = true then (some false) else (impl_ValidHolds.l0 k1 l1 l1 (l1.length : Int) (wrap64 (x9_1 + 1)) a0_0 l0_1))) = some r := by first | (rw [hy449]; with_reducible exact H) | (have H2_ := (Option.bind_some _ _).symm.trans H; rw [hy449]; with_reducible exact H2_) | (have H2_ := (Option.bind_some _ _).symm.trans H; with_reducible exact H2_) | with_reducible exact H | (rw [hy449]; exact H) | exact H
 have Ny449 := ak hy449
 clear hy449
 replace H := Option.bind_eq_some_iff.mp H
 obtain ⟨t453, A420, H⟩ := H
 have A42 := ak A420
 clear A420
 by_cases c43 : t453 = true
 {
 subst c43
 rw [if_pos rfl] at H
 obtain rfl := Option.some.inj H
 have p440 : 0 ≤ (x9_1 : Int) := of_decide_eq_true (by first | (with_reducible assumption) | assumption)
 have q440 : x9_1 < (l1.length : Int) := of_decide_eq_true (by first | (with_reducible assumption) | assumption)
 obtain ⟨ad440, e440, hx440_0, hx440_1⟩ := at_T65 HR1.out x9_1 p440 q440
 cases e440
 replace hx440_0 := (HB.out.cell (World.block_lt_of_cell? w _ hx440_0)).trans hx440_0
 replace hx440_1 := (HB.out.cell (World.block_lt_of_cell? w _ hx440_1)).trans hx440_1
 replace p440 := eq_true p440
 replace q440 := eq_true q440
 try go_wp2_with (first | ((with_reducible refine gate_dst (N := 6) rfl ?_); refine box_event ?hg (N := 6) ?hd (cs := #[.int .i16 0, .int .i8 0]) (t := 65) ?hr ?_; (case hd => rfl); (case hg => rfl); (case hr => first | (go_simp; done) | (go_simp; rfl)); intro gb441 hg w44 hbox hb; have n0_ := ak (blk_below (g := gb438) (o := .cells #[.int .i16 a0_0, .slice A0_1 l0_1.length c0_1] 32 (0, 0)) (zK BK438.out) hb); have n1_ := ak (below_step (zBG HB.out GE438.out) hb); have n2_ := ak (hbox); have n3_ := gS1 HB GE438 hg; have n4_ := gS1 HB GE438 hg; have n5_ := nL BK438 hg; have n6_ := nG BK438 hg; clear BK438 HB; have BK438 := n0_; have HB := n1_; have BK441 := n2_; have GW441 := n3_; have GE441 := n4_; have NB438_441 := n5_; have NB441_438 := n6_; clear n0_ n1_ n2_ n3_ n4_ n5_ n6_; clear hb hbox hg; have hnb45 := NB441_438.out; have hnc45 := NB438_441.out; have hcz46_0 : w44.cell? ⟨gb441, 0, none⟩ = some (.int .i16 0) := (blk_cell BK441.out 0).trans rfl; have hcz46_1 : w44.cell? ⟨gb441, 1, none⟩ = some (.int .i8 0) := (blk_cell BK441.out 1).trans rfl; have hfz46_0 := blk_frozen BK441.out 0; have hfz46_1 := blk_frozen BK441.out 1))
 have n0_ : Aside0 (((w44.setCell ⟨gb441, 0, none⟩ (.int .i16 ((rd_T65 l1 x9_1).f0))).setCell ⟨gb441, 1, none⟩ (.int .i8 ((rd_T65 l1 x9_1).f1))).heap[gb438]? = some (.cells #[.int .i16 a0_0, .slice A0_1 l0_1.length c0_1] 32 (0, 0))) := ⟨by (with_reducible repeat (first | refine blk_drewN ?_ _ | refine blk_drew ?_ | refine blk_alloc ?_ _)); refine blk_far ?_ NB438_441.out _; (with_reducible repeat (first | refine blk_drewN ?_ _ | refine blk_drew ?_ | refine blk_alloc ?_ _)); refine blk_far ?_ NB438_441.out _; (with_reducible repeat (first | refine blk_drewN ?_ _ | refine blk_drew ?_ | refine blk_alloc ?_ _)); exact BK438.out⟩
 have n1_ : Aside0 (((w44.setCell ⟨gb441, 0, none⟩ (.int .i16 ((rd_T65 l1 x9_1).f0))).setCell ⟨gb441, 1, none⟩ (.int .i8 ((rd_T65 l1 x9_1).f1))).heap[gb441]? = some (.cells #[.int .i16 ((rd_T65 l1 x9_1).f0), .int .i8 ((rd_T65 l1 x9_1).f1)] 65 (0, 0))) := ⟨by (with_reducible repeat (first | refine blk_drewN ?_ _ | refine blk_drew ?_ | refine blk_alloc ?_ _)); refine blk_put (cs := #[.int .i16 ((rd_T65 l1 x9_1).f0), .int .i8 0]) ?_ 1 _ rfl; (with_reducible repeat (first | refine blk_drewN ?_ _ | refine blk_drew ?_ | refine blk_alloc ?_ _)); refine blk_put (cs := #[.int .i16 0, .int .i8 0]) ?_ 0 _ rfl; (with_reducible repeat (first | refine blk_drewN ?_ _ | refine blk_drew ?_ | refine blk_alloc ?_ _)); exact BK441.out⟩
 have n2_ : Aside0 (Below w.heap.size w ((w44.setCell ⟨gb441, 0, none⟩ (.int .i16 ((rd_T65 l1 x9_1).f0))).setCell ⟨gb441, 1, none⟩ (.int .i8 ((rd_T65 l1 x9_1).f1)))) := ⟨zH2 HB GE438 GE441⟩
 (try clear BK438)
 (try clear BK441)
 (try clear HB)
 generalize ((w44.setCell ⟨gb441, 0, none⟩ (.int .i16 ((rd_T65 l1 x9_1).f0))).setCell ⟨gb441, 1, none⟩ (.int .i8 ((rd_T65 l1 x9_1).f1))) = w47 at n0_ n1_ n2_ ⊢
 have BK438 := n0_
 have BK441 := n1_
 have HB := n2_
 clear n0_ n1_ n2_
 replace BK438 := ak (blk_drew BK438.out)
 replace BK441 := ak (blk_drew BK441.out)
 replace HB := ak (below_drew1 HB.out)
 refine start_ (n := 26) (S := fun w' => w'.cell? ⟨gb438, 0, none⟩ = some (.int .i16 a0_0) ∧ w'.cell? ⟨gb438, 1, none⟩ = some (.slice A0_1 l0_1.length c0_1) ∧ w'.cell? ⟨gb441, 0, none⟩ = some (.int .i16 ((rd_T65 l1 x9_1).f0)) ∧ w'.cell? ⟨gb441, 1, none⟩ = some (.int .i8 ((rd_T65 l1 x9_1).f1))) (ds := []) (bA 26 0) (by kernel_rfl) rfl rfl ⟨(blk_cell BK438.out 0).trans rfl, (blk_cell BK438.out 1).trans rfl, (blk_cell BK441.out 0).trans rfl, (blk_cell BK441.out 1).trans rfl⟩ (fun hHeld => ?_); refine with_tabW impl_ValidHolds.tab4 impl_ValidHolds.bits4 (fun HT_ HW_ => ?_)
 generalize w47.drew = w48 at BK438 BK441 HB hHeld ⊢
 refine tK 0 14 (bA 26 1) HT_ HW_ hHeld ?_
 refine tK 1 15 (bA 26 3) HT_ HW_ hHeld ?_
 refine one_ (i := 2) (N := some 16) (bA 26 7) rfl rfl (one_of HT_.out (by kernel_rfl)) (by decide) (fun K hK => ?_)
 refine goes_ Try.func95 (by kernel_rfl) rfl #[.agg #[.int .i16 a0_0, .slice A0_1 l0_1.length c0_1], .agg #[.int .i16 ((rd_T65 l1 x9_1).f0), .int .i8 ((rd_T65 l1 x9_1).f1)]] (by rfl) rfl rfl gl_ ?_
 with_reducible refine (impl_Rope_isHold.calls a0_0 _ _ l0_1 ((rd_T65 l1 x9_1).f0) ((rd_T65 l1 x9_1).f1) true _ ?side1 ?side2 A7.out).mono ?_
 (case side1 => exact sQ (Kd.C_below HR0_1.out HB.out))
 (case side2 => exact HC0_1.out)
 rintro e w49 ⟨rfl, hb⟩
 refine ⟨_, rfl, ?_⟩
 replace BK438 := kK BK438 hb
 replace BK441 := kK BK441 hb
 replace HB := kB2 HB GE438 GE441 hb
 (try clear hb)
 have q50 : (x9_1 : Int) ≤ ((l1.length : Int) : Int) := of_decide_eq_true (by first | (with_reducible assumption) | assumption)
 obtain ⟨i050, hi050, _, hsz50, _⟩ := info_parts info65
 have hroom50 : l1.length ≤ c1 := HC1.out
 have hC50 : Kd.C k65 _ (some ad440) l1.length l1 := HR1.out
 have hcut50 := cut_to (P := Try.prog) 51 65 .i64 Try.underlying51 hi050 (some ad440) l1.length c1 x9_1 (of_decide_eq_true (by first | (with_reducible assumption) | assumption)) q50 hroom50
 have hr50 := Kd.C_take (m := (x9_1 : Int).toNat) hC50 (by omega)
 have hy50 : y449.length = (x9_1 : Int).toNat := (by rw [Ny449.out, List.length_take]; omega)
 rw [← Ny449.out] at hr50
 rw [← hy50] at hcut50
 have HR452 := ak hr50
 have HC452 := ak (show y449.length ≤ c1 from by omega)
 clear hr50 hC50 hroom50 hi050 hsz50
 have KY50 := ak hy50
 clear hy50
 replace q50 := eq_true q50
 refine hK.out _ _ ⟨(blk_cell BK438.out 0).trans rfl, (blk_cell BK438.out 1).trans rfl, (blk_cell BK441.out 0).trans rfl, (blk_cell BK441.out 1).trans rfl⟩ (fun hHeld => ?_)
 clear hK K
 refine norm_ (a' := ?_) ?_ ?_
 rotate_left
 {
 show Act.put _ (some 16) _ = _
 simp only [Act.put, zs, zz, zk, i64_w, i32_w]
 rfl
 }
 refine pU 3 17 (bA 26 15) HT_ ?_
 refine pU 4 18 (bA 26 31) HT_ ?_
 refine pU 5 19 (bA 26 63) HT_ ?_
 refine pU 6 20 (bA 26 127) HT_ ?_
 refine pU 7 21 (bA 26 255) HT_ ?_
 refine pN 8 22 (bA 26 511) HT_ ?_
 refine pN 9 23 (bA 26 1023) HT_ ?_
 refine pN 10 24 (bA 26 2047) HT_ ?_
 refine pN 11 25 (bA 26 4095) HT_ ?_
 refine pN 12 26 (bA 26 8191) HT_ ?_
 refine pN 13 27 (bA 26 16383) HT_ ?_
 refine pN 14 28 (bA 26 32767) HT_ ?_
 refine pN 15 29 (bA 26 65535) HT_ ?_
 refine pN 16 30 (bA 26 131071) HT_ ?_
 refine pU 17 31 (bA 26 262143) HT_ ?_
 refine pU 18 32 (bA 26 524287) HT_ ?_
 refine pU 19 33 (bA 26 1048575) HT_ ?_
 refine pU 20 34 (bA 26 2097151) HT_ ?_
 refine pU 21 35 (bA 26 4194303) HT_ ?_
 refine pU 22 36 (bA 26 8388607) HT_ ?_
 refine pU 23 37 (bA 26 16777215) HT_ ?_
 refine one_ (i := 24) (N := some 38) (bA 26 33554431) rfl rfl (one_of HT_.out (by kernel_rfl)) (by decide) (fun K hK => ?_)
 refine goes_ Try.func96 (by kernel_rfl) rfl #[.slice (some ad440) y449.length c1, .func (.func 97) #[] #[.pointer (some ⟨gb441, 0, none⟩)]] (by rfl) rfl rfl gl_ ?_
 with_reducible refine (slices_ContainsFunc_Hold_at_ValidHolds_1.calls k1 _ _ y449 gb441 ((rd_T65 l1 x9_1).f0) ((rd_T65 l1 x9_1).f1) true _ ?side1 ?side2 ?side3 A42.out).mono ?_
 (case side1 => exact sQ (Kd.C_below HR452.out HB.out))
 (case side2 => exact HC452.out)
 (case side3 => exact (zK BK441.out))
 rintro e w51 ⟨rfl, hb⟩
 refine ⟨_, rfl, ?_⟩
 replace BK438 := kK BK438 hb
 replace BK441 := kK BK441 hb
 replace HB := kB2 HB GE438 GE441 hb
 (try clear hb)
 refine hK.out _ _ ⟨(blk_cell BK438.out 0).trans rfl, (blk_cell BK438.out 1).trans rfl, (blk_cell BK441.out 0).trans rfl, (blk_cell BK441.out 1).trans rfl⟩ (fun hHeld => ?_)
 clear hK K
 refine norm_ (a' := ?_) ?_ ?_
 rotate_left
 {
 show Act.put _ (some 38) _ = _
 simp only [Act.put, zs, zz, zk, i64_w, i32_w]
 rfl
 }
 refine pU 25 39 (bA 26 67108863) HT_ ?_
 refine done_ (done_of HT_.out (by kernel_rfl)) ?_
 try go_wp2
 go_ret
 exact ⟨by first | rfl | (simp [errW_none, errW_some] <;> rfl) | (simp [*, errW_none, errW_some] <;> rfl), zH2 HB GE438 GE441⟩
 }
 {
 replace c43 := Bool.eq_false_iff.mpr c43
 subst c43
 rw [if_neg (show ¬ (false = true) by decide)] at H
 have H' := ak H
 clear H
 have p440 : 0 ≤ (x9_1 : Int) := of_decide_eq_true (by first | (with_reducible assumption) | assumption)
 have q440 : x9_1 < (l1.length : Int) := of_decide_eq_true (by first | (with_reducible assumption) | assumption)
 obtain ⟨ad440, e440, hx440_0, hx440_1⟩ := at_T65 HR1.out x9_1 p440 q440
 cases e440
 replace hx440_0 := (HB.out.cell (World.block_lt_of_cell? w _ hx440_0)).trans hx440_0
 replace hx440_1 := (HB.out.cell (World.block_lt_of_cell? w _ hx440_1)).trans hx440_1
 replace p440 := eq_true p440
 replace q440 := eq_true q440
 try go_wp2_with (first | ((with_reducible refine gate_dst (N := 6) rfl ?_); refine box_event ?hg (N := 6) ?hd (cs := #[.int .i16 0, .int .i8 0]) (t := 65) ?hr ?_; (case hd => rfl); (case hg => rfl); (case hr => first | (go_simp; done) | (go_simp; rfl)); intro gb441 hg w52 hbox hb; have n0_ := ak (blk_below (g := gb438) (o := .cells #[.int .i16 a0_0, .slice A0_1 l0_1.length c0_1] 32 (0, 0)) (zK BK438.out) hb); have n1_ := ak (below_step (zBG HB.out GE438.out) hb); have n2_ := ak (hbox); have n3_ := gS1 HB GE438 hg; have n4_ := gS1 HB GE438 hg; have n5_ := nL BK438 hg; have n6_ := nG BK438 hg; clear BK438 HB; have BK438 := n0_; have HB := n1_; have BK441 := n2_; have GW441 := n3_; have GE441 := n4_; have NB438_441 := n5_; have NB441_438 := n6_; clear n0_ n1_ n2_ n3_ n4_ n5_ n6_; clear hb hbox hg; have hnb53 := NB441_438.out; have hnc53 := NB438_441.out; have hcz54_0 : w52.cell? ⟨gb441, 0, none⟩ = some (.int .i16 0) := (blk_cell BK441.out 0).trans rfl; have hcz54_1 : w52.cell? ⟨gb441, 1, none⟩ = some (.int .i8 0) := (blk_cell BK441.out 1).trans rfl; have hfz54_0 := blk_frozen BK441.out 0; have hfz54_1 := blk_frozen BK441.out 1))
 have n0_ : Aside0 (((w52.setCell ⟨gb441, 0, none⟩ (.int .i16 ((rd_T65 l1 x9_1).f0))).setCell ⟨gb441, 1, none⟩ (.int .i8 ((rd_T65 l1 x9_1).f1))).heap[gb438]? = some (.cells #[.int .i16 a0_0, .slice A0_1 l0_1.length c0_1] 32 (0, 0))) := ⟨by (with_reducible repeat (first | refine blk_drewN ?_ _ | refine blk_drew ?_ | refine blk_alloc ?_ _)); refine blk_far ?_ NB438_441.out _; (with_reducible repeat (first | refine blk_drewN ?_ _ | refine blk_drew ?_ | refine blk_alloc ?_ _)); refine blk_far ?_ NB438_441.out _; (with_reducible repeat (first | refine blk_drewN ?_ _ | refine blk_drew ?_ | refine blk_alloc ?_ _)); exact BK438.out⟩
 have n1_ : Aside0 (((w52.setCell ⟨gb441, 0, none⟩ (.int .i16 ((rd_T65 l1 x9_1).f0))).setCell ⟨gb441, 1, none⟩ (.int .i8 ((rd_T65 l1 x9_1).f1))).heap[gb441]? = some (.cells #[.int .i16 ((rd_T65 l1 x9_1).f0), .int .i8 ((rd_T65 l1 x9_1).f1)] 65 (0, 0))) := ⟨by (with_reducible repeat (first | refine blk_drewN ?_ _ | refine blk_drew ?_ | refine blk_alloc ?_ _)); refine blk_put (cs := #[.int .i16 ((rd_T65 l1 x9_1).f0), .int .i8 0]) ?_ 1 _ rfl; (with_reducible repeat (first | refine blk_drewN ?_ _ | refine blk_drew ?_ | refine blk_alloc ?_ _)); refine blk_put (cs := #[.int .i16 0, .int .i8 0]) ?_ 0 _ rfl; (with_reducible repeat (first | refine blk_drewN ?_ _ | refine blk_drew ?_ | refine blk_alloc ?_ _)); exact BK441.out⟩
 have n2_ : Aside0 (Below w.heap.size w ((w52.setCell ⟨gb441, 0, none⟩ (.int .i16 ((rd_T65 l1 x9_1).f0))).setCell ⟨gb441, 1, none⟩ (.int .i8 ((rd_T65 l1 x9_1).f1)))) := ⟨zH2 HB GE438 GE441⟩
 (try clear BK438)
 (try clear BK441)
 (try clear HB)
 generalize ((w52.setCell ⟨gb441, 0, none⟩ (.int .i16 ((rd_T65 l1 x9_1).f0))).setCell ⟨gb441, 1, none⟩ (.int .i8 ((rd_T65 l1 x9_1).f1))) = w55 at n0_ n1_ n2_ ⊢
 have BK438 := n0_
 have BK441 := n1_
 have HB := n2_
 clear n0_ n1_ n2_
 replace BK438 := ak (blk_drew BK438.out)
 replace BK441 := ak (blk_drew BK441.out)
 replace HB := ak (below_drew1 HB.out)
 refine start_ (n := 26) (S := fun w' => w'.cell? ⟨gb438, 0, none⟩ = some (.int .i16 a0_0) ∧ w'.cell? ⟨gb438, 1, none⟩ = some (.slice A0_1 l0_1.length c0_1) ∧ w'.cell? ⟨gb441, 0, none⟩ = some (.int .i16 ((rd_T65 l1 x9_1).f0)) ∧ w'.cell? ⟨gb441, 1, none⟩ = some (.int .i8 ((rd_T65 l1 x9_1).f1))) (ds := []) (bA 26 0) (by kernel_rfl) rfl rfl ⟨(blk_cell BK438.out 0).trans rfl, (blk_cell BK438.out 1).trans rfl, (blk_cell BK441.out 0).trans rfl, (blk_cell BK441.out 1).trans rfl⟩ (fun hHeld => ?_); refine with_tabW impl_ValidHolds.tab4 impl_ValidHolds.bits4 (fun HT_ HW_ => ?_)
 generalize w55.drew = w56 at BK438 BK441 HB hHeld ⊢
 refine tK 0 14 (bA 26 1) HT_ HW_ hHeld ?_
 refine tK 1 15 (bA 26 3) HT_ HW_ hHeld ?_
 refine one_ (i := 2) (N := some 16) (bA 26 7) rfl rfl (one_of HT_.out (by kernel_rfl)) (by decide) (fun K hK => ?_)
 refine goes_ Try.func95 (by kernel_rfl) rfl #[.agg #[.int .i16 a0_0, .slice A0_1 l0_1.length c0_1], .agg #[.int .i16 ((rd_T65 l1 x9_1).f0), .int .i8 ((rd_T65 l1 x9_1).f1)]] (by rfl) rfl rfl gl_ ?_
 with_reducible refine (impl_Rope_isHold.calls a0_0 _ _ l0_1 ((rd_T65 l1 x9_1).f0) ((rd_T65 l1 x9_1).f1) true _ ?side1 ?side2 A7.out).mono ?_
 (case side1 => exact sQ (Kd.C_below HR0_1.out HB.out))
 (case side2 => exact HC0_1.out)
 rintro e w57 ⟨rfl, hb⟩
 refine ⟨_, rfl, ?_⟩
 replace BK438 := kK BK438 hb
 replace BK441 := kK BK441 hb
 replace HB := kB2 HB GE438 GE441 hb
 (try clear hb)
 have q58 : (x9_1 : Int) ≤ ((l1.length : Int) : Int) := of_decide_eq_true (by first | (with_reducible assumption) | assumption)
 obtain ⟨i058, hi058, _, hsz58, _⟩ := info_parts info65
 have hroom58 : l1.length ≤ c1 := HC1.out
 have hC58 : Kd.C k65 _ (some ad440) l1.length l1 := HR1.out
 have hcut58 := cut_to (P := Try.prog) 51 65 .i64 Try.underlying51 hi058 (some ad440) l1.length c1 x9_1 (of_decide_eq_true (by first | (with_reducible assumption) | assumption)) q58 hroom58
 have hr58 := Kd.C_take (m := (x9_1 : Int).toNat) hC58 (by omega)
 have hy58 : y449.length = (x9_1 : Int).toNat := (by rw [Ny449.out, List.length_take]; omega)
 rw [← Ny449.out] at hr58
 rw [← hy58] at hcut58
 have HR452 := ak hr58
 have HC452 := ak (show y449.length ≤ c1 from by omega)
 clear hr58 hC58 hroom58 hi058 hsz58
 have KY58 := ak hy58
 clear hy58
 replace q58 := eq_true q58
 refine hK.out _ _ ⟨(blk_cell BK438.out 0).trans rfl, (blk_cell BK438.out 1).trans rfl, (blk_cell BK441.out 0).trans rfl, (blk_cell BK441.out 1).trans rfl⟩ (fun hHeld => ?_)
 clear hK K
 refine norm_ (a' := ?_) ?_ ?_
 rotate_left
 {
 show Act.put _ (some 16) _ = _
 simp only [Act.put, zs, zz, zk, i64_w, i32_w]
 rfl
 }
 refine pU 3 17 (bA 26 15) HT_ ?_
 refine pU 4 18 (bA 26 31) HT_ ?_
 refine pU 5 19 (bA 26 63) HT_ ?_
 refine pU 6 20 (bA 26 127) HT_ ?_
 refine pU 7 21 (bA 26 255) HT_ ?_
 refine pN 8 22 (bA 26 511) HT_ ?_
 refine pN 9 23 (bA 26 1023) HT_ ?_
 refine pN 10 24 (bA 26 2047) HT_ ?_
 refine pN 11 25 (bA 26 4095) HT_ ?_
 refine pN 12 26 (bA 26 8191) HT_ ?_
 refine pN 13 27 (bA 26 16383) HT_ ?_
 refine pN 14 28 (bA 26 32767) HT_ ?_
 refine pN 15 29 (bA 26 65535) HT_ ?_
 refine pN 16 30 (bA 26 131071) HT_ ?_
 refine pU 17 31 (bA 26 262143) HT_ ?_
 refine pU 18 32 (bA 26 524287) HT_ ?_
 refine pU 19 33 (bA 26 1048575) HT_ ?_
 refine pU 20 34 (bA 26 2097151) HT_ ?_
 refine pU 21 35 (bA 26 4194303) HT_ ?_
 refine pU 22 36 (bA 26 8388607) HT_ ?_
 refine pU 23 37 (bA 26 16777215) HT_ ?_
 refine one_ (i := 24) (N := some 38) (bA 26 33554431) rfl rfl (one_of HT_.out (by kernel_rfl)) (by decide) (fun K hK => ?_)
 refine goes_ Try.func96 (by kernel_rfl) rfl #[.slice (some ad440) y449.length c1, .func (.func 97) #[] #[.pointer (some ⟨gb441, 0, none⟩)]] (by rfl) rfl rfl gl_ ?_
 with_reducible refine (slices_ContainsFunc_Hold_at_ValidHolds_1.calls k1 _ _ y449 gb441 ((rd_T65 l1 x9_1).f0) ((rd_T65 l1 x9_1).f1) false _ ?side1 ?side2 ?side3 A42.out).mono ?_
 (case side1 => exact sQ (Kd.C_below HR452.out HB.out))
 (case side2 => exact HC452.out)
 (case side3 => exact (zK BK441.out))
 rintro e w59 ⟨rfl, hb⟩
 refine ⟨_, rfl, ?_⟩
 replace BK438 := kK BK438 hb
 replace BK441 := kK BK441 hb
 replace HB := kB2 HB GE438 GE441 hb
 (try clear hb)
 refine hK.out _ _ ⟨(blk_cell BK438.out 0).trans rfl, (blk_cell BK438.out 1).trans rfl, (blk_cell BK441.out 0).trans rfl, (blk_cell BK441.out 1).trans rfl⟩ (fun hHeld => ?_)
 clear hK K
 refine norm_ (a' := ?_) ?_ ?_
 rotate_left
 {
 show Act.put _ (some 38) _ = _
 simp only [Act.put, zs, zz, zk, i64_w, i32_w]
 rfl
 }
 refine pU 25 39 (bA 26 67108863) HT_ ?_
 refine done_ (done_of HT_.out (by kernel_rfl)) ?_
 try go_wp2
 go_roundg k1
 case measure => have := HK1.out; omega
 case rel => exact ⟨(wrap64 (x9_1 + 1)), (by first | rfl | (simp; done) | (simp [*]; done)), H', ⟨by have := HK1.out; omega⟩, ⟨(zK BK438.out)⟩, ⟨zH2 HB GE438 GE441⟩⟩
 }
 }
 · rw [if_neg c41] at H; exact absurd H (by simp)
 }
 }
 {
 replace c8 := Bool.eq_false_iff.mpr c8
 subst c8
 rw [if_neg (show ¬ (false = true) by decide)] at H
 obtain rfl := Option.some.inj H
 have p440 : 0 ≤ (x9_1 : Int) := of_decide_eq_true (by first | (with_reducible assumption) | assumption)
 have q440 : x9_1 < (l1.length : Int) := of_decide_eq_true (by first | (with_reducible assumption) | assumption)
 obtain ⟨ad440, e440, hx440_0, hx440_1⟩ := at_T65 HR1.out x9_1 p440 q440
 cases e440
 replace hx440_0 := (HB.out.cell (World.block_lt_of_cell? w _ hx440_0)).trans hx440_0
 replace hx440_1 := (HB.out.cell (World.block_lt_of_cell? w _ hx440_1)).trans hx440_1
 replace p440 := eq_true p440
 replace q440 := eq_true q440
 try go_wp2_with (first | ((with_reducible refine gate_dst (N := 6) rfl ?_); refine box_event ?hg (N := 6) ?hd (cs := #[.int .i16 0, .int .i8 0]) (t := 65) ?hr ?_; (case hd => rfl); (case hg => rfl); (case hr => first | (go_simp; done) | (go_simp; rfl)); intro gb441 hg w60 hbox hb; have n0_ := ak (blk_below (g := gb438) (o := .cells #[.int .i16 a0_0, .slice A0_1 l0_1.length c0_1] 32 (0, 0)) (zK BK438.out) hb); have n1_ := ak (below_step (zBG HB.out GE438.out) hb); have n2_ := ak (hbox); have n3_ := gS1 HB GE438 hg; have n4_ := gS1 HB GE438 hg; have n5_ := nL BK438 hg; have n6_ := nG BK438 hg; clear BK438 HB; have BK438 := n0_; have HB := n1_; have BK441 := n2_; have GW441 := n3_; have GE441 := n4_; have NB438_441 := n5_; have NB441_438 := n6_; clear n0_ n1_ n2_ n3_ n4_ n5_ n6_; clear hb hbox hg; have hnb61 := NB441_438.out; have hnc61 := NB438_441.out; have hcz62_0 : w60.cell? ⟨gb441, 0, none⟩ = some (.int .i16 0) := (blk_cell BK441.out 0).trans rfl; have hcz62_1 : w60.cell? ⟨gb441, 1, none⟩ = some (.int .i8 0) := (blk_cell BK441.out 1).trans rfl; have hfz62_0 := blk_frozen BK441.out 0; have hfz62_1 := blk_frozen BK441.out 1))
 have n0_ : Aside0 (((w60.setCell ⟨gb441, 0, none⟩ (.int .i16 ((rd_T65 l1 x9_1).f0))).setCell ⟨gb441, 1, none⟩ (.int .i8 ((rd_T65 l1 x9_1).f1))).heap[gb438]? = some (.cells #[.int .i16 a0_0, .slice A0_1 l0_1.length c0_1] 32 (0, 0))) := ⟨by (with_reducible repeat (first | refine blk_drewN ?_ _ | refine blk_drew ?_ | refine blk_alloc ?_ _)); refine blk_far ?_ NB438_441.out _; (with_reducible repeat (first | refine blk_drewN ?_ _ | refine blk_drew ?_ | refine blk_alloc ?_ _)); refine blk_far ?_ NB438_441.out _; (with_reducible repeat (first | refine blk_drewN ?_ _ | refine blk_drew ?_ | refine blk_alloc ?_ _)); exact BK438.out⟩
 have n1_ : Aside0 (((w60.setCell ⟨gb441, 0, none⟩ (.int .i16 ((rd_T65 l1 x9_1).f0))).setCell ⟨gb441, 1, none⟩ (.int .i8 ((rd_T65 l1 x9_1).f1))).heap[gb441]? = some (.cells #[.int .i16 ((rd_T65 l1 x9_1).f0), .int .i8 ((rd_T65 l1 x9_1).f1)] 65 (0, 0))) := ⟨by (with_reducible repeat (first | refine blk_drewN ?_ _ | refine blk_drew ?_ | refine blk_alloc ?_ _)); refine blk_put (cs := #[.int .i16 ((rd_T65 l1 x9_1).f0), .int .i8 0]) ?_ 1 _ rfl; (with_reducible repeat (first | refine blk_drewN ?_ _ | refine blk_drew ?_ | refine blk_alloc ?_ _)); refine blk_put (cs := #[.int .i16 0, .int .i8 0]) ?_ 0 _ rfl; (with_reducible repeat (first | refine blk_drewN ?_ _ | refine blk_drew ?_ | refine blk_alloc ?_ _)); exact BK441.out⟩
 have n2_ : Aside0 (Below w.heap.size w ((w60.setCell ⟨gb441, 0, none⟩ (.int .i16 ((rd_T65 l1 x9_1).f0))).setCell ⟨gb441, 1, none⟩ (.int .i8 ((rd_T65 l1 x9_1).f1)))) := ⟨zH2 HB GE438 GE441⟩
 (try clear BK438)
 (try clear BK441)
 (try clear HB)
 generalize ((w60.setCell ⟨gb441, 0, none⟩ (.int .i16 ((rd_T65 l1 x9_1).f0))).setCell ⟨gb441, 1, none⟩ (.int .i8 ((rd_T65 l1 x9_1).f1))) = w63 at n0_ n1_ n2_ ⊢
 have BK438 := n0_
 have BK441 := n1_
 have HB := n2_
 clear n0_ n1_ n2_
 replace BK438 := ak (blk_drew BK438.out)
 replace BK441 := ak (blk_drew BK441.out)
 replace HB := ak (below_drew1 HB.out)
 refine start_ (n := 26) (S := fun w' => w'.cell? ⟨gb438, 0, none⟩ = some (.int .i16 a0_0) ∧ w'.cell? ⟨gb438, 1, none⟩ = some (.slice A0_1 l0_1.length c0_1) ∧ w'.cell? ⟨gb441, 0, none⟩ = some (.int .i16 ((rd_T65 l1 x9_1).f0)) ∧ w'.cell? ⟨gb441, 1, none⟩ = some (.int .i8 ((rd_T65 l1 x9_1).f1))) (ds := []) (bA 26 0) (by kernel_rfl) rfl rfl ⟨(blk_cell BK438.out 0).trans rfl, (blk_cell BK438.out 1).trans rfl, (blk_cell BK441.out 0).trans rfl, (blk_cell BK441.out 1).trans rfl⟩ (fun hHeld => ?_); refine with_tabW impl_ValidHolds.tab4 impl_ValidHolds.bits4 (fun HT_ HW_ => ?_)
 generalize w63.drew = w64 at BK438 BK441 HB hHeld ⊢
 refine tK 0 14 (bA 26 1) HT_ HW_ hHeld ?_
 refine tK 1 15 (bA 26 3) HT_ HW_ hHeld ?_
 refine one_ (i := 2) (N := some 16) (bA 26 7) rfl rfl (one_of HT_.out (by kernel_rfl)) (by decide) (fun K hK => ?_)
 refine goes_ Try.func95 (by kernel_rfl) rfl #[.agg #[.int .i16 a0_0, .slice A0_1 l0_1.length c0_1], .agg #[.int .i16 ((rd_T65 l1 x9_1).f0), .int .i8 ((rd_T65 l1 x9_1).f1)]] (by rfl) rfl rfl gl_ ?_
 with_reducible refine (impl_Rope_isHold.calls a0_0 _ _ l0_1 ((rd_T65 l1 x9_1).f0) ((rd_T65 l1 x9_1).f1) false _ ?side1 ?side2 A7.out).mono ?_
 (case side1 => exact sQ (Kd.C_below HR0_1.out HB.out))
 (case side2 => exact HC0_1.out)
 rintro e w65 ⟨rfl, hb⟩
 refine ⟨_, rfl, ?_⟩
 replace BK438 := kK BK438 hb
 replace BK441 := kK BK441 hb
 replace HB := kB2 HB GE438 GE441 hb
 (try clear hb)
 refine hK.out _ _ ⟨(blk_cell BK438.out 0).trans rfl, (blk_cell BK438.out 1).trans rfl, (blk_cell BK441.out 0).trans rfl, (blk_cell BK441.out 1).trans rfl⟩ (fun hHeld => ?_)
 clear hK K
 refine norm_ (a' := ?_) ?_ ?_
 rotate_left
 {
 show Act.put _ (some 16) _ = _
 simp only [Act.put, zs, zz, zk, i64_w, i32_w]
 rfl
 }
 refine pU 3 17 (bA 26 15) HT_ ?_
 refine pU 4 18 (bA 26 31) HT_ ?_
 refine pN 5 19 (bA 26 63) HT_ ?_
 refine pN 6 20 (bA 26 127) HT_ ?_
 refine pN 7 21 (bA 26 255) HT_ ?_
 refine pN 8 22 (bA 26 511) HT_ ?_
 refine pN 9 23 (bA 26 1023) HT_ ?_
 refine pN 10 24 (bA 26 2047) HT_ ?_
 refine pN 11 25 (bA 26 4095) HT_ ?_
 refine pN 12 26 (bA 26 8191) HT_ ?_
 refine pN 13 27 (bA 26 16383) HT_ ?_
 refine pN 14 28 (bA 26 32767) HT_ ?_
 refine pN 15 29 (bA 26 65535) HT_ ?_
 refine pN 16 30 (bA 26 131071) HT_ ?_
 refine pN 17 31 (bA 26 262143) HT_ ?_
 refine pU 18 32 (bA 26 524287) HT_ ?_
 refine pU 19 33 (bA 26 1048575) HT_ ?_
 refine pN 20 34 (bA 26 2097151) HT_ ?_
 refine pN 21 35 (bA 26 4194303) HT_ ?_
 refine pN 22 36 (bA 26 8388607) HT_ ?_
 refine pN 23 37 (bA 26 16777215) HT_ ?_
 refine pN 24 38 (bA 26 33554431) HT_ ?_
 refine pU 25 39 (bA 26 67108863) HT_ ?_
 refine done_ (done_of HT_.out (by kernel_rfl)) ?_
 try go_wp2
 go_ret
 exact ⟨by first | rfl | (simp [errW_none, errW_some] <;> rfl) | (simp [*, errW_none, errW_some] <;> rfl), zH2 HB GE438 GE441⟩
 }
 }
 · rw [if_neg c6] at H; exact absurd H (by simp)
 }
 · rw [if_neg c5] at H; exact absurd H (by simp)
 }
 {
 rw [if_neg c4] at H
 have c4b0 : decide (x9_1 < (l1.length : Int)) = false := decide_eq_false c4
 clear c4
 replace H := Option.bind_eq_some_iff.mp H
 obtain ⟨t439, A660, H⟩ := H
 have A66 := ak A660
 clear A660
 obtain rfl := Option.some.inj H
 have hcz67_0 : wr.cell? ⟨gb438, 0, none⟩ = some (.int .i16 a0_0) := (blk_cell BK438.out 0).trans rfl
 have hcz67_1 : wr.cell? ⟨gb438, 1, none⟩ = some (.slice A0_1 l0_1.length c0_1) := (blk_cell BK438.out 1).trans rfl
 have hfz67_0 := blk_frozen BK438.out 0
 have hfz67_1 := blk_frozen BK438.out 1
 go_wp2_with (first | ((with_reducible refine gate_callee (f := 30) rfl ?_); refine goesL_ (some 42) rfl rfl Try.func30 (by kernel_rfl) rfl #[.agg #[.int .i16 a0_0, .slice A0_1 l0_1.length c0_1]] rfl gl_ ?_; (with_reducible refine (impl_ValidRope.calls k1 a0_0 _ _ l0_1 t439 _ ?side1 ?side2 A66.out).mono ?_); (case side1 => exact sQ (Kd.C_below HR0_1.out HB.out)); (case side2 => exact HC0_1.out); rintro e w68 ⟨rfl, hb⟩; refine ⟨_, rfl, ?_⟩; replace BK438 := kK BK438 hb; replace HB := kB1 HB GE438 hb; (try clear hb)))
 go_ret
 exact ⟨by first | rfl | (simp [errW_none, errW_some] <;> rfl) | (simp [*, errW_none, errW_some] <;> rfl), zBG HB.out GE438.out⟩
 }
 )
 )
end Go.Proofs.Ytooidjdgfoioiaa.P
