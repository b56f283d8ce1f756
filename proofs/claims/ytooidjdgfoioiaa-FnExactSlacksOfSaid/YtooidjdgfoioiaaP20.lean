-- Printed by wip/print (my turned copy of the kit's print) out of the translation; Lean checks it.
import Derived.Test.YtooidjdgfoioiaaP0
import Derived.Test.YtooidjdgfoioiaaP19
namespace Go.Proofs.Ytooidjdgfoioiaa.P
open Go.RowKit Go.Proofs.YtooidjdgfoioiaaW.PrintWords Go.Proofs.YtooidjdgfoioiaaW.PrintLast Go.Proofs.YtooidjdgfoioiaaW.PrintMore
attribute [local go_sem] max2_int min2_int max_two min_two max_three min_three max_four min_four   -- for this text's walks alone
set_option linter.unusedVariables false
set_option linter.unusedSimpArgs false

/-! ### impl_GapsOf: function 66 -/
def impl_GapsOf.l0 : Nat → List (S65) → List Int → Int → Int → List Int → Option (List Int × Int)
  | 0, _, _, _, _, _ => none
  | k + 1, x1, x6, x7, x455000, x455001 => if x7 < (x1.length : Int) then (if 0 ≤ x7 then (if 0 ≤ ((rd_T65 x1 x7).f1) then (if ((rd_T65 x1 x7).f1) < (x455001.length : Int) then (if 0 ≤ (wrap64 (x7 - 1)) then (if (wrap64 (x7 - 1)) < (x1.length : Int) then (if 0 ≤ ((rd_T65 x1 (wrap64 (x7 - 1))).f1) then (if ((rd_T65 x1 (wrap64 (x7 - 1))).f1) < (x455001.length : Int) then (if x6.length < 17592186044416 then (impl_GapsOf.l0 k x1 (x6 ++ [wrap64 (IntKind.i16.wrap ((rd x455001 ((rd_T65 x1 x7).f1)) - (rd x455001 ((rd_T65 x1 (wrap64 (x7 - 1))).f1))))]) (wrap64 (x7 + 1)) x455000 x455001) else (none)) else (none)) else (none)) else (none)) else (none)) else (none)) else (none)) else (none)) else (some (x6, 0))
def impl_GapsOf.f (k : Nat) (a0_0 : Int) (l0_1 : List Int) (l1 : List (S65)) : Option (List Int × Int) := (impl_ValidHolds.f k a0_0 l0_1 l1).bind fun t455 => (if t455 = true then (impl_GapsOf.l0 k l1 (([] : List Int)) 1 a0_0 l0_1) else (some (([] : List Int), 1)))
theorem impl_GapsOf.mono_l : ∀ k, (∀ y0 y1 y2 y3 y4, LeO (impl_GapsOf.l0 k y0 y1 y2 y3 y4) (impl_GapsOf.l0 (k + 1) y0 y1 y2 y3 y4))
  | 0 => fun _ _ _ _ _ r h => by simp [impl_GapsOf.l0] at h
  | k + 1 => by
    have ih0 := impl_GapsOf.mono_l k
    · intro y0 y1 y2 y3 y4
      unfold impl_GapsOf.l0
      repeat' first
      | (with_reducible exact ih0 ..)
      | (with_reducible exact impl_ValidHolds.mono ..)
      | (with_reducible exact LeO.refl ..)
      | (with_reducible exact LeO.none ..)
      | (with_reducible refine LeO.ite ?_ ?_)
      | (with_reducible refine LeO.bind ?_ (fun _ => ?_))
theorem impl_GapsOf.mono : ∀ a0 a1 a2 k, LeO (impl_GapsOf.f k a0 a1 a2) (impl_GapsOf.f (k + 1) a0 a1 a2) := by
  intro a0 a1 a2 k
  have ih0 := impl_GapsOf.mono_l k
  unfold impl_GapsOf.f
  repeat' first
      | (with_reducible exact ih0 ..)
      | (with_reducible exact impl_ValidHolds.mono ..)
      | (with_reducible exact LeO.refl ..)
      | (with_reducible exact LeO.none ..)
      | (with_reducible refine LeO.ite ?_ ?_)
      | (with_reducible refine LeO.bind ?_ (fun _ => ?_))
def impl_GapsOf.T7 : Bool × List (List Nat × List Nat) := (true, [([], []), ([], []), ([1], [1]), ([], []), ([], []), ([3, 4], [3, 4]), ([5], [5]), ([6], [6]), ([2, 7], [2, 7]), ([8], [8]), ([], []), ([10], [10]), ([], []), ([], []), ([13], [13]), ([12, 14], [12, 14]), ([15], [15]), ([16], [16]), ([11, 17], [11, 17]), ([18], [18]), ([9, 19], [9, 19]), ([20], [20]), ([21], [21]), ([0, 22], [0, 22]), ([23, 23, 0, 1, 2, 3, 4, 5, 6, 7, 8, 9, 10, 11, 12, 13, 14, 15, 16, 17, 18, 19, 20, 21, 22, 23], [0, 23])])
def impl_GapsOf.B7 : List Nat := [0, 0, 2, 0, 0, 24, 56, 120, 254, 510, 0, 1024, 0, 0, 8192, 28672, 61440, 126976, 261120, 523264, 1048574, 2097150, 4194302, 8388607, 16777215]
theorem impl_GapsOf.tab7 : rtab .any (opsOf Try.f66 7) = impl_GapsOf.T7 := by kernel_rfl
theorem impl_GapsOf.bits7 : waitsOk impl_GapsOf.T7.2 impl_GapsOf.B7 = true := by kernel_rfl
set_option maxHeartbeats 8000000 in
set_option maxRecDepth 100000 in
theorem impl_GapsOf.calls (k : Nat) (a0_0 : Int) (A0_1 : Option Addr) (c0_1 : Nat) (l0_1 : List Int) (A1 : Option Addr) (c1 : Nat) (l1 : List (S65)) (r1 : List Int) (r2 : Int) (w : World) (hr0_1 : Kd.C (Kd.int .i16) w A0_1 l0_1.length l0_1) (hc0_1 : l0_1.length ≤ c0_1) (hr1 : Kd.C k65 w A1 l1.length l1) (hc1 : l1.length ≤ c1) (h : impl_GapsOf.f k a0_0 l0_1 l1 = some (r1, r2)) :
    Calls Try.prog 66 #[.agg #[.int .i16 a0_0, .slice A0_1 l0_1.length c0_1], .slice A1 l1.length c1] w fun e w' => ∃ v0_ : Value, e = .returned (.tuple #[v0_, .int .i64 r2]) ∧ Kd.R (Kd.int .i64) 2 w' w.heap.size (fun _ => True) v0_ r1 ∧ Below w.heap.size w w' := by
 have hu32 := Try.underlying32
 have HR0_1 := ak hr0_1
 have HC0_1 := ak hc0_1
 clear hr0_1 hc0_1
 have HR1 := ak hr1
 have HC1 := ak hc1
 clear hr1 hc1
 have HB := ak (Below.refl w.heap.size w)
 have H := h
 unfold impl_GapsOf.f at H
 clear h
 replace H := Option.bind_eq_some_iff.mp H
 obtain ⟨t455, A30, H⟩ := H
 have A3 := ak A30
 clear A30
 by_cases c4 : t455 = true
 {
 subst c4
 rw [if_pos rfl] at H
 obtain ⟨y456, hy456⟩ : ∃ y_ : List Int, y_ = (([] : List Int)) := ⟨_, rfl⟩
 replace H : (impl_GapsOf.l0 k l1 y456 1 a0_0 l0_1) = some (r1, r2) := by first | (rw [hy456]; with_reducible exact H) | (have H2_ := (Option.bind_some _ _).symm.trans H; rw [hy456]; with_reducible exact H2_) | (have H2_ := (Option.bind_some _ _).symm.trans H; with_reducible exact H2_) | with_reducible exact H | (rw [hy456]; exact H) | exact H
 have Ny456 := ak hy456
 clear hy456
 have H' := ak H
 clear H
 go_enter Try.func66, Try.ntmps66
 go_wp2_with (first | ((with_reducible refine gate_dst (N := 2) rfl ?_); refine box_event ?hg (N := 2) ?hd (cs := #[.int .i16 a0_0, .slice A0_1 l0_1.length c0_1]) (t := 32) ?hr ?_; (case hd => rfl); (case hg => rfl); (case hr => first | (go_simp; done) | (go_simp; rfl)); intro gb454 hg w5 hbox hb; have BK454 := ak (hbox); have GW454 := gS HB hg; have GE454 := gS HB hg; replace HB := kB HB hb; clear hb hbox hg; obtain ⟨hcz6_0, hcz6_1, hfz6_0, hfz6_1⟩ := cz2 w5 BK454) | ((with_reducible refine gate_callee (f := 87) rfl ?_); refine goesL_ (some 10) rfl rfl Try.func87 (by kernel_rfl) rfl #[.agg #[.int .i16 a0_0, .slice A0_1 l0_1.length c0_1], .slice A1 l1.length c1] rfl gl_ ?_; (with_reducible refine (impl_ValidHolds.calls k a0_0 _ _ l0_1 _ _ l1 true _ ?side1 ?side2 ?side3 ?side4 A3.out).mono ?_); (case side1 => exact sQ (Kd.C_below HR0_1.out HB.out)); (case side2 => exact HC0_1.out); (case side3 => exact sQ (Kd.C_below HR1.out HB.out)); (case side4 => exact HC1.out); rintro e w7 ⟨rfl, hb⟩; refine ⟨_, rfl, ?_⟩; replace BK454 := kK BK454 hb; replace HB := kB1 HB GE454 hb; (try clear hb)) | ((with_reducible refine gate_dst (N := 12) rfl ?_); refine Kd.R_lit (Kd.int .i64) _ 2 ?hg (N := 12) ?hd (xs := ([] : List Int)) (inner := []) (ok := fun _ => True) (okp := fun _ => True) ?hr ?hp (fun _ hk => hk) trivial (Below.refl _ _) (Nat.le_refl _) (by simp) ?_; (case hd => rfl); (case hg => rfl); (case hr => first | (go_simp; done) | (go_simp; rfl)); (case hp => exact (Reps.none _ _)); intro v457 w8 ho9 hb hg_ hnew_; clear hg_ hnew_; (first | rw [← Ny456.out] at ho9 | (simp only [Int.reduceToNat] at ho9; rw [← Ny456.out] at ho9)); have HO458 := ak (Kd.R_lower ho9 (below_size (zBG HB.out GE454.out))); replace BK454 := kK BK454 hb; replace HB := kB1 HB GE454 hb; clear hb ho9))
 go_loopg [6, 7] k (fun kq v6 v7 w' => ∃ (x6_1 : List Int) (x7_1 : Int), v7 = .int .i64 x7_1 ∧ Aside0 (impl_GapsOf.l0 kq l1 x6_1 x7_1 a0_0 l0_1 = some (r1, r2)) ∧ Aside0 (kq ≤ k) ∧ Aside0 (Kd.R (Kd.int .i64) 2 w' w.heap.size (fun _ => True) v6 x6_1) ∧ Aside0 (w'.heap[gb454]? = some (.cells #[.int .i16 a0_0, (.slice A0_1 l0_1.length c0_1)] 32 (0, 0))) ∧ Aside0 (Below w.heap.size w w'))
 case atStart => exact ⟨(y456), (1), (by first | rfl | (simp; done) | (simp [*]; done)), H', ⟨Nat.le_refl _⟩, ⟨(zR HO458.out)⟩, ⟨(zK BK454.out)⟩, ⟨zBG HB.out GE454.out⟩⟩
 case round => (
 clear H'
 try clear c1
 try clear c4
 try clear hcz6_0
 try clear hcz6_1
 try clear hfz6_0
 try clear hfz6_1
 obtain ⟨x6_1, x7_1, rfl, HA, HK1, HO_6, BK454, HB⟩ := hrel
 cases gk with
 | zero => exact absurd HA.out (by simp [impl_GapsOf.l0])
 | succ k1 => (
 have H := HA.out
 clear HA
 simp only [impl_GapsOf.l0] at H
 by_cases c10 : x7_1 < (l1.length : Int)
 {
 rw [if_pos c10] at H
 have c10b0 : decide (x7_1 < (l1.length : Int)) = true := decide_eq_true c10
 clear c10
 by_cases c11 : 0 ≤ x7_1
 {
 rw [if_pos c11] at H
 have c11b0 : decide (0 ≤ x7_1) = true := decide_eq_true c11
 clear c11
 by_cases c12 : 0 ≤ ((rd_T65 l1 x7_1).f1)
 {
 rw [if_pos c12] at H
 have c12b0 : decide (0 ≤ ((rd_T65 l1 x7_1).f1)) = true := decide_eq_true c12
 clear c12
 by_cases c13 : ((rd_T65 l1 x7_1).f1) < (l0_1.length : Int)
 {
 rw [if_pos c13] at H
 have c13b0 : decide (((rd_T65 l1 x7_1).f1) < (l0_1.length : Int)) = true := decide_eq_true c13
 clear c13
 obtain ⟨ji14, hji14⟩ : ∃ j_ : Int, (wrap64 (x7_1 - 1)) = j_ := ⟨_, rfl⟩
 first | rw [hji14] at H | simp only [hji14] at H
 have hji14w : (IntKind.i64.wrap (x7_1 - 1)) = ji14 := (i64_w _).trans hji14
 by_cases c15 : 0 ≤ (ji14)
 {
 rw [if_pos c15] at H
 have c15b0 : decide (0 ≤ (ji14)) = true := decide_eq_true c15
 clear c15
 by_cases c16 : (ji14) < (l1.length : Int)
 {
 rw [if_pos c16] at H
 have c16b0 : decide ((ji14) < (l1.length : Int)) = true := decide_eq_true c16
 clear c16
 by_cases c17 : 0 ≤ ((rd_T65 l1 (ji14)).f1)
 {
 rw [if_pos c17] at H
 have c17b0 : decide (0 ≤ ((rd_T65 l1 (ji14)).f1)) = true := decide_eq_true c17
 clear c17
 by_cases c18 : ((rd_T65 l1 (ji14)).f1) < (l0_1.length : Int)
 {
 rw [if_pos c18] at H
 have c18b0 : decide (((rd_T65 l1 (ji14)).f1) < (l0_1.length : Int)) = true := decide_eq_true c18
 clear c18
 by_cases c19 : x6_1.length < 17592186044416
 {
 rw [if_pos c19] at H
 have LMc19 := ak c19
 clear c19
 obtain ⟨y463, hy463⟩ : ∃ y_ : List Int, y_ = (x6_1 ++ [wrap64 (IntKind.i16.wrap ((rd l0_1 ((rd_T65 l1 x7_1).f1)) - (rd l0_1 ((rd_T65 l1 (ji14)).f1))))]) := ⟨_, rfl⟩
 replace H : (impl_GapsOf.l0 k1 l1 y463 (wrap64 (x7_1 + 1)) a0_0 l0_1) = some (r1, r2) := by first | (rw [hy463]; with_reducible exact H) | (have H2_ := (Option.bind_some _ _).symm.trans H; rw [hy463]; with_reducible exact H2_) | (have H2_ := (Option.bind_some _ _).symm.trans H; with_reducible exact H2_) | with_reducible exact H | (rw [hy463]; exact H) | exact H
 have Ny463 := ak hy463
 clear hy463
 have H' := ak H
 clear H
 try go_wp2
 replace HO_6 := ak (Kd.R_drew HO_6.out)
 replace BK454 := ak (blk_drew BK454.out)
 replace HB := ak (below_drew1 HB.out)
 have p459 : 0 ≤ (x7_1 : Int) := of_decide_eq_true (by first | (with_reducible assumption) | assumption)
 have q459 : x7_1 < (l1.length : Int) := of_decide_eq_true (by first | (with_reducible assumption) | assumption)
 obtain ⟨ad459, e459, hx459_0, hx459_1⟩ := at_T65 HR1.out x7_1 p459 q459
 have hw459_1 := hx459_1
 have hw459_0 := hx459_0
 cases e459
 replace hx459_0 := (HB.out.cell (World.block_lt_of_cell? w _ hx459_0)).trans hx459_0
 replace hx459_1 := (HB.out.cell (World.block_lt_of_cell? w _ hx459_1)).trans hx459_1
 replace p459 := eq_true p459
 replace q459 := eq_true q459
 have p460 : 0 ≤ (((rd_T65 l1 x7_1).f1) : Int) := of_decide_eq_true (by first | (with_reducible assumption) | assumption)
 have q460 : ((rd_T65 l1 x7_1).f1) < (l0_1.length : Int) := of_decide_eq_true (by first | (with_reducible assumption) | assumption)
 obtain ⟨ad460, e460, hx460_0⟩ := Kd.at_int HR0_1.out ((rd_T65 l1 x7_1).f1) p460 q460
 have hw460_0 := hx460_0
 cases e460
 replace hx460_0 := (HB.out.cell (World.block_lt_of_cell? w _ hx460_0)).trans hx460_0
 replace p460 := eq_true p460
 replace q460 := eq_true q460
 have p461 : 0 ≤ ((ji14) : Int) := of_decide_eq_true (by first | (with_reducible assumption) | assumption)
 have q461 : (ji14) < (l1.length : Int) := of_decide_eq_true (by first | (with_reducible assumption) | assumption)
 obtain ⟨ad461, e461, hx461_0, hx461_1⟩ := at_T65 HR1.out (ji14) p461 q461
 have hw461_1 := hx461_1
 have hw461_0 := hx461_0
 obtain rfl : ad459 = ad461 := (by injection e461)
 replace hx461_0 := (HB.out.cell (World.block_lt_of_cell? w _ hx461_0)).trans hx461_0
 replace hx461_1 := (HB.out.cell (World.block_lt_of_cell? w _ hx461_1)).trans hx461_1
 replace p461 := eq_true p461
 replace q461 := eq_true q461
 have p462 : 0 ≤ (((rd_T65 l1 (ji14)).f1) : Int) := of_decide_eq_true (by first | (with_reducible assumption) | assumption)
 have q462 : ((rd_T65 l1 (ji14)).f1) < (l0_1.length : Int) := of_decide_eq_true (by first | (with_reducible assumption) | assumption)
 obtain ⟨ad462, e462, hx462_0⟩ := Kd.at_int HR0_1.out ((rd_T65 l1 (ji14)).f1) p462 q462
 have hw462_0 := hx462_0
 obtain rfl : ad460 = ad462 := (by injection e462)
 replace hx462_0 := (HB.out.cell (World.block_lt_of_cell? w _ hx462_0)).trans hx462_0
 replace p462 := eq_true p462
 replace q462 := eq_true q462
 refine start_ (n := 25) (S := fun w' => w'.cell? ⟨gb454, 0, none⟩ = some (.int .i16 a0_0) ∧ w'.cell? ⟨gb454, 1, none⟩ = some (.slice (some ad460) l0_1.length c0_1) ∧ w'.cell? (ad459.add ((x7_1).toNat * 2)) = some (.int .i16 ((rd_T65 l1 x7_1).f0)) ∧ w'.cell? ⟨(ad459.add ((x7_1).toNat * 2)).block, (ad459.add ((x7_1).toNat * 2)).off + 1, none⟩ = some (.int .i8 ((rd_T65 l1 x7_1).f1)) ∧ w'.cell? (ad460.add (((rd_T65 l1 x7_1).f1)).toNat) = some (.int .i16 (rd l0_1 ((rd_T65 l1 x7_1).f1))) ∧ w'.cell? (ad459.add (((ji14)).toNat * 2)) = some (.int .i16 ((rd_T65 l1 (ji14)).f0)) ∧ w'.cell? ⟨(ad459.add (((ji14)).toNat * 2)).block, (ad459.add (((ji14)).toNat * 2)).off + 1, none⟩ = some (.int .i8 ((rd_T65 l1 (ji14)).f1)) ∧ w'.cell? (ad460.add (((rd_T65 l1 (ji14)).f1)).toNat) = some (.int .i16 (rd l0_1 ((rd_T65 l1 (ji14)).f1)))) (ds := []) (bA 25 0) (by kernel_rfl) rfl rfl ⟨(blk_cell BK454.out 0).trans rfl, (blk_cell BK454.out 1).trans rfl, ((HB.out.cell (World.block_lt_of_cell? w _ hw459_0)).trans hw459_0), ((HB.out.cell (World.block_lt_of_cell? w _ hw459_1)).trans hw459_1), ((HB.out.cell (World.block_lt_of_cell? w _ hw460_0)).trans hw460_0), ((HB.out.cell (World.block_lt_of_cell? w _ hw461_0)).trans hw461_0), ((HB.out.cell (World.block_lt_of_cell? w _ hw461_1)).trans hw461_1), ((HB.out.cell (World.block_lt_of_cell? w _ hw462_0)).trans hw462_0)⟩ (fun hHeld => ?_); refine with_tabW impl_GapsOf.tab7 impl_GapsOf.bits7 (fun HT_ HW_ => ?_)
 generalize wr.drew = w20 at HO_6 BK454 HB hx459_0 hx459_1 hx460_0 hx461_0 hx461_1 hx462_0 hHeld ⊢
 refine pU 0 19 (bA 25 1) HT_ ?_
 refine pU 1 20 (bA 25 3) HT_ ?_
 refine pU 3 22 (bA 25 11) HT_ ?_
 refine pU 4 23 (bA 25 27) HT_ ?_
 refine pU 5 24 (bA 25 59) HT_ ?_
 refine pU 6 25 (bA 25 123) HT_ ?_
 refine pU 10 29 (bA 25 1147) HT_ ?_
 refine pU 12 31 (bA 25 5243) HT_ ?_
 refine pU 13 32 (bA 25 13435) HT_ ?_
 refine pU 14 33 (bA 25 29819) HT_ ?_
 refine pU 15 34 (bA 25 62587) HT_ ?_
 refine pU 16 35 (bA 25 128123) HT_ ?_
 refine tK 2 21 (bA 25 128127) HT_ HW_ hHeld ?_
 refine tK 7 26 (bA 25 128255) HT_ HW_ hHeld ?_
 refine pU 8 27 (bA 25 128511) HT_ ?_
 refine tK 9 28 (bA 25 129023) HT_ HW_ hHeld ?_
 refine tK 11 30 (bA 25 131071) HT_ HW_ hHeld ?_
 refine tK 17 36 (bA 25 262143) HT_ HW_ hHeld ?_
 refine pU 18 37 (bA 25 524287) HT_ ?_
 refine tK 19 38 (bA 25 1048575) HT_ HW_ hHeld ?_
 refine pU 20 39 (bA 25 2097151) HT_ ?_
 refine pU 21 40 (bA 25 4194303) HT_ ?_
 refine one_ (i := 22) (N := some 41) (bA 25 8388607) rfl rfl (one_of HT_.out (by kernel_rfl)) (by decide) (fun K hK => ?_)
 refine value_ (w1 := ?_) (v := ?_) (by rfl) rfl ?_ ?_
 rotate_left 2
 {
 go_simp
 constructor
 · rfl
 · rfl
 }
 refine hK.out _ _ ⟨(blk_cell (blk_alloc BK454.out _) 0).trans rfl, (blk_cell (blk_alloc BK454.out _) 1).trans rfl, (World.cell?_alloc_lt _ _ _ (World.block_lt_of_cell? _ _ (((HB.out.cell (World.block_lt_of_cell? w _ hw459_0)).trans hw459_0)))).trans (((HB.out.cell (World.block_lt_of_cell? w _ hw459_0)).trans hw459_0)), (World.cell?_alloc_lt _ _ _ (World.block_lt_of_cell? _ _ (((HB.out.cell (World.block_lt_of_cell? w _ hw459_1)).trans hw459_1)))).trans (((HB.out.cell (World.block_lt_of_cell? w _ hw459_1)).trans hw459_1)), (World.cell?_alloc_lt _ _ _ (World.block_lt_of_cell? _ _ (((HB.out.cell (World.block_lt_of_cell? w _ hw460_0)).trans hw460_0)))).trans (((HB.out.cell (World.block_lt_of_cell? w _ hw460_0)).trans hw460_0)), (World.cell?_alloc_lt _ _ _ (World.block_lt_of_cell? _ _ (((HB.out.cell (World.block_lt_of_cell? w _ hw461_0)).trans hw461_0)))).trans (((HB.out.cell (World.block_lt_of_cell? w _ hw461_0)).trans hw461_0)), (World.cell?_alloc_lt _ _ _ (World.block_lt_of_cell? _ _ (((HB.out.cell (World.block_lt_of_cell? w _ hw461_1)).trans hw461_1)))).trans (((HB.out.cell (World.block_lt_of_cell? w _ hw461_1)).trans hw461_1)), (World.cell?_alloc_lt _ _ _ (World.block_lt_of_cell? _ _ (((HB.out.cell (World.block_lt_of_cell? w _ hw462_0)).trans hw462_0)))).trans (((HB.out.cell (World.block_lt_of_cell? w _ hw462_0)).trans hw462_0))⟩ (fun hHeld => ?_)
 clear hK K
 refine norm_ (a' := ?_) ?_ ?_
 rotate_left
 {
 show Act.put _ (some 41) _ = _
 simp only [Act.put, zs, zz, zk, i64_w, i32_w]
 rfl
 }
 refine one_ (i := 23) (N := some 42) (bA 25 16777215) rfl rfl (one_of HT_.out (by kernel_rfl)) (by decide) (fun K hK => ?_)
 refine Kd.R_append_step (Kd.int .i64) (w0 := w) w.heap.size (by rfl) (.tmp 19) (.tmp 41) 66 2 (.int .i64 0) 8 rfl Try.underlying66 info2 rfl (by decide) (by omega) u6 x6_1 (wrap64 (IntKind.i16.wrap ((rd l0_1 ((rd_T65 l1 x7_1).f1)) - (rd l0_1 ((rd_T65 l1 (ji14)).f1))))) [.int .i64 (wrap64 (IntKind.i16.wrap ((rd l0_1 ((rd_T65 l1 x7_1).f1)) - (rd l0_1 ((rd_T65 l1 (ji14)).f1)))))] (fun _ => True) (fun _ => False) rfl rfl ?aP (fun _ hk => hk.elim) ?aF ?aO ?aB ?aS ?aL ?_
 (case aP => exact rfl)
 (case aB => exact (zBG HB.out GE454.out))
 (case aF => exact (fun _ _ => trivial))
 (case aO => exact (zR HO_6.out))
 (case aS => exact (below_size (zBG HB.out GE454.out)))
 (case aL => have := LMc19.out; omega)
 intro v464 w21 ho hb hg hat
 rw [← Ny463.out] at ho
 have HO465 := ak (ho)
 replace BK454 := ak (blk_grown (g := gb454) (o := .cells #[.int .i16 a0_0, .slice (some ad460) l0_1.length c0_1] 32 (0, 0)) (zK BK454.out) hg (Kd.R_ne HO_6.out BK454.out (by decide)))
 replace HB := ak (hb)
 clear HO_6
 refine hK.out _ _ ⟨(blk_cell BK454.out 0).trans rfl, (blk_cell BK454.out 1).trans rfl, ((HB.out.cell (World.block_lt_of_cell? w _ hw459_0)).trans hw459_0), ((HB.out.cell (World.block_lt_of_cell? w _ hw459_1)).trans hw459_1), ((HB.out.cell (World.block_lt_of_cell? w _ hw460_0)).trans hw460_0), ((HB.out.cell (World.block_lt_of_cell? w _ hw461_0)).trans hw461_0), ((HB.out.cell (World.block_lt_of_cell? w _ hw461_1)).trans hw461_1), ((HB.out.cell (World.block_lt_of_cell? w _ hw462_0)).trans hw462_0)⟩ (fun hHeld => ?_)
 clear hK K
 refine norm_ (a' := ?_) ?_ ?_
 rotate_left
 {
 show Act.put _ (some 42) _ = _
 simp only [Act.put, zs, zz, zk, i64_w, i32_w]
 rfl
 }
 refine pU 24 6 (bA 25 33554431) HT_ ?_
 refine done_ (done_of HT_.out (by kernel_rfl)) ?_
 try go_wp2
 go_roundg k1
 case measure => have := HK1.out; omega
 case rel => exact ⟨(y463), (wrap64 (x7_1 + 1)), (by first | rfl | (simp; done) | (simp [*]; done)), H', ⟨by have := HK1.out; omega⟩, ⟨(zR HO465.out)⟩, ⟨(zK BK454.out)⟩, ⟨zBG HB.out GE454.out⟩⟩
 }
 · rw [if_neg c19] at H; exact absurd H (by simp)
 }
 · rw [if_neg c18] at H; exact absurd H (by simp)
 }
 · rw [if_neg c17] at H; exact absurd H (by simp)
 }
 · rw [if_neg c16] at H; exact absurd H (by simp)
 }
 · rw [if_neg c15] at H; exact absurd H (by simp)
 }
 · rw [if_neg c13] at H; exact absurd H (by simp)
 }
 · rw [if_neg c12] at H; exact absurd H (by simp)
 }
 · rw [if_neg c11] at H; exact absurd H (by simp)
 }
 {
 rw [if_neg c10] at H
 have c10b0 : decide (x7_1 < (l1.length : Int)) = false := decide_eq_false c10
 clear c10
 simp only [Option.some.injEq, Prod.mk.injEq] at H
 obtain ⟨rfl, rfl⟩ := H
 go_wp2
 go_ret2
 exact ⟨_, by first | rfl | (simp [errW_none, errW_some] <;> rfl) | (simp [*, errW_none, errW_some] <;> rfl), by (with_reducible repeat (first | apply Kd.R_alloc | apply Kd.R_drewN | apply Kd.R_drew)); exact HO_6.out, zBG HB.out GE454.out⟩
 }
 )
 )
 }
 {
 replace c4 := Bool.eq_false_iff.mpr c4
 subst c4
 rw [if_neg (show ¬ (false = true) by decide)] at H
 simp only [Option.some.injEq, Prod.mk.injEq] at H
 obtain ⟨rfl, rfl⟩ := H
 go_enter Try.func66, Try.ntmps66
 go_wp2_with (first | ((with_reducible refine gate_dst (N := 2) rfl ?_); refine box_event ?hg (N := 2) ?hd (cs := #[.int .i16 a0_0, .slice A0_1 l0_1.length c0_1]) (t := 32) ?hr ?_; (case hd => rfl); (case hg => rfl); (case hr => first | (go_simp; done) | (go_simp; rfl)); intro gb454 hg w22 hbox hb; have BK454 := ak (hbox); have GW454 := gS HB hg; have GE454 := gS HB hg; replace HB := kB HB hb; clear hb hbox hg; obtain ⟨hcz23_0, hcz23_1, hfz23_0, hfz23_1⟩ := cz2 w22 BK454) | ((with_reducible refine gate_callee (f := 87) rfl ?_); refine goesL_ (some 10) rfl rfl Try.func87 (by kernel_rfl) rfl #[.agg #[.int .i16 a0_0, .slice A0_1 l0_1.length c0_1], .slice A1 l1.length c1] rfl gl_ ?_; (with_reducible refine (impl_ValidHolds.calls k a0_0 _ _ l0_1 _ _ l1 false _ ?side1 ?side2 ?side3 ?side4 A3.out).mono ?_); (case side1 => exact sQ (Kd.C_below HR0_1.out HB.out)); (case side2 => exact HC0_1.out); (case side3 => exact sQ (Kd.C_below HR1.out HB.out)); (case side4 => exact HC1.out); rintro e w24 ⟨rfl, hb⟩; refine ⟨_, rfl, ?_⟩; replace BK454 := kK BK454 hb; replace HB := kB1 HB GE454 hb; (try clear hb)))
 go_ret2
 exact ⟨_, by first | rfl | (simp [errW_none, errW_some] <;> rfl) | (simp [*, errW_none, errW_some] <;> rfl), by first | exact Kd.R_nil _ _ _ _ _ | exact Kd.N_nil _ _ _ _ _ | exact Kd.V_nil _ _ _ _ _ | exact Kd.Q_nil _ _ _ _ _ | exact Kd.S_nil _ _ _ _ _, zBG HB.out GE454.out⟩
 }
end Go.Proofs.Ytooidjdgfoioiaa.P
