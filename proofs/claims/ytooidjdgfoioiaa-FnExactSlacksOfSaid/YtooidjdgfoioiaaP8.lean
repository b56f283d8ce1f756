-- Printed by wip/print (my turned copy of the kit's print) out of the translation; Lean checks it.
import Derived.Test.YtooidjdgfoioiaaP0
import Derived.Test.YtooidjdgfoioiaaP6
namespace Go.Proofs.Ytooidjdgfoioiaa.P
open Go.RowKit Go.Proofs.YtooidjdgfoioiaaW.PrintWords Go.Proofs.YtooidjdgfoioiaaW.PrintLast Go.Proofs.YtooidjdgfoioiaaW.PrintMore
attribute [local go_sem] max2_int min2_int max_two min_two max_three min_three max_four min_four   -- for this text's walks alone
set_option linter.unusedVariables false
set_option linter.unusedSimpArgs false

/-! ### impl_Room_isFree: function 99 -/
def impl_Room_isFree.f (a0_0 : Int) (a0_1 : Int) (a0_2 : Int) (a0_3 : Int) (a0_4 : Int) (a0_5 : Int) (a0_6 : Int) (a0_7 : Int) (a0_8 : Int) (a0_9 : Int) (a0_10 : Int) (a0_11 : Int) (a1_0 : Int) (a1_1 : Int) : Option (Bool) := (impl_Room_isCell.f a0_0 a0_1 a0_2 a0_3 a0_4 a0_5 a0_6 a0_7 a0_8 a0_9 a0_10 a0_11 a1_0 a1_1).bind fun t195 => (if t195 = true then (if 0 ≤ a1_1 then (if a1_1 < 10 then (if a1_1 = 0 then (if 0 ≤ a1_0 then (some ((Go.bits .and .u16 (shr .u16 a0_2 a1_0) 1) == 0)) else (none)) else (if a1_1 = 1 then (if 0 ≤ a1_0 then (some ((Go.bits .and .u16 (shr .u16 a0_3 a1_0) 1) == 0)) else (none)) else (if a1_1 = 2 then (if 0 ≤ a1_0 then (some ((Go.bits .and .u16 (shr .u16 a0_4 a1_0) 1) == 0)) else (none)) else (if a1_1 = 3 then (if 0 ≤ a1_0 then (some ((Go.bits .and .u16 (shr .u16 a0_5 a1_0) 1) == 0)) else (none)) else (if a1_1 = 4 then (if 0 ≤ a1_0 then (some ((Go.bits .and .u16 (shr .u16 a0_6 a1_0) 1) == 0)) else (none)) else (if a1_1 = 5 then (if 0 ≤ a1_0 then (some ((Go.bits .and .u16 (shr .u16 a0_7 a1_0) 1) == 0)) else (none)) else (if a1_1 = 6 then (if 0 ≤ a1_0 then (some ((Go.bits .and .u16 (shr .u16 a0_8 a1_0) 1) == 0)) else (none)) else (if a1_1 = 7 then (if 0 ≤ a1_0 then (some ((Go.bits .and .u16 (shr .u16 a0_9 a1_0) 1) == 0)) else (none)) else (if a1_1 = 8 then (if 0 ≤ a1_0 then (some ((Go.bits .and .u16 (shr .u16 a0_10 a1_0) 1) == 0)) else (none)) else (if a1_1 = 9 then (if 0 ≤ a1_0 then (some ((Go.bits .and .u16 (shr .u16 a0_11 a1_0) 1) == 0)) else (none)) else (none))))))))))) else (none)) else (none)) else (some false))
def impl_Room_isFree.T1 : Bool × List (List Nat × List Nat) := (true, [([], []), ([], []), ([0, 1], [0, 1]), ([2, 2], [2]), ([3], [3]), ([4, 3], [3, 4]), ([3], [3]), ([6, 5, 3], [3, 5, 6]), ([7, 3], [3, 7]), ([3], [3]), ([9, 3], [3, 9]), ([8, 10, 3], [3, 8, 10]), ([11, 3], [3, 11]), ([12, 3], [3, 12]), ([3, 13], [3, 13]), ([14, 3, 0, 1, 2, 3, 4, 5, 6, 7, 8, 9, 10, 11, 12, 13, 14], [14])])
def impl_Room_isFree.B1 : List Nat := [0, 0, 3, 7, 15, 31, 15, 127, 255, 15, 527, 2047, 4095, 8191, 16383, 32767]
theorem impl_Room_isFree.tab1 : rtab .any (opsOf Try.f99 1) = impl_Room_isFree.T1 := by kernel_rfl
theorem impl_Room_isFree.bits1 : waitsOk impl_Room_isFree.T1.2 impl_Room_isFree.B1 = true := by kernel_rfl
set_option maxHeartbeats 8000000 in
set_option maxRecDepth 100000 in
theorem impl_Room_isFree.calls (a0_0 : Int) (a0_1 : Int) (a0_2 : Int) (a0_3 : Int) (a0_4 : Int) (a0_5 : Int) (a0_6 : Int) (a0_7 : Int) (a0_8 : Int) (a0_9 : Int) (a0_10 : Int) (a0_11 : Int) (a1_0 : Int) (a1_1 : Int) (r : Bool) (w : World) (h : impl_Room_isFree.f a0_0 a0_1 a0_2 a0_3 a0_4 a0_5 a0_6 a0_7 a0_8 a0_9 a0_10 a0_11 a1_0 a1_1 = some r) :
    Calls Try.prog 99 #[.agg #[.int .i8 a0_0, .int .i8 a0_1, .int .u16 a0_2, .int .u16 a0_3, .int .u16 a0_4, .int .u16 a0_5, .int .u16 a0_6, .int .u16 a0_7, .int .u16 a0_8, .int .u16 a0_9, .int .u16 a0_10, .int .u16 a0_11], .agg #[.int .i8 a1_0, .int .i8 a1_1]] w fun e w' => e = .returned (.bool r) ∧ Below w.heap.size w w' := by
 have hu35 := Try.underlying35
 have hu62 := Try.underlying62
 have HB := ak (Below.refl w.heap.size w)
 have H := h
 unfold impl_Room_isFree.f at H
 clear h
 replace H := Option.bind_eq_some_iff.mp H
 obtain ⟨t195, A30, H⟩ := H
 have A3 := ak A30
 clear A30
 by_cases c4 : t195 = true
 {
 subst c4
 rw [if_pos rfl] at H
 by_cases c5 : 0 ≤ a1_1
 {
 rw [if_pos c5] at H
 have c5b0 : decide (0 ≤ a1_1) = true := decide_eq_true c5
 clear c5
 by_cases c6 : a1_1 < 10
 {
 rw [if_pos c6] at H
 have c6b0 : decide (a1_1 < 10) = true := decide_eq_true c6
 clear c6
 obtain ⟨u_, hu_, H⟩ : ∃ u_ : Int, (#[.int .i8 a0_0, .int .i8 a0_1, .int .u16 a0_2, .int .u16 a0_3, .int .u16 a0_4, .int .u16 a0_5, .int .u16 a0_6, .int .u16 a0_7, .int .u16 a0_8, .int .u16 a0_9, .int .u16 a0_10, .int .u16 a0_11] : Array Value)[2 + a1_1.toNat]? = some (.int .u16 u_) ∧ (if 0 ≤ a1_0 then (some ((Go.bits .and .u16 (shr .u16 u_ a1_0) 1) == 0)) else (none)) = some r := by
  by_cases e_ : a1_1 = 0
  · rw [if_pos e_] at H; exact ⟨a0_2, by rw [e_]; rfl, H⟩
  rw [if_neg e_] at H
  by_cases e_ : a1_1 = 1
  · rw [if_pos e_] at H; exact ⟨a0_3, by rw [e_]; rfl, H⟩
  rw [if_neg e_] at H
  by_cases e_ : a1_1 = 2
  · rw [if_pos e_] at H; exact ⟨a0_4, by rw [e_]; rfl, H⟩
  rw [if_neg e_] at H
  by_cases e_ : a1_1 = 3
  · rw [if_pos e_] at H; exact ⟨a0_5, by rw [e_]; rfl, H⟩
  rw [if_neg e_] at H
  by_cases e_ : a1_1 = 4
  · rw [if_pos e_] at H; exact ⟨a0_6, by rw [e_]; rfl, H⟩
  rw [if_neg e_] at H
  by_cases e_ : a1_1 = 5
  · rw [if_pos e_] at H; exact ⟨a0_7, by rw [e_]; rfl, H⟩
  rw [if_neg e_] at H
  by_cases e_ : a1_1 = 6
  · rw [if_pos e_] at H; exact ⟨a0_8, by rw [e_]; rfl, H⟩
  rw [if_neg e_] at H
  by_cases e_ : a1_1 = 7
  · rw [if_pos e_] at H; exact ⟨a0_9, by rw [e_]; rfl, H⟩
  rw [if_neg e_] at H
  by_cases e_ : a1_1 = 8
  · rw [if_pos e_] at H; exact ⟨a0_10, by rw [e_]; rfl, H⟩
  rw [if_neg e_] at H
  by_cases e_ : a1_1 = 9
  · rw [if_pos e_] at H; exact ⟨a0_11, by rw [e_]; rfl, H⟩
  rw [if_neg e_] at H
  exact absurd H (by simp)
 have hin_ : 0 ≤ a1_1 ∧ a1_1 < 10 := ⟨of_decide_eq_true c5b0, of_decide_eq_true c6b0⟩
 by_cases c8 : 0 ≤ a1_0
 {
 rw [if_pos c8] at H
 have c8b0 := eq_true c8
 have c8b1 : decide (0 ≤ a1_0) = true := decide_eq_true c8
 clear c8
 obtain ⟨ji9, hji9⟩ : ∃ j_ : Int, (shr .u16 u_ a1_0) = j_ := ⟨_, rfl⟩
 first | rw [hji9] at H | simp only [hji9] at H
 (try rw [hji9] at A3)
 have hji9_ : (u_ / 2 ^ min a1_0.toNat 16) = ji9 := hji9
 have hji9z : a1_0 ≤ 16 → (u_ / 2 ^ a1_0.toNat) = ji9 := shr_small hji9
 obtain rfl := Option.some.inj H
 go_enter Try.func99, Try.ntmps99
 try go_wp2_with (first | ((with_reducible refine gate_dst (N := 2) rfl ?_); refine box_event ?hg (N := 2) ?hd (cs := #[.int .i8 a0_0, .int .i8 a0_1, .int .u16 a0_2, .int .u16 a0_3, .int .u16 a0_4, .int .u16 a0_5, .int .u16 a0_6, .int .u16 a0_7, .int .u16 a0_8, .int .u16 a0_9, .int .u16 a0_10, .int .u16 a0_11]) (t := 35) ?hr ?_; (case hd => rfl); (case hg => rfl); (case hr => first | (go_simp; done) | (go_simp; rfl)); intro gb193 hg w10 hbox hb; have n0_ := ak (below_step (zB HB.out) hb); have n1_ := ak (hbox); have n2_ := gS HB hg; have n3_ := gS HB hg; clear HB; have HB := n0_; have BK193 := n1_; have GW193 := n2_; have GE193 := n3_; clear n0_ n1_ n2_ n3_; clear hb hbox hg) | ((with_reducible refine gate_dst (N := 3) rfl ?_); refine box_event ?hg (N := 3) ?hd (cs := #[.int .i8 a1_0, .int .i8 a1_1]) (t := 62) ?hr ?_; (case hd => rfl); (case hg => rfl); (case hr => first | (go_simp; done) | (go_simp; rfl)); intro gb194 hg w11 hbox hb; have n0_ := ak (blk_below (g := gb193) (o := .cells #[.int .i8 a0_0, .int .i8 a0_1, .int .u16 a0_2, .int .u16 a0_3, .int .u16 a0_4, .int .u16 a0_5, .int .u16 a0_6, .int .u16 a0_7, .int .u16 a0_8, .int .u16 a0_9, .int .u16 a0_10, .int .u16 a0_11] 35 (0, 0)) (zK BK193.out) hb); have n1_ := ak (below_step (zBG HB.out GE193.out) hb); have n2_ := ak (hbox); have n3_ := gS1 HB GE193 hg; have n4_ := gS1 HB GE193 hg; have n5_ := nL BK193 hg; have n6_ := nG BK193 hg; clear BK193 HB; have BK193 := n0_; have HB := n1_; have BK194 := n2_; have GW194 := n3_; have GE194 := n4_; have NB193_194 := n5_; have NB194_193 := n6_; clear n0_ n1_ n2_ n3_ n4_ n5_ n6_; clear hb hbox hg))
 replace BK193 := ak (blk_drew BK193.out)
 replace BK194 := ak (blk_drew BK194.out)
 replace HB := ak (below_drew1 HB.out)
 refine start_ (n := 16) (S := fun w' => w'.cell? ⟨gb193, 0, none⟩ = some (.int .i8 a0_0) ∧ w'.cell? ⟨gb193, 1, none⟩ = some (.int .i8 a0_1) ∧ w'.cell? ⟨gb193, 2, none⟩ = some (.int .u16 a0_2) ∧ w'.cell? ⟨gb193, 2 + a1_1.toNat, none⟩ = some (.int .u16 u_) ∧ w'.cell? ⟨gb193, 3, none⟩ = some (.int .u16 a0_3) ∧ w'.cell? ⟨gb193, 4, none⟩ = some (.int .u16 a0_4) ∧ w'.cell? ⟨gb193, 5, none⟩ = some (.int .u16 a0_5) ∧ w'.cell? ⟨gb193, 6, none⟩ = some (.int .u16 a0_6) ∧ w'.cell? ⟨gb193, 7, none⟩ = some (.int .u16 a0_7) ∧ w'.cell? ⟨gb193, 8, none⟩ = some (.int .u16 a0_8) ∧ w'.cell? ⟨gb193, 9, none⟩ = some (.int .u16 a0_9) ∧ w'.cell? ⟨gb193, 10, none⟩ = some (.int .u16 a0_10) ∧ w'.cell? ⟨gb193, 11, none⟩ = some (.int .u16 a0_11) ∧ w'.cell? ⟨gb194, 0, none⟩ = some (.int .i8 a1_0) ∧ w'.cell? ⟨gb194, 1, none⟩ = some (.int .i8 a1_1)) (ds := []) (bA 16 0) (by kernel_rfl) rfl rfl ⟨(blk_cell BK193.out 0).trans rfl, (blk_cell BK193.out 1).trans rfl, (blk_cell BK193.out 2).trans rfl, (blk_cell BK193.out (2 + a1_1.toNat)).trans hu_, (blk_cell BK193.out 3).trans rfl, (blk_cell BK193.out 4).trans rfl, (blk_cell BK193.out 5).trans rfl, (blk_cell BK193.out 6).trans rfl, (blk_cell BK193.out 7).trans rfl, (blk_cell BK193.out 8).trans rfl, (blk_cell BK193.out 9).trans rfl, (blk_cell BK193.out 10).trans rfl, (blk_cell BK193.out 11).trans rfl, (blk_cell BK194.out 0).trans rfl, (blk_cell BK194.out 1).trans rfl⟩ (fun hHeld => ?_); refine with_tabW impl_Room_isFree.tab1 impl_Room_isFree.bits1 (fun HT_ HW_ => ?_)
 generalize w11.drew = w12 at BK193 BK194 HB hHeld ⊢
 refine tK 0 5 (bA 16 1) HT_ HW_ hHeld ?_
 refine tK 1 6 (bA 16 3) HT_ HW_ hHeld ?_
 refine one_ (i := 2) (N := some 7) (bA 16 7) rfl rfl (one_of HT_.out (by kernel_rfl)) (by decide) (fun K hK => ?_)
 refine goes_ Try.func78 (by kernel_rfl) rfl #[.agg #[.int .i8 a0_0, .int .i8 a0_1, .int .u16 a0_2, .int .u16 a0_3, .int .u16 a0_4, .int .u16 a0_5, .int .u16 a0_6, .int .u16 a0_7, .int .u16 a0_8, .int .u16 a0_9, .int .u16 a0_10, .int .u16 a0_11], .agg #[.int .i8 a1_0, .int .i8 a1_1]] (by rfl) rfl rfl gl_ ?_
 with_reducible refine (impl_Room_isCell.calls a0_0 a0_1 a0_2 a0_3 a0_4 a0_5 a0_6 a0_7 a0_8 a0_9 a0_10 a0_11 a1_0 a1_1 true _ A3.out).mono ?_
 rintro e w13 ⟨rfl, hb⟩
 refine ⟨_, rfl, ?_⟩
 replace BK193 := kK BK193 hb
 replace BK194 := kK BK194 hb
 replace HB := kB2 HB GE193 GE194 hb
 (try clear hb)
 refine hK.out _ _ ⟨(blk_cell BK193.out 0).trans rfl, (blk_cell BK193.out 1).trans rfl, (blk_cell BK193.out 2).trans rfl, (blk_cell BK193.out (2 + a1_1.toNat)).trans hu_, (blk_cell BK193.out 3).trans rfl, (blk_cell BK193.out 4).trans rfl, (blk_cell BK193.out 5).trans rfl, (blk_cell BK193.out 6).trans rfl, (blk_cell BK193.out 7).trans rfl, (blk_cell BK193.out 8).trans rfl, (blk_cell BK193.out 9).trans rfl, (blk_cell BK193.out 10).trans rfl, (blk_cell BK193.out 11).trans rfl, (blk_cell BK194.out 0).trans rfl, (blk_cell BK194.out 1).trans rfl⟩ (fun hHeld => ?_)
 clear hK K
 refine norm_ (a' := ?_) ?_ ?_
 rotate_left
 {
 show Act.put _ (some 7) _ = _
 simp only [Act.put, zs, zz, zk, i64_w, i32_w]
 rfl
 }
 refine pure_ (i := 3) (N := some 8) (v := ?_) (a' := ?_) (bA 16 15) rfl rfl (any_of HT_.out (by kernel_rfl)) (fun _ _ _ h => h) (Or.inl ⟨by rfl, ?_⟩) ?_ ?_
 rotate_left
 {
 intro w'
 go_simp
 (try rw [if_pos hin_])
 with_reducible rfl
 }
 rotate_left
 · simp only [Act.put, zs, zz, zk, i64_w, i32_w]; rfl
 refine pure_ (i := 4) (N := some 9) (v := ?_) (a' := ?_) (bA 16 31) rfl rfl (any_of HT_.out (by kernel_rfl)) (fun _ _ _ h => h) (Or.inl ⟨by rfl, ?_⟩) ?_ ?_
 rotate_left
 {
 intro w'
 go_simp
 (try rw [if_pos hin_])
 with_reducible rfl
 }
 rotate_left
 · simp only [Act.put, zs, zz, zk, i64_w, i32_w]; rfl
 refine pure_ (i := 6) (N := some 11) (v := ?_) (a' := ?_) (bA 16 95) rfl rfl (any_of HT_.out (by kernel_rfl)) (fun _ _ _ h => h) (Or.inl ⟨by rfl, ?_⟩) ?_ ?_
 rotate_left
 {
 intro w'
 go_simp
 (try rw [if_pos hin_])
 with_reducible rfl
 }
 rotate_left
 · simp only [Act.put, zs, zz, zk, i64_w, i32_w]; rfl
 refine pure_ (i := 9) (N := some 14) (v := ?_) (a' := ?_) (bA 16 607) rfl rfl (any_of HT_.out (by kernel_rfl)) (fun _ _ _ h => h) (Or.inl ⟨by rfl, ?_⟩) ?_ ?_
 rotate_left
 {
 intro w'
 go_simp
 (try rw [if_pos hin_])
 with_reducible rfl
 }
 rotate_left
 · simp only [Act.put, zs, zz, zk, i64_w, i32_w]; rfl
 refine tK 5 10 (bA 16 639) HT_ HW_ hHeld ?_
 refine pure_ (i := 7) (N := some 12) (v := ?_) (a' := ?_) (bA 16 767) rfl rfl (any_of HT_.out (by kernel_rfl)) (fun _ _ _ h => h) (Or.inl ⟨by rfl, ?_⟩) ?_ ?_
 rotate_left
 {
 intro w'
 go_simp
 (try rw [if_pos hin_])
 with_reducible rfl
 }
 rotate_left
 · simp only [Act.put, zs, zz, zk, i64_w, i32_w]; rfl
 refine tK 8 13 (bA 16 1023) HT_ HW_ hHeld ?_
 refine tK 10 15 (bA 16 2047) HT_ HW_ hHeld ?_
 refine pure_ (i := 11) (N := some 16) (v := ?_) (a' := ?_) (bA 16 4095) rfl rfl (any_of HT_.out (by kernel_rfl)) (fun _ _ _ h => h) (Or.inl ⟨by rfl, ?_⟩) ?_ ?_
 rotate_left
 {
 intro w'
 go_simp
 (try rw [if_pos hin_])
 with_reducible rfl
 }
 rotate_left
 · simp only [Act.put, zs, zz, zk, i64_w, i32_w]; rfl
 refine pure_ (i := 12) (N := some 17) (v := ?_) (a' := ?_) (bA 16 8191) rfl rfl (any_of HT_.out (by kernel_rfl)) (fun _ _ _ h => h) (Or.inl ⟨by rfl, ?_⟩) ?_ ?_
 rotate_left
 {
 intro w'
 go_simp
 (try rw [if_pos hin_])
 with_reducible rfl
 }
 rotate_left
 · simp only [Act.put, zs, zz, zk, i64_w, i32_w]; rfl
 refine pure_ (i := 13) (N := some 18) (v := ?_) (a' := ?_) (bA 16 16383) rfl rfl (any_of HT_.out (by kernel_rfl)) (fun _ _ _ h => h) (Or.inl ⟨by rfl, ?_⟩) ?_ ?_
 rotate_left
 {
 intro w'
 go_simp
 (try rw [if_pos hin_])
 with_reducible rfl
 }
 rotate_left
 · simp only [Act.put, zs, zz, zk, i64_w, i32_w]; rfl
 refine pure_ (i := 14) (N := some 19) (v := ?_) (a' := ?_) (bA 16 32767) rfl rfl (any_of HT_.out (by kernel_rfl)) (fun _ _ _ h => h) (Or.inl ⟨by rfl, ?_⟩) ?_ ?_
 rotate_left
 {
 intro w'
 go_simp
 (try rw [if_pos hin_])
 with_reducible rfl
 }
 rotate_left
 · simp only [Act.put, zs, zz, zk, i64_w, i32_w]; rfl
 refine pure_ (i := 15) (N := some 4) (v := ?_) (a' := ?_) (bA 16 65535) rfl rfl (any_of HT_.out (by kernel_rfl)) (fun _ _ _ h => h) (Or.inl ⟨by rfl, ?_⟩) ?_ ?_
 rotate_left
 {
 intro w'
 go_simp
 (try rw [if_pos hin_])
 with_reducible rfl
 }
 rotate_left
 · simp only [Act.put, zs, zz, zk, i64_w, i32_w]; rfl
 refine done_ (done_of HT_.out (by kernel_rfl)) ?_
 try go_wp2
 go_ret
 exact ⟨by first | rfl | (simp [errW_none, errW_some] <;> rfl) | (simp only [← hji9]; first | rfl | (simp [errW_none, errW_some] <;> rfl)) | (simp [*, errW_none, errW_some] <;> rfl), zH2 HB GE193 GE194⟩
 }
 · rw [if_neg c8] at H; exact absurd H (by simp)
 }
 · rw [if_neg c6] at H; exact absurd H (by simp)
 }
 · rw [if_neg c5] at H; exact absurd H (by simp)
 }
 {
 replace c4 := Bool.eq_false_iff.mpr c4
 subst c4
 rw [if_neg (show ¬ (false = true) by decide)] at H
 obtain rfl := Option.some.inj H
 go_enter Try.func99, Try.ntmps99
 try go_wp2_with (first | ((with_reducible refine gate_dst (N := 2) rfl ?_); refine box_event ?hg (N := 2) ?hd (cs := #[.int .i8 a0_0, .int .i8 a0_1, .int .u16 a0_2, .int .u16 a0_3, .int .u16 a0_4, .int .u16 a0_5, .int .u16 a0_6, .int .u16 a0_7, .int .u16 a0_8, .int .u16 a0_9, .int .u16 a0_10, .int .u16 a0_11]) (t := 35) ?hr ?_; (case hd => rfl); (case hg => rfl); (case hr => first | (go_simp; done) | (go_simp; rfl)); intro gb193 hg w77 hbox hb; have n0_ := ak (below_step (zB HB.out) hb); have n1_ := ak (hbox); have n2_ := gS HB hg; have n3_ := gS HB hg; clear HB; have HB := n0_; have BK193 := n1_; have GW193 := n2_; have GE193 := n3_; clear n0_ n1_ n2_ n3_; clear hb hbox hg) | ((with_reducible refine gate_dst (N := 3) rfl ?_); refine box_event ?hg (N := 3) ?hd (cs := #[.int .i8 a1_0, .int .i8 a1_1]) (t := 62) ?hr ?_; (case hd => rfl); (case hg => rfl); (case hr => first | (go_simp; done) | (go_simp; rfl)); intro gb194 hg w78 hbox hb; have n0_ := ak (blk_below (g := gb193) (o := .cells #[.int .i8 a0_0, .int .i8 a0_1, .int .u16 a0_2, .int .u16 a0_3, .int .u16 a0_4, .int .u16 a0_5, .int .u16 a0_6, .int .u16 a0_7, .int .u16 a0_8, .int .u16 a0_9, .int .u16 a0_10, .int .u16 a0_11] 35 (0, 0)) (zK BK193.out) hb); have n1_ := ak (below_step (zBG HB.out GE193.out) hb); have n2_ := ak (hbox); have n3_ := gS1 HB GE193 hg; have n4_ := gS1 HB GE193 hg; have n5_ := nL BK193 hg; have n6_ := nG BK193 hg; clear BK193 HB; have BK193 := n0_; have HB := n1_; have BK194 := n2_; have GW194 := n3_; have GE194 := n4_; have NB193_194 := n5_; have NB194_193 := n6_; clear n0_ n1_ n2_ n3_ n4_ n5_ n6_; clear hb hbox hg))
 replace BK193 := ak (blk_drew BK193.out)
 replace BK194 := ak (blk_drew BK194.out)
 replace HB := ak (below_drew1 HB.out)
 refine start_ (n := 16) (S := fun w' => w'.cell? ⟨gb193, 0, none⟩ = some (.int .i8 a0_0) ∧ w'.cell? ⟨gb193, 1, none⟩ = some (.int .i8 a0_1) ∧ w'.cell? ⟨gb193, 2, none⟩ = some (.int .u16 a0_2) ∧ w'.cell? ⟨gb193, 3, none⟩ = some (.int .u16 a0_3) ∧ w'.cell? ⟨gb193, 4, none⟩ = some (.int .u16 a0_4) ∧ w'.cell? ⟨gb193, 5, none⟩ = some (.int .u16 a0_5) ∧ w'.cell? ⟨gb193, 6, none⟩ = some (.int .u16 a0_6) ∧ w'.cell? ⟨gb193, 7, none⟩ = some (.int .u16 a0_7) ∧ w'.cell? ⟨gb193, 8, none⟩ = some (.int .u16 a0_8) ∧ w'.cell? ⟨gb193, 9, none⟩ = some (.int .u16 a0_9) ∧ w'.cell? ⟨gb193, 10, none⟩ = some (.int .u16 a0_10) ∧ w'.cell? ⟨gb193, 11, none⟩ = some (.int .u16 a0_11) ∧ w'.cell? ⟨gb194, 0, none⟩ = some (.int .i8 a1_0) ∧ w'.cell? ⟨gb194, 1, none⟩ = some (.int .i8 a1_1)) (ds := []) (bA 16 0) (by kernel_rfl) rfl rfl (cr12 BK193 ⟨(blk_cell BK194.out 0).trans rfl, (blk_cell BK194.out 1).trans rfl⟩) (fun hHeld => ?_); refine with_tabW impl_Room_isFree.tab1 impl_Room_isFree.bits1 (fun HT_ HW_ => ?_)
 generalize w78.drew = w79 at BK193 BK194 HB hHeld ⊢
 refine tK 0 5 (bA 16 1) HT_ HW_ hHeld ?_
 refine tK 1 6 (bA 16 3) HT_ HW_ hHeld ?_
 refine one_ (i := 2) (N := some 7) (bA 16 7) rfl rfl (one_of HT_.out (by kernel_rfl)) (by decide) (fun K hK => ?_)
 refine goes_ Try.func78 (by kernel_rfl) rfl #[.agg #[.int .i8 a0_0, .int .i8 a0_1, .int .u16 a0_2, .int .u16 a0_3, .int .u16 a0_4, .int .u16 a0_5, .int .u16 a0_6, .int .u16 a0_7, .int .u16 a0_8, .int .u16 a0_9, .int .u16 a0_10, .int .u16 a0_11], .agg #[.int .i8 a1_0, .int .i8 a1_1]] (by rfl) rfl rfl gl_ ?_
 with_reducible refine (impl_Room_isCell.calls a0_0 a0_1 a0_2 a0_3 a0_4 a0_5 a0_6 a0_7 a0_8 a0_9 a0_10 a0_11 a1_0 a1_1 false _ A3.out).mono ?_
 rintro e w80 ⟨rfl, hb⟩
 refine ⟨_, rfl, ?_⟩
 replace BK193 := kK BK193 hb
 replace BK194 := kK BK194 hb
 replace HB := kB2 HB GE193 GE194 hb
 (try clear hb)
 refine hK.out _ _ (cr12 BK193 ⟨(blk_cell BK194.out 0).trans rfl, (blk_cell BK194.out 1).trans rfl⟩) (fun hHeld => ?_)
 clear hK K
 refine norm_ (a' := ?_) ?_ ?_
 rotate_left
 {
 show Act.put _ (some 7) _ = _
 simp only [Act.put, zs, zz, zk, i64_w, i32_w]
 rfl
 }
 refine pU 3 8 (bA 16 15) HT_ ?_
 refine pN 4 9 (bA 16 31) HT_ ?_
 refine pN 5 10 (bA 16 63) HT_ ?_
 refine pN 6 11 (bA 16 127) HT_ ?_
 refine pN 7 12 (bA 16 255) HT_ ?_
 refine pN 8 13 (bA 16 511) HT_ ?_
 refine pN 9 14 (bA 16 1023) HT_ ?_
 refine pN 10 15 (bA 16 2047) HT_ ?_
 refine pN 11 16 (bA 16 4095) HT_ ?_
 refine pN 12 17 (bA 16 8191) HT_ ?_
 refine pN 13 18 (bA 16 16383) HT_ ?_
 refine pU 14 19 (bA 16 32767) HT_ ?_
 refine pU 15 4 (bA 16 65535) HT_ ?_
 refine done_ (done_of HT_.out (by kernel_rfl)) ?_
 try go_wp2
 go_ret
 exact ⟨by first | rfl | (simp [errW_none, errW_some] <;> rfl) | (simp [*, errW_none, errW_some] <;> rfl), zH2 HB GE193 GE194⟩
 }
end Go.Proofs.Ytooidjdgfoioiaa.P
