-- Printed by wip/print (my turned copy of the kit's print) out of the translation; Lean checks it.
import Derived.Test.YtooidjdgfoioiaaP0
import Derived.Test.YtooidjdgfoioiaaP3
namespace Go.Proofs.Ytooidjdgfoioiaa.P
open Go.RowKit Go.Proofs.YtooidjdgfoioiaaW.PrintWords Go.Proofs.YtooidjdgfoioiaaW.PrintLast Go.Proofs.YtooidjdgfoioiaaW.PrintMore
attribute [local go_sem] max2_int min2_int max_two min_two max_three min_three max_four min_four   -- for this text's walks alone
set_option linter.unusedVariables false
set_option linter.unusedSimpArgs false

/-! ### spec_l01Free: function 84 -/
def spec_l01Free.f (a0_0 : Int) (a0_1 : Int) (a0_2 : Int) (a0_3 : Int) (a0_4 : Int) (a0_5 : Int) (a0_6 : Int) (a0_7 : Int) (a0_8 : Int) (a0_9 : Int) (a0_10 : Int) (a0_11 : Int) (a1_0 : Int) (a1_1 : Int) : Option (Bool) := (spec_l01Is.f a0_0 a0_1 a0_2 a0_3 a0_4 a0_5 a0_6 a0_7 a0_8 a0_9 a0_10 a0_11 a1_0 a1_1).bind fun t138 => (if t138 = true then (if 0 ≤ a1_1 then (if a1_1 < 10 then (if a1_1 = 0 then (if 0 ≤ (IntKind.u64.wrap (a1_0)) then (some ((Int.tmod (shr .u16 a0_2 (IntKind.u64.wrap (a1_0))) 2) == 0)) else (none)) else (if a1_1 = 1 then (if 0 ≤ (IntKind.u64.wrap (a1_0)) then (some ((Int.tmod (shr .u16 a0_3 (IntKind.u64.wrap (a1_0))) 2) == 0)) else (none)) else (if a1_1 = 2 then (if 0 ≤ (IntKind.u64.wrap (a1_0)) then (some ((Int.tmod (shr .u16 a0_4 (IntKind.u64.wrap (a1_0))) 2) == 0)) else (none)) else (if a1_1 = 3 then (if 0 ≤ (IntKind.u64.wrap (a1_0)) then (some ((Int.tmod (shr .u16 a0_5 (IntKind.u64.wrap (a1_0))) 2) == 0)) else (none)) else (if a1_1 = 4 then (if 0 ≤ (IntKind.u64.wrap (a1_0)) then (some ((Int.tmod (shr .u16 a0_6 (IntKind.u64.wrap (a1_0))) 2) == 0)) else (none)) else (if a1_1 = 5 then (if 0 ≤ (IntKind.u64.wrap (a1_0)) then (some ((Int.tmod (shr .u16 a0_7 (IntKind.u64.wrap (a1_0))) 2) == 0)) else (none)) else (if a1_1 = 6 then (if 0 ≤ (IntKind.u64.wrap (a1_0)) then (some ((Int.tmod (shr .u16 a0_8 (IntKind.u64.wrap (a1_0))) 2) == 0)) else (none)) else (if a1_1 = 7 then (if 0 ≤ (IntKind.u64.wrap (a1_0)) then (some ((Int.tmod (shr .u16 a0_9 (IntKind.u64.wrap (a1_0))) 2) == 0)) else (none)) else (if a1_1 = 8 then (if 0 ≤ (IntKind.u64.wrap (a1_0)) then (some ((Int.tmod (shr .u16 a0_10 (IntKind.u64.wrap (a1_0))) 2) == 0)) else (none)) else (if a1_1 = 9 then (if 0 ≤ (IntKind.u64.wrap (a1_0)) then (some ((Int.tmod (shr .u16 a0_11 (IntKind.u64.wrap (a1_0))) 2) == 0)) else (none)) else (none))))))))))) else (none)) else (none)) else (some false))
def spec_l01Free.T1 : Bool × List (List Nat × List Nat) := (true, [([], []), ([], []), ([0, 1], [0, 1]), ([2, 2], [2]), ([3], [3]), ([3], [3]), ([5, 3], [3, 5]), ([4, 3], [3, 4]), ([7, 3], [3, 7]), ([8, 6, 3], [3, 6, 8]), ([9, 3], [3, 9]), ([3], [3]), ([11, 3], [3, 11]), ([12, 3], [3, 12]), ([10, 13, 3], [3, 10, 13]), ([14, 3], [3, 14]), ([15, 3], [3, 15]), ([3, 16], [3, 16]), ([17, 3, 0, 1, 2, 3, 4, 5, 6, 7, 8, 9, 10, 11, 12, 13, 14, 15, 16, 17], [17])])
def spec_l01Free.B1 : List Nat := [0, 0, 3, 7, 15, 15, 47, 31, 159, 511, 1023, 15, 2063, 6159, 16383, 32767, 65535, 131071, 262143]
theorem spec_l01Free.tab1 : rtab .any (opsOf Try.f84 1) = spec_l01Free.T1 := by kernel_rfl
theorem spec_l01Free.bits1 : waitsOk spec_l01Free.T1.2 spec_l01Free.B1 = true := by kernel_rfl
set_option maxHeartbeats 8000000 in
set_option maxRecDepth 100000 in
theorem spec_l01Free.calls (b0 : Nat) (a0_0 : Int) (a0_1 : Int) (a0_2 : Int) (a0_3 : Int) (a0_4 : Int) (a0_5 : Int) (a0_6 : Int) (a0_7 : Int) (a0_8 : Int) (a0_9 : Int) (a0_10 : Int) (a0_11 : Int) (a1_0 : Int) (a1_1 : Int) (r : Bool) (w : World) (hx0 : w.heap[b0]? = some (.cells #[.int .i8 a0_0, .int .i8 a0_1, .int .u16 a0_2, .int .u16 a0_3, .int .u16 a0_4, .int .u16 a0_5, .int .u16 a0_6, .int .u16 a0_7, .int .u16 a0_8, .int .u16 a0_9, .int .u16 a0_10, .int .u16 a0_11] 35 (0, 0))) (h : spec_l01Free.f a0_0 a0_1 a0_2 a0_3 a0_4 a0_5 a0_6 a0_7 a0_8 a0_9 a0_10 a0_11 a1_0 a1_1 = some r) :
    Calls Try.prog 84 #[.pointer (some ⟨b0, 0, none⟩), .agg #[.int .i8 a1_0, .int .i8 a1_1]] w fun e w' => e = .returned (.bool r) ∧ Below w.heap.size w w' := by
 have hu62 := Try.underlying62
 have BK0 := ak hx0
 clear hx0
 have HB := ak (Below.refl w.heap.size w)
 have H := h
 unfold spec_l01Free.f at H
 clear h
 replace H := Option.bind_eq_some_iff.mp H
 obtain ⟨t138, A30, H⟩ := H
 have A3 := ak A30
 clear A30
 by_cases c4 : t138 = true
 {
 subst c4
 rw [if_pos rfl] at H
 by_cases c5 : 0 ≤ a1_1
 {
 rw [if_pos c5] at H
 have c5b0 : decide (0 ≤ a1_1) = true := decide_eq_true c5
 clear c5
 by_cases c6 : a1_1 < 10
 {
 rw [if_pos c6] at H
 have c6b0 : decide (a1_1 < 10) = true := decide_eq_true c6
 clear c6
 obtain ⟨u_, hu_, H⟩ : ∃ u_ : Int, (#[.int .i8 a0_0, .int .i8 a0_1, .int .u16 a0_2, .int .u16 a0_3, .int .u16 a0_4, .int .u16 a0_5, .int .u16 a0_6, .int .u16 a0_7, .int .u16 a0_8, .int .u16 a0_9, .int .u16 a0_10, .int .u16 a0_11] : Array Value)[2 + a1_1.toNat]? = some (.int .u16 u_) ∧ (if 0 ≤ (IntKind.u64.wrap (a1_0)) then (some ((Int.tmod (shr .u16 u_ (IntKind.u64.wrap (a1_0))) 2) == 0)) else (none)) = some r := by
  by_cases e_ : a1_1 = 0
  · rw [if_pos e_] at H; exact ⟨a0_2, by rw [e_]; rfl, H⟩
  rw [if_neg e_] at H
  by_cases e_ : a1_1 = 1
  · rw [if_pos e_] at H; exact ⟨a0_3, by rw [e_]; rfl, H⟩
  rw [if_neg e_] at H
  by_cases e_ : a1_1 = 2
  · rw [if_pos e_] at H; exact ⟨a0_4, by rw [e_]; rfl, H⟩
  rw [if_neg e_] at H
  by_cases e_ : a1_1 = 3
  · rw [if_pos e_] at H; exact ⟨a0_5, by rw [e_]; rfl, H⟩
  rw [if_neg e_] at H
  by_cases e_ : a1_1 = 4
  · rw [if_pos e_] at H; exact ⟨a0_6, by rw [e_]; rfl, H⟩
  rw [if_neg e_] at H
  by_cases e_ : a1_1 = 5
  · rw [if_pos e_] at H; exact ⟨a0_7, by rw [e_]; rfl, H⟩
  rw [if_neg e_] at H
  by_cases e_ : a1_1 = 6
  · rw [if_pos e_] at H; exact ⟨a0_8, by rw [e_]; rfl, H⟩
  rw [if_neg e_] at H
  by_cases e_ : a1_1 = 7
  · rw [if_pos e_] at H; exact ⟨a0_9, by rw [e_]; rfl, H⟩
  rw [if_neg e_] at H
  by_cases e_ : a1_1 = 8
  · rw [if_pos e_] at H; exact ⟨a0_10, by rw [e_]; rfl, H⟩
  rw [if_neg e_] at H
  by_cases e_ : a1_1 = 9
  · rw [if_pos e_] at H; exact ⟨a0_11, by rw [e_]; rfl, H⟩
  rw [if_neg e_] at H
  exact absurd H (by simp)
 have hin_ : 0 ≤ a1_1 ∧ a1_1 < 10 := ⟨of_decide_eq_true c5b0, of_decide_eq_true c6b0⟩
 obtain ⟨ji8, hji8⟩ : ∃ j_ : Int, (IntKind.u64.wrap (a1_0)) = j_ := ⟨_, rfl⟩
 first | rw [hji8] at H | simp only [hji8] at H
 (try rw [hji8] at A3)
 by_cases c9 : 0 ≤ (ji8)
 {
 rw [if_pos c9] at H
 have c9b0 := eq_true c9
 have c9b1 : decide (0 ≤ (ji8)) = true := decide_eq_true c9
 clear c9
 obtain ⟨ji10, hji10⟩ : ∃ j_ : Int, (shr .u16 u_ (ji8)) = j_ := ⟨_, rfl⟩
 first | rw [hji10] at H | simp only [hji10] at H
 (try rw [hji10] at A3)
 have hji10_ : (u_ / 2 ^ min (ji8).toNat 16) = ji10 := hji10
 have hji10z : (ji8) ≤ 16 → (u_ / 2 ^ (ji8).toNat) = ji10 := shr_small hji10
 obtain rfl := Option.some.inj H
 go_enter Try.func84, Try.ntmps84
 try go_wp2_with (first | ((with_reducible refine gate_dst (N := 3) rfl ?_); refine box_event ?hg (N := 3) ?hd (cs := #[.int .i8 a1_0, .int .i8 a1_1]) (t := 62) ?hr ?_; (case hd => rfl); (case hg => rfl); (case hr => first | (go_simp; done) | (go_simp; rfl)); intro gb137 hg w11 hbox hb; have n0_ := ak (blk_below (g := b0) (o := .cells #[.int .i8 a0_0, .int .i8 a0_1, .int .u16 a0_2, .int .u16 a0_3, .int .u16 a0_4, .int .u16 a0_5, .int .u16 a0_6, .int .u16 a0_7, .int .u16 a0_8, .int .u16 a0_9, .int .u16 a0_10, .int .u16 a0_11] 35 (0, 0)) (zK BK0.out) hb); have n1_ := ak (below_step (zB HB.out) hb); have n2_ := ak (hbox); have n3_ := gS HB hg; have n4_ := gS HB hg; have n5_ := nL BK0 hg; have n6_ := nG BK0 hg; clear BK0 HB; have BK0 := n0_; have HB := n1_; have BK137 := n2_; have GW137 := n3_; have GE137 := n4_; have NB0_137 := n5_; have NB137_0 := n6_; clear n0_ n1_ n2_ n3_ n4_ n5_ n6_; clear hb hbox hg))
 replace BK0 := ak (blk_drew BK0.out)
 replace BK137 := ak (blk_drew BK137.out)
 replace HB := ak (below_drew1 HB.out)
 refine start_ (n := 19) (S := fun w' => w'.cell? ⟨gb137, 0, none⟩ = some (.int .i8 a1_0) ∧ w'.cell? ⟨gb137, 1, none⟩ = some (.int .i8 a1_1) ∧ w'.cell? ⟨b0, 0, none⟩ = some (.int .i8 a0_0) ∧ w'.cell? ⟨b0, 1, none⟩ = some (.int .i8 a0_1) ∧ w'.cell? ⟨b0, 2 + a1_1.toNat, none⟩ = some (.int .u16 u_) ∧ w'.cell? ⟨b0, 3, none⟩ = some (.int .u16 a0_3) ∧ w'.cell? ⟨b0, 4, none⟩ = some (.int .u16 a0_4) ∧ w'.cell? ⟨b0, 5, none⟩ = some (.int .u16 a0_5) ∧ w'.cell? ⟨b0, 6, none⟩ = some (.int .u16 a0_6) ∧ w'.cell? ⟨b0, 7, none⟩ = some (.int .u16 a0_7) ∧ w'.cell? ⟨b0, 8, none⟩ = some (.int .u16 a0_8) ∧ w'.cell? ⟨b0, 9, none⟩ = some (.int .u16 a0_9) ∧ w'.cell? ⟨b0, 10, none⟩ = some (.int .u16 a0_10) ∧ w'.cell? ⟨b0, 11, none⟩ = some (.int .u16 a0_11)) (ds := []) (bA 19 0) (by kernel_rfl) rfl rfl ⟨(blk_cell BK137.out 0).trans rfl, (blk_cell BK137.out 1).trans rfl, (blk_cell BK0.out 0).trans rfl, (blk_cell BK0.out 1).trans rfl, (blk_cell BK0.out (2 + a1_1.toNat)).trans hu_, (blk_cell BK0.out 3).trans rfl, (blk_cell BK0.out 4).trans rfl, (blk_cell BK0.out 5).trans rfl, (blk_cell BK0.out 6).trans rfl, (blk_cell BK0.out 7).trans rfl, (blk_cell BK0.out 8).trans rfl, (blk_cell BK0.out 9).trans rfl, (blk_cell BK0.out 10).trans rfl, (blk_cell BK0.out 11).trans rfl⟩ (fun hHeld => ?_); refine with_tabW spec_l01Free.tab1 spec_l01Free.bits1 (fun HT_ HW_ => ?_)
 generalize w11.drew = w12 at BK0 BK137 HB hHeld ⊢
 refine pure_ (i := 0) (N := some 5) (v := ?_) (a' := ?_) (bA 19 1) rfl rfl (any_of HT_.out (by kernel_rfl)) (fun _ _ _ h => h) (Or.inl ⟨by rfl, ?_⟩) ?_ ?_
 rotate_left
 {
 intro w'
 go_simp
 (try rw [if_pos hin_])
 with_reducible rfl
 }
 rotate_left
 · simp only [Act.put, zs, zz, zk, i64_w, i32_w]; rfl
 refine tK 1 6 (bA 19 3) HT_ HW_ hHeld ?_
 refine one_ (i := 2) (N := some 7) (bA 19 7) rfl rfl (one_of HT_.out (by kernel_rfl)) (by decide) (fun K hK => ?_)
 refine goes_ Try.func73 (by kernel_rfl) rfl #[.pointer (some ⟨b0, 0, none⟩), .agg #[.int .i8 a1_0, .int .i8 a1_1]] (by rfl) rfl rfl gl_ ?_
 with_reducible refine (spec_l01Is.calls b0 a0_0 a0_1 a0_2 a0_3 a0_4 a0_5 a0_6 a0_7 a0_8 a0_9 a0_10 a0_11 a1_0 a1_1 true _ ?side1 A3.out).mono ?_
 (case side1 => exact (zK BK0.out))
 rintro e w13 ⟨rfl, hb⟩
 refine ⟨_, rfl, ?_⟩
 replace BK0 := kK BK0 hb
 replace BK137 := kK BK137 hb
 replace HB := kB1 HB GE137 hb
 (try clear hb)
 refine hK.out _ _ ⟨(blk_cell BK137.out 0).trans rfl, (blk_cell BK137.out 1).trans rfl, (blk_cell BK0.out 0).trans rfl, (blk_cell BK0.out 1).trans rfl, (blk_cell BK0.out (2 + a1_1.toNat)).trans hu_, (blk_cell BK0.out 3).trans rfl, (blk_cell BK0.out 4).trans rfl, (blk_cell BK0.out 5).trans rfl, (blk_cell BK0.out 6).trans rfl, (blk_cell BK0.out 7).trans rfl, (blk_cell BK0.out 8).trans rfl, (blk_cell BK0.out 9).trans rfl, (blk_cell BK0.out 10).trans rfl, (blk_cell BK0.out 11).trans rfl⟩ (fun hHeld => ?_)
 clear hK K
 refine norm_ (a' := ?_) ?_ ?_
 rotate_left
 {
 show Act.put _ (some 7) _ = _
 simp only [Act.put, zs, zz, zk, i64_w, i32_w]
 rfl
 }
 refine pure_ (i := 3) (N := some 8) (v := ?_) (a' := ?_) (bA 19 15) rfl rfl (any_of HT_.out (by kernel_rfl)) (fun _ _ _ h => h) (Or.inl ⟨by rfl, ?_⟩) ?_ ?_
 rotate_left
 {
 intro w'
 go_simp
 (try rw [if_pos hin_])
 with_reducible rfl
 }
 rotate_left
 · simp only [Act.put, zs, zz, zk, i64_w, i32_w]; rfl
 refine pure_ (i := 4) (N := some 9) (v := ?_) (a' := ?_) (bA 19 31) rfl rfl (any_of HT_.out (by kernel_rfl)) (fun _ _ _ h => h) (Or.inl ⟨by rfl, ?_⟩) ?_ ?_
 rotate_left
 {
 intro w'
 go_simp
 (try rw [if_pos hin_])
 with_reducible rfl
 }
 rotate_left
 · simp only [Act.put, zs, zz, zk, i64_w, i32_w]; rfl
 refine pure_ (i := 5) (N := some 10) (v := ?_) (a' := ?_) (bA 19 63) rfl rfl (any_of HT_.out (by kernel_rfl)) (fun _ _ _ h => h) (Or.inl ⟨by rfl, ?_⟩) ?_ ?_
 rotate_left
 {
 intro w'
 go_simp
 (try rw [if_pos hin_])
 with_reducible rfl
 }
 rotate_left
 · simp only [Act.put, zs, zz, zk, i64_w, i32_w]; rfl
 refine pure_ (i := 7) (N := some 12) (v := ?_) (a' := ?_) (bA 19 191) rfl rfl (any_of HT_.out (by kernel_rfl)) (fun _ _ _ h => h) (Or.inl ⟨by rfl, ?_⟩) ?_ ?_
 rotate_left
 {
 intro w'
 go_simp
 (try rw [if_pos hin_])
 with_reducible rfl
 }
 rotate_left
 · simp only [Act.put, zs, zz, zk, i64_w, i32_w]; rfl
 refine pure_ (i := 8) (N := some 13) (v := ?_) (a' := ?_) (bA 19 447) rfl rfl (any_of HT_.out (by kernel_rfl)) (fun _ _ _ h => h) (Or.inl ⟨by rfl, ?_⟩) ?_ ?_
 rotate_left
 {
 intro w'
 go_simp
 (try rw [if_pos hin_])
 with_reducible rfl
 }
 rotate_left
 · simp only [Act.put, zs, zz, zk, i64_w, i32_w]; rfl
 refine pure_ (i := 11) (N := some 16) (v := ?_) (a' := ?_) (bA 19 2495) rfl rfl (any_of HT_.out (by kernel_rfl)) (fun _ _ _ h => h) (Or.inl ⟨by rfl, ?_⟩) ?_ ?_
 rotate_left
 {
 intro w'
 go_simp
 (try rw [if_pos hin_])
 with_reducible rfl
 }
 rotate_left
 · simp only [Act.put, zs, zz, zk, i64_w, i32_w]; rfl
 refine tK 6 11 (bA 19 2559) HT_ HW_ hHeld ?_
 refine pure_ (i := 9) (N := some 14) (v := ?_) (a' := ?_) (bA 19 3071) rfl rfl (any_of HT_.out (by kernel_rfl)) (fun _ _ _ h => h) (Or.inl ⟨by rfl, ?_⟩) ?_ ?_
 rotate_left
 {
 intro w'
 go_simp
 (try rw [if_pos hin_])
 with_reducible rfl
 }
 rotate_left
 · simp only [Act.put, zs, zz, zk, i64_w, i32_w]; rfl
 refine tK 10 15 (bA 19 4095) HT_ HW_ hHeld ?_
 refine tK 12 17 (bA 19 8191) HT_ HW_ hHeld ?_
 refine pure_ (i := 13) (N := some 18) (v := ?_) (a' := ?_) (bA 19 16383) rfl rfl (any_of HT_.out (by kernel_rfl)) (fun _ _ _ h => h) (Or.inl ⟨by rfl, ?_⟩) ?_ ?_
 rotate_left
 {
 intro w'
 go_simp
 (try rw [if_pos hin_])
 with_reducible rfl
 }
 rotate_left
 · simp only [Act.put, zs, zz, zk, i64_w, i32_w]; rfl
 refine pure_ (i := 14) (N := some 19) (v := ?_) (a' := ?_) (bA 19 32767) rfl rfl (any_of HT_.out (by kernel_rfl)) (fun _ _ _ h => h) (Or.inl ⟨by rfl, ?_⟩) ?_ ?_
 rotate_left
 {
 intro w'
 go_simp
 (try rw [if_pos hin_])
 with_reducible rfl
 }
 rotate_left
 · simp only [Act.put, zs, zz, zk, i64_w, i32_w]; rfl
 refine pure_ (i := 15) (N := some 20) (v := ?_) (a' := ?_) (bA 19 65535) rfl rfl (any_of HT_.out (by kernel_rfl)) (fun _ _ _ h => h) (Or.inl ⟨by rfl, ?_⟩) ?_ ?_
 rotate_left
 {
 intro w'
 go_simp
 (try rw [if_pos hin_])
 with_reducible rfl
 }
 rotate_left
 · simp only [Act.put, zs, zz, zk, i64_w, i32_w]; rfl
 refine pure_ (i := 16) (N := some 21) (v := ?_) (a' := ?_) (bA 19 131071) rfl rfl (any_of HT_.out (by kernel_rfl)) (fun _ _ _ h => h) (Or.inl ⟨by rfl, ?_⟩) ?_ ?_
 rotate_left
 {
 intro w'
 go_simp
 (try rw [if_pos hin_])
 with_reducible rfl
 }
 rotate_left
 · simp only [Act.put, zs, zz, zk, i64_w, i32_w]; rfl
 refine pure_ (i := 17) (N := some 22) (v := ?_) (a' := ?_) (bA 19 262143) rfl rfl (any_of HT_.out (by kernel_rfl)) (fun _ _ _ h => h) (Or.inl ⟨by rfl, ?_⟩) ?_ ?_
 rotate_left
 {
 intro w'
 go_simp
 (try rw [if_pos hin_])
 with_reducible rfl
 }
 rotate_left
 · simp only [Act.put, zs, zz, zk, i64_w, i32_w]; rfl
 refine pure_ (i := 18) (N := some 4) (v := ?_) (a' := ?_) (bA 19 524287) rfl rfl (any_of HT_.out (by kernel_rfl)) (fun _ _ _ h => h) (Or.inl ⟨by rfl, ?_⟩) ?_ ?_
 rotate_left
 {
 intro w'
 go_simp
 (try rw [if_pos hin_])
 with_reducible rfl
 }
 rotate_left
 · simp only [Act.put, zs, zz, zk, i64_w, i32_w]; rfl
 refine done_ (done_of HT_.out (by kernel_rfl)) ?_
 try go_wp2
 go_ret
 exact ⟨by first | rfl | (simp [errW_none, errW_some] <;> rfl) | (simp only [← hji8, ← hji10]; first | rfl | (simp [errW_none, errW_some] <;> rfl)) | (simp [*, errW_none, errW_some] <;> rfl), zBG HB.out GE137.out⟩
 }
 · rw [if_neg c9] at H; exact absurd H (by simp)
 }
 · rw [if_neg c6] at H; exact absurd H (by simp)
 }
 · rw [if_neg c5] at H; exact absurd H (by simp)
 }
 {
 replace c4 := Bool.eq_false_iff.mpr c4
 subst c4
 rw [if_neg (show ¬ (false = true) by decide)] at H
 obtain rfl := Option.some.inj H
 go_enter Try.func84, Try.ntmps84
 try go_wp2_with (first | ((with_reducible refine gate_dst (N := 3) rfl ?_); refine box_event ?hg (N := 3) ?hd (cs := #[.int .i8 a1_0, .int .i8 a1_1]) (t := 62) ?hr ?_; (case hd => rfl); (case hg => rfl); (case hr => first | (go_simp; done) | (go_simp; rfl)); intro gb137 hg w77 hbox hb; have n0_ := ak (blk_below (g := b0) (o := .cells #[.int .i8 a0_0, .int .i8 a0_1, .int .u16 a0_2, .int .u16 a0_3, .int .u16 a0_4, .int .u16 a0_5, .int .u16 a0_6, .int .u16 a0_7, .int .u16 a0_8, .int .u16 a0_9, .int .u16 a0_10, .int .u16 a0_11] 35 (0, 0)) (zK BK0.out) hb); have n1_ := ak (below_step (zB HB.out) hb); have n2_ := ak (hbox); have n3_ := gS HB hg; have n4_ := gS HB hg; have n5_ := nL BK0 hg; have n6_ := nG BK0 hg; clear BK0 HB; have BK0 := n0_; have HB := n1_; have BK137 := n2_; have GW137 := n3_; have GE137 := n4_; have NB0_137 := n5_; have NB137_0 := n6_; clear n0_ n1_ n2_ n3_ n4_ n5_ n6_; clear hb hbox hg))
 replace BK0 := ak (blk_drew BK0.out)
 replace BK137 := ak (blk_drew BK137.out)
 replace HB := ak (below_drew1 HB.out)
 refine start_ (n := 19) (S := fun w' => w'.cell? ⟨gb137, 0, none⟩ = some (.int .i8 a1_0) ∧ w'.cell? ⟨gb137, 1, none⟩ = some (.int .i8 a1_1)) (ds := []) (bA 19 0) (by kernel_rfl) rfl rfl ⟨(blk_cell BK137.out 0).trans rfl, (blk_cell BK137.out 1).trans rfl⟩ (fun hHeld => ?_); refine with_tabW spec_l01Free.tab1 spec_l01Free.bits1 (fun HT_ HW_ => ?_)
 generalize w77.drew = w78 at BK0 BK137 HB hHeld ⊢
 refine pU 0 5 (bA 19 1) HT_ ?_
 refine tK 1 6 (bA 19 3) HT_ HW_ hHeld ?_
 refine one_ (i := 2) (N := some 7) (bA 19 7) rfl rfl (one_of HT_.out (by kernel_rfl)) (by decide) (fun K hK => ?_)
 refine goes_ Try.func73 (by kernel_rfl) rfl #[.pointer (some ⟨b0, 0, none⟩), .agg #[.int .i8 a1_0, .int .i8 a1_1]] (by rfl) rfl rfl gl_ ?_
 with_reducible refine (spec_l01Is.calls b0 a0_0 a0_1 a0_2 a0_3 a0_4 a0_5 a0_6 a0_7 a0_8 a0_9 a0_10 a0_11 a1_0 a1_1 false _ ?side1 A3.out).mono ?_
 (case side1 => exact (zK BK0.out))
 rintro e w79 ⟨rfl, hb⟩
 refine ⟨_, rfl, ?_⟩
 replace BK0 := kK BK0 hb
 replace BK137 := kK BK137 hb
 replace HB := kB1 HB GE137 hb
 (try clear hb)
 refine hK.out _ _ ⟨(blk_cell BK137.out 0).trans rfl, (blk_cell BK137.out 1).trans rfl⟩ (fun hHeld => ?_)
 clear hK K
 refine norm_ (a' := ?_) ?_ ?_
 rotate_left
 {
 show Act.put _ (some 7) _ = _
 simp only [Act.put, zs, zz, zk, i64_w, i32_w]
 rfl
 }
 refine pU 3 8 (bA 19 15) HT_ ?_
 refine pN 4 9 (bA 19 31) HT_ ?_
 refine pN 5 10 (bA 19 63) HT_ ?_
 refine pN 6 11 (bA 19 127) HT_ ?_
 refine pN 7 12 (bA 19 255) HT_ ?_
 refine pN 8 13 (bA 19 511) HT_ ?_
 refine pN 9 14 (bA 19 1023) HT_ ?_
 refine pN 10 15 (bA 19 2047) HT_ ?_
 refine pN 11 16 (bA 19 4095) HT_ ?_
 refine pN 12 17 (bA 19 8191) HT_ ?_
 refine pN 13 18 (bA 19 16383) HT_ ?_
 refine pN 14 19 (bA 19 32767) HT_ ?_
 refine pN 15 20 (bA 19 65535) HT_ ?_
 refine pN 16 21 (bA 19 131071) HT_ ?_
 refine pU 17 22 (bA 19 262143) HT_ ?_
 refine pU 18 4 (bA 19 524287) HT_ ?_
 refine done_ (done_of HT_.out (by kernel_rfl)) ?_
 try go_wp2
 go_ret
 exact ⟨by first | rfl | (simp [errW_none, errW_some] <;> rfl) | (simp [*, errW_none, errW_some] <;> rfl), zBG HB.out GE137.out⟩
 }
end Go.Proofs.Ytooidjdgfoioiaa.P
