-- Printed by wip/print (my turned copy of the kit's print) out of the translation; Lean checks it.
import Derived.Test.YtooidjdgfoioiaaP0
import Derived.Test.YtooidjdgfoioiaaP1
namespace Go.Proofs.Ytooidjdgfoioiaa.P
open Go.RowKit Go.Proofs.YtooidjdgfoioiaaW.PrintWords Go.Proofs.YtooidjdgfoioiaaW.PrintLast Go.Proofs.YtooidjdgfoioiaaW.PrintMore
attribute [local go_sem] max2_int min2_int max_two min_two max_three min_three max_four min_four   -- for this text's walks alone
set_option linter.unusedVariables false
set_option linter.unusedSimpArgs false

/-! ### spec_l03Ok: function 88 -/
mutual
def spec_l03Ok.j0 : Nat → Int → Bool → Int → List Int → Option (Bool)
  | 0, _, _, _, _ => none
  | k + 1, x3, x48, x1000, x1001 => if x48 = true then (some false) else (spec_l03Ok.l0 k x3 1 x1000 x1001)
def spec_l03Ok.l0 : Nat → Int → Int → Int → List Int → Option (Bool)
  | 0, _, _, _, _ => none
  | k + 1, x3, x4, x1000, x1001 => if x4 < x3 then (if 0 ≤ x4 then (if x4 < (x1001.length : Int) then (if 0 ≤ (wrap64 (x4 - 1)) then (if (wrap64 (x4 - 1)) < (x1001.length : Int) then (if (rd x1001 x4) ≤ (rd x1001 (wrap64 (x4 - 1))) then (some false) else (spec_l03Ok.l0 k x3 (wrap64 (x4 + 1)) x1000 x1001)) else (none)) else (none)) else (none)) else (none)) else (some true)
end
def spec_l03Ok.f (k : Nat) (a0_0 : Int) (l0_1 : List Int) : Option (Bool) := (spec_l00In.f (wrap64 (a0_0)) 1 400).bind fun t368 => (if t368 = true then (if (l0_1.length : Int) < 2 then (spec_l03Ok.j0 k (l0_1.length : Int) true a0_0 l0_1) else (if (l0_1.length : Int) > 40 then (spec_l03Ok.j0 k (l0_1.length : Int) true a0_0 l0_1) else (if 0 < (l0_1.length : Int) then (if (rd l0_1 0) = 0 then (if 0 ≤ (wrap64 ((l0_1.length : Int) - 1)) then (if (wrap64 ((l0_1.length : Int) - 1)) < (l0_1.length : Int) then (spec_l03Ok.j0 k (l0_1.length : Int) ((rd l0_1 (wrap64 ((l0_1.length : Int) - 1))) != a0_0) a0_0 l0_1) else (none)) else (none)) else (spec_l03Ok.j0 k (l0_1.length : Int) true a0_0 l0_1)) else (none)))) else (spec_l03Ok.j0 k (l0_1.length : Int) true a0_0 l0_1))
theorem spec_l03Ok.mono_l : ∀ k, (∀ y0 y1 y2 y3, LeO (spec_l03Ok.j0 k y0 y1 y2 y3) (spec_l03Ok.j0 (k + 1) y0 y1 y2 y3)) ∧ (∀ y0 y1 y2 y3, LeO (spec_l03Ok.l0 k y0 y1 y2 y3) (spec_l03Ok.l0 (k + 1) y0 y1 y2 y3))
  | 0 => ⟨fun _ _ _ _ r h => by simp [spec_l03Ok.j0] at h, fun _ _ _ _ r h => by simp [spec_l03Ok.l0] at h⟩
  | k + 1 => by
    obtain ⟨ih0, ih1⟩ := spec_l03Ok.mono_l k
    refine ⟨?_, ?_⟩
    · intro y0 y1 y2 y3
      unfold spec_l03Ok.j0
      repeat' first
      | (with_reducible exact ih0 ..)
      | (with_reducible exact ih1 ..)
      | (with_reducible exact LeO.refl ..)
      | (with_reducible exact LeO.none ..)
      | (with_reducible refine LeO.ite ?_ ?_)
      | (with_reducible refine LeO.bind ?_ (fun _ => ?_))
    · intro y0 y1 y2 y3
      unfold spec_l03Ok.l0
      repeat' first
      | (with_reducible exact ih0 ..)
      | (with_reducible exact ih1 ..)
      | (with_reducible exact LeO.refl ..)
      | (with_reducible exact LeO.none ..)
      | (with_reducible refine LeO.ite ?_ ?_)
      | (with_reducible refine LeO.bind ?_ (fun _ => ?_))
theorem spec_l03Ok.mono : ∀ a0 a1 k, LeO (spec_l03Ok.f k a0 a1) (spec_l03Ok.f (k + 1) a0 a1) := by
  intro a0 a1 k
  obtain ⟨ih0, ih1⟩ := spec_l03Ok.mono_l k
  unfold spec_l03Ok.f
  repeat' first
      | (with_reducible exact ih0 ..)
      | (with_reducible exact ih1 ..)
      | (with_reducible exact LeO.refl ..)
      | (with_reducible exact LeO.none ..)
      | (with_reducible refine LeO.ite ?_ ?_)
      | (with_reducible refine LeO.bind ?_ (fun _ => ?_))
def spec_l03Ok.T2 : Bool × List (List Nat × List Nat) := (true, [([], []), ([0], [0]), ([1], [1]), ([2], [2]), ([3], [3]), ([4], [4]), ([5], [5]), ([6, 5], [6]), ([7], [7]), ([8, 7], [7, 8]), ([7, 9], [7, 9]), ([10, 7], [10]), ([11], [11]), ([12, 11], [11, 12]), ([11, 13], [11, 13]), ([14, 11], [14]), ([15], [15]), ([16, 15], [15, 16]), ([17, 15], [15, 17]), ([18, 15], [15, 18]), ([19, 15], [15, 19]), ([20, 15], [15, 20]), ([21, 15], [15, 21]), ([15, 22], [15, 22]), ([23, 15], [23]), ([24], [24]), ([25, 24], [24, 25]), ([26, 24], [24, 26]), ([27, 24], [24, 27]), ([24], [24]), ([29, 24], [24, 29]), ([28, 30, 24], [24, 28, 30]), ([31, 24], [24, 31]), ([24], [24]), ([33, 24], [24, 33]), ([34, 24], [24, 34]), ([35, 24], [24, 35]), ([32, 36, 24], [24, 32, 36]), ([24, 37], [24, 37])])
def spec_l03Ok.B2 : List Nat := [0, 1, 3, 7, 15, 31, 63, 127, 255, 511, 1023, 2047, 4095, 8191, 16383, 32767, 65535, 131071, 262143, 524287, 1048575, 2097151, 4194303, 8388607, 16777215, 33554431, 67108863, 134217727, 268435455, 33554431, 570425343, 2147483647, 4294967295, 33554431, 8623489023, 25803358207, 60163096575, 137438953471, 274877906943]
theorem spec_l03Ok.tab2 : rtab .any (opsOf Try.f88 2) = spec_l03Ok.T2 := by kernel_rfl
theorem spec_l03Ok.bits2 : waitsOk spec_l03Ok.T2.2 spec_l03Ok.B2 = true := by kernel_rfl
def spec_l03Ok.T7 : Bool × List (List Nat × List Nat) := (true, [([], []), ([0], [0]), ([1], [1]), ([2], [2]), ([], []), ([3, 4], [3, 4]), ([5], [5]), ([], []), ([7], [7]), ([8], [8]), ([9], [9]), ([], []), ([11], [11]), ([10, 12], [10, 12]), ([13], [13]), ([6, 14], [6, 14])])
def spec_l03Ok.B7 : List Nat := [0, 1, 3, 7, 0, 31, 63, 0, 128, 384, 896, 0, 2048, 8064, 16256, 32767]
theorem spec_l03Ok.tab7 : rtab .any (opsOf Try.f88 7) = spec_l03Ok.T7 := by kernel_rfl
theorem spec_l03Ok.bits7 : waitsOk spec_l03Ok.T7.2 spec_l03Ok.B7 = true := by kernel_rfl
set_option maxHeartbeats 8000000 in
set_option maxRecDepth 100000 in
theorem spec_l03Ok.calls (k : Nat) (b0 : Nat) (a0_0 : Int) (A0_1 : Option Addr) (c0_1 : Nat) (l0_1 : List Int) (r : Bool) (w : World) (hr0_1 : Kd.C (Kd.int .i16) w A0_1 l0_1.length l0_1) (hc0_1 : l0_1.length ≤ c0_1) (hx0 : w.heap[b0]? = some (.cells #[.int .i16 a0_0, .slice A0_1 l0_1.length c0_1] 32 (0, 0))) (h : spec_l03Ok.f k a0_0 l0_1 = some r) :
    Calls Try.prog 88 #[.pointer (some ⟨b0, 0, none⟩)] w fun e w' => e = .returned (.bool r) ∧ Below w.heap.size w w' := by
 have HR0_1 := ak hr0_1
 have HC0_1 := ak hc0_1
 clear hr0_1 hc0_1
 have BK0 := ak hx0
 clear hx0
 have HB := ak (Below.refl w.heap.size w)
 have H := h
 unfold spec_l03Ok.f at H
 clear h
 have HC2 := ak H
 clear H
 have hcz3_0 : w.cell? ⟨b0, 0, none⟩ = some (.int .i16 a0_0) := (blk_cell BK0.out 0).trans rfl
 have hcz3_1 : w.cell? ⟨b0, 1, none⟩ = some (.slice A0_1 l0_1.length c0_1) := (blk_cell BK0.out 1).trans rfl
 have hfz3_0 := blk_frozen BK0.out 0
 have hfz3_1 := blk_frozen BK0.out 1
 go_enter Try.func88, Try.ntmps88
 go_upto_region 2 with (fail)
 go_cut [48] (fun v48 wc => ∃ (kq : Nat) (x48_1 : Bool), v48 = .bool x48_1 ∧ Aside0 (spec_l03Ok.j0 kq (l0_1.length : Int) x48_1 a0_0 l0_1 = some r) ∧ Aside0 (kq ≤ k) ∧ Aside0 (wc.heap[b0]? = some (.cells #[.int .i16 a0_0, (.slice A0_1 l0_1.length c0_1)] 32 (0, 0))) ∧ Aside0 (Below w.heap.size w wc))
 case first => (
 have H := HC2.out
 clear HC2
 replace H := Option.bind_eq_some_iff.mp H
 obtain ⟨t368, A40, H⟩ := H
 have A4 := ak A40
 clear A40
 by_cases c5 : t368 = true
 {
 subst c5
 rw [if_pos rfl] at H
 by_cases c6 : (l0_1.length : Int) < 2
 {
 rw [if_pos c6] at H
 have c6b0 : decide ((l0_1.length : Int) < 2) = true := decide_eq_true c6
 have c6b1 : decide (l0_1.length < 2) = true := decide_eq_true (by omega)
 clear c6
 (first | rw [c6b0] | (simp only [i64_w, i32_w]; rw [c6b0]) | skip)
 have H' := ak H
 clear H
 try go_wp2
 replace BK0 := ak (blk_drew BK0.out)
 replace HB := ak (below_drew1 HB.out)
 refine start_ (n := 39) (S := fun w' => w'.cell? ⟨b0, 0, none⟩ = some (.int .i16 a0_0) ∧ w'.cell? ⟨b0, 1, none⟩ = some (.slice A0_1 l0_1.length c0_1)) (ds := []) (bA 39 0) (by kernel_rfl) rfl rfl ⟨(blk_cell BK0.out 0).trans rfl, (blk_cell BK0.out 1).trans rfl⟩ (fun hHeld => ?_); refine with_tabW spec_l03Ok.tab2 spec_l03Ok.bits2 (fun HT_ HW_ => ?_)
 generalize w.drew = w7 at BK0 HB hHeld ⊢
 refine pU 0 10 (bA 39 1) HT_ ?_
 refine pU 1 11 (bA 39 3) HT_ ?_
 refine pU 2 12 (bA 39 7) HT_ ?_
 refine tK 3 13 (bA 39 15) HT_ HW_ hHeld ?_
 refine pU 4 14 (bA 39 31) HT_ ?_
 refine one_ (i := 5) (N := some 15) (bA 39 63) rfl rfl (one_of HT_.out (by kernel_rfl)) (by decide) (fun K hK => ?_)
 refine goes_ Try.func72 (by kernel_rfl) rfl #[.int .i64 (wrap64 (a0_0)), .int .i64 1, .int .i64 400] (by rfl) rfl rfl gl_ ?_
 with_reducible refine (spec_l00In.calls (wrap64 (a0_0)) 1 400 true _ A4.out).mono ?_
 rintro e w' ⟨rfl, ⟨nd, rfl⟩⟩
 refine ⟨_, rfl, ?_⟩
 refine hK.out _ _ ⟨(blk_cell BK0.out 0).trans rfl, (blk_cell BK0.out 1).trans rfl⟩ (fun hHeld => ?_)
 clear hK K
 refine norm_ (a' := ?_) ?_ ?_
 rotate_left
 {
 show Act.put _ (some 15) _ = _
 simp only [Act.put, zs, zz, zk, i64_w, i32_w]
 rfl
 }
 refine pU 6 16 (bA 39 127) HT_ ?_
 refine pU 7 17 (bA 39 255) HT_ ?_
 refine pU 8 18 (bA 39 511) HT_ ?_
 refine pU 9 19 (bA 39 1023) HT_ ?_
 refine pU 10 20 (bA 39 2047) HT_ ?_
 refine pU 11 21 (bA 39 4095) HT_ ?_
 refine pN 12 22 (bA 39 8191) HT_ ?_
 refine pN 13 23 (bA 39 16383) HT_ ?_
 refine pU 14 24 (bA 39 32767) HT_ ?_
 refine pU 15 25 (bA 39 65535) HT_ ?_
 refine pN 16 26 (bA 39 131071) HT_ ?_
 refine pN 17 27 (bA 39 262143) HT_ ?_
 refine pN 18 28 (bA 39 524287) HT_ ?_
 refine pN 19 29 (bA 39 1048575) HT_ ?_
 refine pN 20 30 (bA 39 2097151) HT_ ?_
 refine pN 21 31 (bA 39 4194303) HT_ ?_
 refine pN 22 32 (bA 39 8388607) HT_ ?_
 refine pU 23 33 (bA 39 16777215) HT_ ?_
 refine pU 24 34 (bA 39 33554431) HT_ ?_
 refine pN 25 35 (bA 39 67108863) HT_ ?_
 refine pN 26 36 (bA 39 134217727) HT_ ?_
 refine pN 27 37 (bA 39 268435455) HT_ ?_
 refine pN 28 38 (bA 39 536870911) HT_ ?_
 refine pN 29 39 (bA 39 1073741823) HT_ ?_
 refine pN 30 40 (bA 39 2147483647) HT_ ?_
 refine pN 31 41 (bA 39 4294967295) HT_ ?_
 refine pN 32 42 (bA 39 8589934591) HT_ ?_
 refine pN 33 43 (bA 39 17179869183) HT_ ?_
 refine pN 34 44 (bA 39 34359738367) HT_ ?_
 refine pN 35 45 (bA 39 68719476735) HT_ ?_
 refine pN 36 46 (bA 39 137438953471) HT_ ?_
 refine pN 37 47 (bA 39 274877906943) HT_ ?_
 refine pU 38 48 (bA 39 549755813887) HT_ ?_
 refine done_ (done_of HT_.out (by kernel_rfl)) ?_
 try go_wp2
 go_meet
 case rel => exact ⟨_, (true), (by first | rfl | (simp; done) | (simp [*]; done)), H', ⟨by first | omega | exact Nat.le_refl _⟩, ⟨(zK BK0.out)⟩, ⟨zB HB.out⟩⟩
 }
 {
 rw [if_neg c6] at H
 have c6b0 : decide ((l0_1.length : Int) < 2) = false := decide_eq_false c6
 have c6b1 : decide (l0_1.length < 2) = false := decide_eq_false (by omega)
 clear c6
 (first | rw [c6b0] | (simp only [i64_w, i32_w]; rw [c6b0]) | skip)
 by_cases c8 : (l0_1.length : Int) > 40
 {
 rw [if_pos c8] at H
 have c8b0 : decide (40 < (l0_1.length : Int)) = true := decide_eq_true c8
 have c8b1 : decide (40 < l0_1.length) = true := decide_eq_true (by omega)
 clear c8
 have H' := ak H
 clear H
 try go_wp2
 replace BK0 := ak (blk_drew BK0.out)
 replace HB := ak (below_drew1 HB.out)
 refine start_ (n := 39) (S := fun w' => w'.cell? ⟨b0, 0, none⟩ = some (.int .i16 a0_0) ∧ w'.cell? ⟨b0, 1, none⟩ = some (.slice A0_1 l0_1.length c0_1)) (ds := []) (bA 39 0) (by kernel_rfl) rfl rfl ⟨(blk_cell BK0.out 0).trans rfl, (blk_cell BK0.out 1).trans rfl⟩ (fun hHeld => ?_); refine with_tabW spec_l03Ok.tab2 spec_l03Ok.bits2 (fun HT_ HW_ => ?_)
 generalize w.drew = w9 at BK0 HB hHeld ⊢
 refine pU 0 10 (bA 39 1) HT_ ?_
 refine pU 1 11 (bA 39 3) HT_ ?_
 refine pU 2 12 (bA 39 7) HT_ ?_
 refine tK 3 13 (bA 39 15) HT_ HW_ hHeld ?_
 refine pU 4 14 (bA 39 31) HT_ ?_
 refine one_ (i := 5) (N := some 15) (bA 39 63) rfl rfl (one_of HT_.out (by kernel_rfl)) (by decide) (fun K hK => ?_)
 refine goes_ Try.func72 (by kernel_rfl) rfl #[.int .i64 (wrap64 (a0_0)), .int .i64 1, .int .i64 400] (by rfl) rfl rfl gl_ ?_
 with_reducible refine (spec_l00In.calls (wrap64 (a0_0)) 1 400 true _ A4.out).mono ?_
 rintro e w' ⟨rfl, ⟨nd, rfl⟩⟩
 refine ⟨_, rfl, ?_⟩
 refine hK.out _ _ ⟨(blk_cell BK0.out 0).trans rfl, (blk_cell BK0.out 1).trans rfl⟩ (fun hHeld => ?_)
 clear hK K
 refine norm_ (a' := ?_) ?_ ?_
 rotate_left
 {
 show Act.put _ (some 15) _ = _
 simp only [Act.put, zs, zz, zk, i64_w, i32_w]
 rfl
 }
 refine pU 6 16 (bA 39 127) HT_ ?_
 refine pU 7 17 (bA 39 255) HT_ ?_
 refine pU 8 18 (bA 39 511) HT_ ?_
 refine pU 9 19 (bA 39 1023) HT_ ?_
 refine pU 10 20 (bA 39 2047) HT_ ?_
 refine pU 11 21 (bA 39 4095) HT_ ?_
 refine pU 12 22 (bA 39 8191) HT_ ?_
 refine pU 13 23 (bA 39 16383) HT_ ?_
 refine pU 14 24 (bA 39 32767) HT_ ?_
 refine pU 15 25 (bA 39 65535) HT_ ?_
 refine pN 16 26 (bA 39 131071) HT_ ?_
 refine pN 17 27 (bA 39 262143) HT_ ?_
 refine pN 18 28 (bA 39 524287) HT_ ?_
 refine pN 19 29 (bA 39 1048575) HT_ ?_
 refine pN 20 30 (bA 39 2097151) HT_ ?_
 refine pN 21 31 (bA 39 4194303) HT_ ?_
 refine pN 22 32 (bA 39 8388607) HT_ ?_
 refine pU 23 33 (bA 39 16777215) HT_ ?_
 refine pU 24 34 (bA 39 33554431) HT_ ?_
 refine pN 25 35 (bA 39 67108863) HT_ ?_
 refine pN 26 36 (bA 39 134217727) HT_ ?_
 refine pN 27 37 (bA 39 268435455) HT_ ?_
 refine pN 28 38 (bA 39 536870911) HT_ ?_
 refine pN 29 39 (bA 39 1073741823) HT_ ?_
 refine pN 30 40 (bA 39 2147483647) HT_ ?_
 refine pN 31 41 (bA 39 4294967295) HT_ ?_
 refine pN 32 42 (bA 39 8589934591) HT_ ?_
 refine pN 33 43 (bA 39 17179869183) HT_ ?_
 refine pN 34 44 (bA 39 34359738367) HT_ ?_
 refine pN 35 45 (bA 39 68719476735) HT_ ?_
 refine pN 36 46 (bA 39 137438953471) HT_ ?_
 refine pN 37 47 (bA 39 274877906943) HT_ ?_
 refine pU 38 48 (bA 39 549755813887) HT_ ?_
 refine done_ (done_of HT_.out (by kernel_rfl)) ?_
 try go_wp2
 go_meet
 case rel => exact ⟨_, (true), (by first | rfl | (simp; done) | (simp [*]; done)), H', ⟨by first | omega | exact Nat.le_refl _⟩, ⟨(zK BK0.out)⟩, ⟨zB HB.out⟩⟩
 }
 {
 rw [if_neg c8] at H
 have c8b0 : decide (40 < (l0_1.length : Int)) = false := decide_eq_false c8
 have c8b1 : decide (40 < l0_1.length) = false := decide_eq_false (by omega)
 clear c8
 by_cases c10 : 0 < (l0_1.length : Int)
 {
 rw [if_pos c10] at H
 have c10b0 : decide (0 < (l0_1.length : Int)) = true := decide_eq_true c10
 have c10b1 : decide (0 < l0_1.length) = true := decide_eq_true (by omega)
 clear c10
 by_cases c11 : (rd l0_1 0) = 0
 {
 rw [if_pos c11] at H
 have c11b0 : ((rd l0_1 0) == 0) = true := beq_iff_eq.mpr c11
 have c11b1 : ((rd l0_1 0) != 0) = false := bne_eq_false_iff_eq.mpr c11
 clear c11
 obtain ⟨ji12, hji12⟩ : ∃ j_ : Int, (wrap64 ((l0_1.length : Int) - 1)) = j_ := ⟨_, rfl⟩
 first | rw [hji12] at H | simp only [hji12] at H
 (try rw [hji12] at A4)
 have hji12w : (IntKind.i64.wrap ((l0_1.length : Int) - 1)) = ji12 := (i64_w _).trans hji12
 by_cases c13 : 0 ≤ (ji12)
 {
 rw [if_pos c13] at H
 have c13b0 : decide (0 ≤ (ji12)) = true := decide_eq_true c13
 clear c13
 by_cases c14 : (ji12) < (l0_1.length : Int)
 {
 rw [if_pos c14] at H
 have c14b0 : decide ((ji12) < (l0_1.length : Int)) = true := decide_eq_true c14
 clear c14
 have H' := ak H
 clear H
 try go_wp2
 replace BK0 := ak (blk_drew BK0.out)
 replace HB := ak (below_drew1 HB.out)
 have p369 : 0 ≤ (0 : Int) := (by omega)
 have q369 : 0 < (l0_1.length : Int) := of_decide_eq_true (by first | (with_reducible assumption) | assumption)
 obtain ⟨ad369, e369, hx369_0⟩ := Kd.at_int HR0_1.out 0 p369 q369
 have hw369_0 := hx369_0
 (try rw [show ((0 : Int)).toNat = 0 from rfl] at hw369_0)
 (try rw [show 0 * 1 = 0 from rfl] at hw369_0)
 (try rw [Addr.add_zero'] at hw369_0)
 cases e369
 have qi369 : (0 < l0_1.length) = True := eq_true (by omega)
 (try rw [show ((0 : Int)).toNat = 0 from rfl] at hx369_0)
 (try rw [Addr.add_zero'] at hx369_0)
 replace hx369_0 := (HB.out.cell (World.block_lt_of_cell? w _ hx369_0)).trans hx369_0
 replace p369 := eq_true p369
 replace q369 := eq_true q369
 have p370 : 0 ≤ ((ji12) : Int) := of_decide_eq_true (by first | (with_reducible assumption) | assumption)
 have q370 : (ji12) < (l0_1.length : Int) := of_decide_eq_true (by first | (with_reducible assumption) | assumption)
 obtain ⟨ad370, e370, hx370_0⟩ := Kd.at_int HR0_1.out (ji12) p370 q370
 have hw370_0 := hx370_0
 obtain rfl : ad369 = ad370 := (by injection e370)
 replace hx370_0 := (HB.out.cell (World.block_lt_of_cell? w _ hx370_0)).trans hx370_0
 replace p370 := eq_true p370
 replace q370 := eq_true q370
 refine start_ (n := 39) (S := fun w' => w'.cell? ⟨b0, 0, none⟩ = some (.int .i16 a0_0) ∧ w'.cell? ⟨b0, 1, none⟩ = some (.slice (some ad369) l0_1.length c0_1) ∧ w'.cell? ad369 = some (.int .i16 (rd l0_1 0)) ∧ w'.cell? (ad369.add ((ji12)).toNat) = some (.int .i16 (rd l0_1 (ji12)))) (ds := []) (bA 39 0) (by kernel_rfl) rfl rfl ⟨(blk_cell BK0.out 0).trans rfl, (blk_cell BK0.out 1).trans rfl, ((HB.out.cell (World.block_lt_of_cell? w _ hw369_0)).trans hw369_0), ((HB.out.cell (World.block_lt_of_cell? w _ hw370_0)).trans hw370_0)⟩ (fun hHeld => ?_); refine with_tabW spec_l03Ok.tab2 spec_l03Ok.bits2 (fun HT_ HW_ => ?_)
 generalize w.drew = w15 at BK0 HB hx369_0 hx370_0 hHeld ⊢
 refine pU 0 10 (bA 39 1) HT_ ?_
 refine pU 1 11 (bA 39 3) HT_ ?_
 refine pU 2 12 (bA 39 7) HT_ ?_
 refine tK 3 13 (bA 39 15) HT_ HW_ hHeld ?_
 refine pU 4 14 (bA 39 31) HT_ ?_
 refine one_ (i := 5) (N := some 15) (bA 39 63) rfl rfl (one_of HT_.out (by kernel_rfl)) (by decide) (fun K hK => ?_)
 refine goes_ Try.func72 (by kernel_rfl) rfl #[.int .i64 (wrap64 (a0_0)), .int .i64 1, .int .i64 400] (by rfl) rfl rfl gl_ ?_
 with_reducible refine (spec_l00In.calls (wrap64 (a0_0)) 1 400 true _ A4.out).mono ?_
 rintro e w' ⟨rfl, ⟨nd, rfl⟩⟩
 refine ⟨_, rfl, ?_⟩
 refine hK.out _ _ ⟨(blk_cell BK0.out 0).trans rfl, (blk_cell BK0.out 1).trans rfl, ((HB.out.cell (World.block_lt_of_cell? w _ hw369_0)).trans hw369_0), ((HB.out.cell (World.block_lt_of_cell? w _ hw370_0)).trans hw370_0)⟩ (fun hHeld => ?_)
 clear hK K
 refine norm_ (a' := ?_) ?_ ?_
 rotate_left
 {
 show Act.put _ (some 15) _ = _
 simp only [Act.put, zs, zz, zk, i64_w, i32_w]
 rfl
 }
 refine pU 6 16 (bA 39 127) HT_ ?_
 refine pU 7 17 (bA 39 255) HT_ ?_
 refine pU 8 18 (bA 39 511) HT_ ?_
 refine pU 9 19 (bA 39 1023) HT_ ?_
 refine pU 10 20 (bA 39 2047) HT_ ?_
 refine pU 11 21 (bA 39 4095) HT_ ?_
 refine pU 12 22 (bA 39 8191) HT_ ?_
 refine pU 13 23 (bA 39 16383) HT_ ?_
 refine pU 14 24 (bA 39 32767) HT_ ?_
 refine pU 15 25 (bA 39 65535) HT_ ?_
 refine pU 16 26 (bA 39 131071) HT_ ?_
 refine pU 17 27 (bA 39 262143) HT_ ?_
 refine pU 18 28 (bA 39 524287) HT_ ?_
 refine tK 19 29 (bA 39 1048575) HT_ HW_ hHeld ?_
 refine pU 20 30 (bA 39 2097151) HT_ ?_
 refine tK 21 31 (bA 39 4194303) HT_ HW_ hHeld ?_
 refine pU 22 32 (bA 39 8388607) HT_ ?_
 refine pU 23 33 (bA 39 16777215) HT_ ?_
 refine pU 24 34 (bA 39 33554431) HT_ ?_
 refine pU 25 35 (bA 39 67108863) HT_ ?_
 refine pU 26 36 (bA 39 134217727) HT_ ?_
 refine pU 27 37 (bA 39 268435455) HT_ ?_
 refine pU 29 39 (bA 39 805306367) HT_ ?_
 refine pU 30 40 (bA 39 1879048191) HT_ ?_
 refine pU 33 43 (bA 39 10468982783) HT_ ?_
 refine pU 34 44 (bA 39 27648851967) HT_ ?_
 refine pU 35 45 (bA 39 62008590335) HT_ ?_
 refine tK 28 38 (bA 39 62277025791) HT_ HW_ hHeld ?_
 refine pU 31 41 (bA 39 64424509439) HT_ ?_
 refine tK 32 42 (bA 39 68719476735) HT_ HW_ hHeld ?_
 refine tK 36 46 (bA 39 137438953471) HT_ HW_ hHeld ?_
 refine pU 37 47 (bA 39 274877906943) HT_ ?_
 refine pU 38 48 (bA 39 549755813887) HT_ ?_
 refine done_ (done_of HT_.out (by kernel_rfl)) ?_
 try go_wp2
 go_meet
 case rel => exact ⟨_, (((rd l0_1 (ji12)) != a0_0)), (by first | rfl | (simp; done) | (simp only [← hji12] <;> (first | rfl | simp)) | (simp [*]; done)), H', ⟨by first | omega | exact Nat.le_refl _⟩, ⟨(zK BK0.out)⟩, ⟨zB HB.out⟩⟩
 }
 · rw [if_neg c14] at H; exact absurd H (by simp)
 }
 · rw [if_neg c13] at H; exact absurd H (by simp)
 }
 {
 rw [if_neg c11] at H
 have c11b0 : ((rd l0_1 0) == 0) = false := beq_eq_false_iff_ne.mpr c11
 have c11b1 : ((rd l0_1 0) != 0) = true := bne_iff_ne.mpr c11
 have H' := ak H
 clear H
 try go_wp2
 replace BK0 := ak (blk_drew BK0.out)
 replace HB := ak (below_drew1 HB.out)
 have p369 : 0 ≤ (0 : Int) := (by omega)
 have q369 : 0 < (l0_1.length : Int) := of_decide_eq_true (by first | (with_reducible assumption) | assumption)
 obtain ⟨ad369, e369, hx369_0⟩ := Kd.at_int HR0_1.out 0 p369 q369
 have hw369_0 := hx369_0
 (try rw [show ((0 : Int)).toNat = 0 from rfl] at hw369_0)
 (try rw [show 0 * 1 = 0 from rfl] at hw369_0)
 (try rw [Addr.add_zero'] at hw369_0)
 cases e369
 have qi369 : (0 < l0_1.length) = True := eq_true (by omega)
 (try rw [show ((0 : Int)).toNat = 0 from rfl] at hx369_0)
 (try rw [Addr.add_zero'] at hx369_0)
 replace hx369_0 := (HB.out.cell (World.block_lt_of_cell? w _ hx369_0)).trans hx369_0
 replace p369 := eq_true p369
 replace q369 := eq_true q369
 refine start_ (n := 39) (S := fun w' => w'.cell? ⟨b0, 0, none⟩ = some (.int .i16 a0_0) ∧ w'.cell? ⟨b0, 1, none⟩ = some (.slice (some ad369) l0_1.length c0_1) ∧ w'.cell? ad369 = some (.int .i16 (rd l0_1 0))) (ds := []) (bA 39 0) (by kernel_rfl) rfl rfl ⟨(blk_cell BK0.out 0).trans rfl, (blk_cell BK0.out 1).trans rfl, ((HB.out.cell (World.block_lt_of_cell? w _ hw369_0)).trans hw369_0)⟩ (fun hHeld => ?_); refine with_tabW spec_l03Ok.tab2 spec_l03Ok.bits2 (fun HT_ HW_ => ?_)
 generalize w.drew = w16 at BK0 HB hx369_0 hHeld ⊢
 refine pU 0 10 (bA 39 1) HT_ ?_
 refine pU 1 11 (bA 39 3) HT_ ?_
 refine pU 2 12 (bA 39 7) HT_ ?_
 refine tK 3 13 (bA 39 15) HT_ HW_ hHeld ?_
 refine pU 4 14 (bA 39 31) HT_ ?_
 refine one_ (i := 5) (N := some 15) (bA 39 63) rfl rfl (one_of HT_.out (by kernel_rfl)) (by decide) (fun K hK => ?_)
 refine goes_ Try.func72 (by kernel_rfl) rfl #[.int .i64 (wrap64 (a0_0)), .int .i64 1, .int .i64 400] (by rfl) rfl rfl gl_ ?_
 with_reducible refine (spec_l00In.calls (wrap64 (a0_0)) 1 400 true _ A4.out).mono ?_
 rintro e w' ⟨rfl, ⟨nd, rfl⟩⟩
 refine ⟨_, rfl, ?_⟩
 refine hK.out _ _ ⟨(blk_cell BK0.out 0).trans rfl, (blk_cell BK0.out 1).trans rfl, ((HB.out.cell (World.block_lt_of_cell? w _ hw369_0)).trans hw369_0)⟩ (fun hHeld => ?_)
 clear hK K
 refine norm_ (a' := ?_) ?_ ?_
 rotate_left
 {
 show Act.put _ (some 15) _ = _
 simp only [Act.put, zs, zz, zk, i64_w, i32_w]
 rfl
 }
 refine pU 6 16 (bA 39 127) HT_ ?_
 refine pU 7 17 (bA 39 255) HT_ ?_
 refine pU 8 18 (bA 39 511) HT_ ?_
 refine pU 9 19 (bA 39 1023) HT_ ?_
 refine pU 10 20 (bA 39 2047) HT_ ?_
 refine pU 11 21 (bA 39 4095) HT_ ?_
 refine pU 12 22 (bA 39 8191) HT_ ?_
 refine pU 13 23 (bA 39 16383) HT_ ?_
 refine pU 14 24 (bA 39 32767) HT_ ?_
 refine pU 15 25 (bA 39 65535) HT_ ?_
 refine pU 16 26 (bA 39 131071) HT_ ?_
 refine pU 17 27 (bA 39 262143) HT_ ?_
 refine pU 18 28 (bA 39 524287) HT_ ?_
 refine tK 19 29 (bA 39 1048575) HT_ HW_ hHeld ?_
 refine pU 20 30 (bA 39 2097151) HT_ ?_
 refine tK 21 31 (bA 39 4194303) HT_ HW_ hHeld ?_
 refine pU 22 32 (bA 39 8388607) HT_ ?_
 refine pU 23 33 (bA 39 16777215) HT_ ?_
 refine pU 24 34 (bA 39 33554431) HT_ ?_
 refine pN 25 35 (bA 39 67108863) HT_ ?_
 refine pN 26 36 (bA 39 134217727) HT_ ?_
 refine pN 27 37 (bA 39 268435455) HT_ ?_
 refine pN 28 38 (bA 39 536870911) HT_ ?_
 refine pN 29 39 (bA 39 1073741823) HT_ ?_
 refine pN 30 40 (bA 39 2147483647) HT_ ?_
 refine pN 31 41 (bA 39 4294967295) HT_ ?_
 refine pN 32 42 (bA 39 8589934591) HT_ ?_
 refine pN 33 43 (bA 39 17179869183) HT_ ?_
 refine pN 34 44 (bA 39 34359738367) HT_ ?_
 refine pN 35 45 (bA 39 68719476735) HT_ ?_
 refine pN 36 46 (bA 39 137438953471) HT_ ?_
 refine pN 37 47 (bA 39 274877906943) HT_ ?_
 refine pU 38 48 (bA 39 549755813887) HT_ ?_
 refine done_ (done_of HT_.out (by kernel_rfl)) ?_
 try go_wp2
 go_meet
 case rel => exact ⟨_, (true), (by first | rfl | (simp; done) | (simp [*]; done)), H', ⟨by first | omega | exact Nat.le_refl _⟩, ⟨(zK BK0.out)⟩, ⟨zB HB.out⟩⟩
 }
 }
 · rw [if_neg c10] at H; exact absurd H (by simp)
 }
 }
 }
 {
 replace c5 := Bool.eq_false_iff.mpr c5
 subst c5
 rw [if_neg (show ¬ (false = true) by decide)] at H
 have H' := ak H
 clear H
 try go_wp2
 replace BK0 := ak (blk_drew BK0.out)
 replace HB := ak (below_drew1 HB.out)
 refine start_ (n := 39) (S := fun w' => w'.cell? ⟨b0, 0, none⟩ = some (.int .i16 a0_0) ∧ w'.cell? ⟨b0, 1, none⟩ = some (.slice A0_1 l0_1.length c0_1)) (ds := []) (bA 39 0) (by kernel_rfl) rfl rfl ⟨(blk_cell BK0.out 0).trans rfl, (blk_cell BK0.out 1).trans rfl⟩ (fun hHeld => ?_); refine with_tabW spec_l03Ok.tab2 spec_l03Ok.bits2 (fun HT_ HW_ => ?_)
 generalize w.drew = w17 at BK0 HB hHeld ⊢
 refine pU 0 10 (bA 39 1) HT_ ?_
 refine pU 1 11 (bA 39 3) HT_ ?_
 refine pU 2 12 (bA 39 7) HT_ ?_
 refine tK 3 13 (bA 39 15) HT_ HW_ hHeld ?_
 refine pU 4 14 (bA 39 31) HT_ ?_
 refine one_ (i := 5) (N := some 15) (bA 39 63) rfl rfl (one_of HT_.out (by kernel_rfl)) (by decide) (fun K hK => ?_)
 refine goes_ Try.func72 (by kernel_rfl) rfl #[.int .i64 (wrap64 (a0_0)), .int .i64 1, .int .i64 400] (by rfl) rfl rfl gl_ ?_
 with_reducible refine (spec_l00In.calls (wrap64 (a0_0)) 1 400 false _ A4.out).mono ?_
 rintro e w' ⟨rfl, ⟨nd, rfl⟩⟩
 refine ⟨_, rfl, ?_⟩
 refine hK.out _ _ ⟨(blk_cell BK0.out 0).trans rfl, (blk_cell BK0.out 1).trans rfl⟩ (fun hHeld => ?_)
 clear hK K
 refine norm_ (a' := ?_) ?_ ?_
 rotate_left
 {
 show Act.put _ (some 15) _ = _
 simp only [Act.put, zs, zz, zk, i64_w, i32_w]
 rfl
 }
 refine pU 6 16 (bA 39 127) HT_ ?_
 refine pU 7 17 (bA 39 255) HT_ ?_
 refine pN 8 18 (bA 39 511) HT_ ?_
 refine pN 9 19 (bA 39 1023) HT_ ?_
 refine pU 10 20 (bA 39 2047) HT_ ?_
 refine pU 11 21 (bA 39 4095) HT_ ?_
 refine pN 12 22 (bA 39 8191) HT_ ?_
 refine pN 13 23 (bA 39 16383) HT_ ?_
 refine pU 14 24 (bA 39 32767) HT_ ?_
 refine pU 15 25 (bA 39 65535) HT_ ?_
 refine pN 16 26 (bA 39 131071) HT_ ?_
 refine pN 17 27 (bA 39 262143) HT_ ?_
 refine pN 18 28 (bA 39 524287) HT_ ?_
 refine pN 19 29 (bA 39 1048575) HT_ ?_
 refine pN 20 30 (bA 39 2097151) HT_ ?_
 refine pN 21 31 (bA 39 4194303) HT_ ?_
 refine pN 22 32 (bA 39 8388607) HT_ ?_
 refine pU 23 33 (bA 39 16777215) HT_ ?_
 refine pU 24 34 (bA 39 33554431) HT_ ?_
 refine pN 25 35 (bA 39 67108863) HT_ ?_
 refine pN 26 36 (bA 39 134217727) HT_ ?_
 refine pN 27 37 (bA 39 268435455) HT_ ?_
 refine pN 28 38 (bA 39 536870911) HT_ ?_
 refine pN 29 39 (bA 39 1073741823) HT_ ?_
 refine pN 30 40 (bA 39 2147483647) HT_ ?_
 refine pN 31 41 (bA 39 4294967295) HT_ ?_
 refine pN 32 42 (bA 39 8589934591) HT_ ?_
 refine pN 33 43 (bA 39 17179869183) HT_ ?_
 refine pN 34 44 (bA 39 34359738367) HT_ ?_
 refine pN 35 45 (bA 39 68719476735) HT_ ?_
 refine pN 36 46 (bA 39 137438953471) HT_ ?_
 refine pN 37 47 (bA 39 274877906943) HT_ ?_
 refine pU 38 48 (bA 39 549755813887) HT_ ?_
 refine done_ (done_of HT_.out (by kernel_rfl)) ?_
 try go_wp2
 go_meet
 case rel => exact ⟨_, (true), (by first | rfl | (simp; done) | (simp [*]; done)), H', ⟨by first | omega | exact Nat.le_refl _⟩, ⟨(zK BK0.out)⟩, ⟨zB HB.out⟩⟩
 }
 )
 case rest => (
 clear HC2
 obtain ⟨kq, x48_1, rfl, HA, HJ1, BK0, HB⟩ := hcut
 cases kq with
 | zero => exact absurd HA.out (by simp [spec_l03Ok.j0])
 | succ kj1 => (
 have H := HA.out
 clear HA
 simp only [spec_l03Ok.j0] at H
 by_cases c18 : x48_1 = true
 {
 subst c18
 rw [if_pos rfl] at H
 obtain rfl := Option.some.inj H
 go_wp2
 go_ret
 exact ⟨by first | rfl | (simp [errW_none, errW_some] <;> rfl) | (simp [*, errW_none, errW_some] <;> rfl), zB HB.out⟩
 }
 {
 replace c18 := Bool.eq_false_iff.mpr c18
 subst c18
 rw [if_neg (show ¬ (false = true) by decide)] at H
 have H' := ak H
 clear H
 go_wp2
 go_loopg [4] kj1 (fun kq v4 w' => ∃ (x4_2 : Int), v4 = .int .i64 x4_2 ∧ Aside0 (spec_l03Ok.l0 kq (l0_1.length : Int) x4_2 a0_0 l0_1 = some r) ∧ Aside0 (kq ≤ kj1) ∧ Aside0 (w'.heap[b0]? = some (.cells #[.int .i16 a0_0, (.slice A0_1 l0_1.length c0_1)] 32 (0, 0))) ∧ Aside0 (Below w.heap.size w w'))
 case atStart => exact ⟨(1), (by first | rfl | (simp; done) | (simp [*]; done)), H', ⟨Nat.le_refl _⟩, ⟨(zK BK0.out)⟩, ⟨zB HB.out⟩⟩
 case round => (
 clear H'
 try clear c18
 obtain ⟨x4_2, rfl, HA, HK2, BK0, HB⟩ := hrel
 cases gk with
 | zero => exact absurd HA.out (by simp [spec_l03Ok.l0])
 | succ k2 => (
 have H := HA.out
 clear HA
 simp only [spec_l03Ok.l0] at H
 by_cases c19 : x4_2 < (l0_1.length : Int)
 {
 rw [if_pos c19] at H
 have c19b0 : decide (x4_2 < (l0_1.length : Int)) = true := decide_eq_true c19
 clear c19
 by_cases c20 : 0 ≤ x4_2
 {
 rw [if_pos c20] at H
 have c20b0 : decide (0 ≤ x4_2) = true := decide_eq_true c20
 clear c20
 by_cases c21 : x4_2 < (l0_1.length : Int)
 {
 rw [if_pos c21] at H
 have c21b0 : decide (x4_2 < (l0_1.length : Int)) = true := decide_eq_true c21
 clear c21
 obtain ⟨ji22, hji22⟩ : ∃ j_ : Int, (wrap64 (x4_2 - 1)) = j_ := ⟨_, rfl⟩
 first | rw [hji22] at H | simp only [hji22] at H
 have hji22w : (IntKind.i64.wrap (x4_2 - 1)) = ji22 := (i64_w _).trans hji22
 by_cases c23 : 0 ≤ (ji22)
 {
 rw [if_pos c23] at H
 have c23b0 : decide (0 ≤ (ji22)) = true := decide_eq_true c23
 clear c23
 by_cases c24 : (ji22) < (l0_1.length : Int)
 {
 rw [if_pos c24] at H
 have c24b0 : decide ((ji22) < (l0_1.length : Int)) = true := decide_eq_true c24
 clear c24
 by_cases c25 : (rd l0_1 x4_2) ≤ (rd l0_1 (ji22))
 {
 rw [if_pos c25] at H
 have c25b0 : decide ((rd l0_1 x4_2) ≤ (rd l0_1 (ji22))) = true := decide_eq_true c25
 clear c25
 obtain rfl := Option.some.inj H
 try go_wp2
 replace BK0 := ak (blk_drew BK0.out)
 replace HB := ak (below_drew1 HB.out)
 have p371 : 0 ≤ (x4_2 : Int) := of_decide_eq_true (by first | (with_reducible assumption) | assumption)
 have q371 : x4_2 < (l0_1.length : Int) := of_decide_eq_true (by first | (with_reducible assumption) | assumption)
 obtain ⟨ad371, e371, hx371_0⟩ := Kd.at_int HR0_1.out x4_2 p371 q371
 have hw371_0 := hx371_0
 cases e371
 replace hx371_0 := (HB.out.cell (World.block_lt_of_cell? w _ hx371_0)).trans hx371_0
 replace p371 := eq_true p371
 replace q371 := eq_true q371
 have p372 : 0 ≤ ((ji22) : Int) := of_decide_eq_true (by first | (with_reducible assumption) | assumption)
 have q372 : (ji22) < (l0_1.length : Int) := of_decide_eq_true (by first | (with_reducible assumption) | assumption)
 obtain ⟨ad372, e372, hx372_0⟩ := Kd.at_int HR0_1.out (ji22) p372 q372
 have hw372_0 := hx372_0
 obtain rfl : ad371 = ad372 := (by injection e372)
 replace hx372_0 := (HB.out.cell (World.block_lt_of_cell? w _ hx372_0)).trans hx372_0
 replace p372 := eq_true p372
 replace q372 := eq_true q372
 refine start_ (n := 16) (S := fun w' => w'.cell? ⟨b0, 0, none⟩ = some (.int .i16 a0_0) ∧ w'.cell? ⟨b0, 1, none⟩ = some (.slice (some ad371) l0_1.length c0_1) ∧ w'.cell? (ad371.add (x4_2).toNat) = some (.int .i16 (rd l0_1 x4_2)) ∧ w'.cell? (ad371.add ((ji22)).toNat) = some (.int .i16 (rd l0_1 (ji22)))) (ds := []) (bA 16 0) (by kernel_rfl) rfl rfl ⟨(blk_cell BK0.out 0).trans rfl, (blk_cell BK0.out 1).trans rfl, ((HB.out.cell (World.block_lt_of_cell? w _ hw371_0)).trans hw371_0), ((HB.out.cell (World.block_lt_of_cell? w _ hw372_0)).trans hw372_0)⟩ (fun hHeld => ?_); refine with_tabW spec_l03Ok.tab7 spec_l03Ok.bits7 (fun HT_ HW_ => ?_)
 generalize wr.drew = w26 at BK0 HB hx371_0 hx372_0 hHeld ⊢
 refine pU 0 54 (bA 16 1) HT_ ?_
 refine pU 1 55 (bA 16 3) HT_ ?_
 refine pU 2 56 (bA 16 7) HT_ ?_
 refine pU 4 58 (bA 16 23) HT_ ?_
 refine pU 7 61 (bA 16 151) HT_ ?_
 refine pU 8 62 (bA 16 407) HT_ ?_
 refine pU 9 63 (bA 16 919) HT_ ?_
 refine pU 11 65 (bA 16 2967) HT_ ?_
 refine pU 12 66 (bA 16 7063) HT_ ?_
 refine tK 3 57 (bA 16 7071) HT_ HW_ hHeld ?_
 refine pU 5 59 (bA 16 7103) HT_ ?_
 refine tK 6 60 (bA 16 7167) HT_ HW_ hHeld ?_
 refine tK 10 64 (bA 16 8191) HT_ HW_ hHeld ?_
 refine pU 13 67 (bA 16 16383) HT_ ?_
 refine tK 14 68 (bA 16 32767) HT_ HW_ hHeld ?_
 refine pU 15 69 (bA 16 65535) HT_ ?_
 refine done_ (done_of HT_.out (by kernel_rfl)) ?_
 try go_wp2
 go_ret
 exact ⟨by first | rfl | (simp [errW_none, errW_some] <;> rfl) | (simp only [← hji22]; first | rfl | (simp [errW_none, errW_some] <;> rfl)) | (simp [*, errW_none, errW_some] <;> rfl), zB HB.out⟩
 }
 {
 rw [if_neg c25] at H
 have c25b0 : decide ((rd l0_1 x4_2) ≤ (rd l0_1 (ji22))) = false := decide_eq_false c25
 clear c25
 have H' := ak H
 clear H
 try go_wp2
 replace BK0 := ak (blk_drew BK0.out)
 replace HB := ak (below_drew1 HB.out)
 have p371 : 0 ≤ (x4_2 : Int) := of_decide_eq_true (by first | (with_reducible assumption) | assumption)
 have q371 : x4_2 < (l0_1.length : Int) := of_decide_eq_true (by first | (with_reducible assumption) | assumption)
 obtain ⟨ad371, e371, hx371_0⟩ := Kd.at_int HR0_1.out x4_2 p371 q371
 have hw371_0 := hx371_0
 cases e371
 replace hx371_0 := (HB.out.cell (World.block_lt_of_cell? w _ hx371_0)).trans hx371_0
 replace p371 := eq_true p371
 replace q371 := eq_true q371
 have p372 : 0 ≤ ((ji22) : Int) := of_decide_eq_true (by first | (with_reducible assumption) | assumption)
 have q372 : (ji22) < (l0_1.length : Int) := of_decide_eq_true (by first | (with_reducible assumption) | assumption)
 obtain ⟨ad372, e372, hx372_0⟩ := Kd.at_int HR0_1.out (ji22) p372 q372
 have hw372_0 := hx372_0
 obtain rfl : ad371 = ad372 := (by injection e372)
 replace hx372_0 := (HB.out.cell (World.block_lt_of_cell? w _ hx372_0)).trans hx372_0
 replace p372 := eq_true p372
 replace q372 := eq_true q372
 refine start_ (n := 16) (S := fun w' => w'.cell? ⟨b0, 0, none⟩ = some (.int .i16 a0_0) ∧ w'.cell? ⟨b0, 1, none⟩ = some (.slice (some ad371) l0_1.length c0_1) ∧ w'.cell? (ad371.add (x4_2).toNat) = some (.int .i16 (rd l0_1 x4_2)) ∧ w'.cell? (ad371.add ((ji22)).toNat) = some (.int .i16 (rd l0_1 (ji22)))) (ds := []) (bA 16 0) (by kernel_rfl) rfl rfl ⟨(blk_cell BK0.out 0).trans rfl, (blk_cell BK0.out 1).trans rfl, ((HB.out.cell (World.block_lt_of_cell? w _ hw371_0)).trans hw371_0), ((HB.out.cell (World.block_lt_of_cell? w _ hw372_0)).trans hw372_0)⟩ (fun hHeld => ?_); refine with_tabW spec_l03Ok.tab7 spec_l03Ok.bits7 (fun HT_ HW_ => ?_)
 generalize wr.drew = w27 at BK0 HB hx371_0 hx372_0 hHeld ⊢
 refine pU 0 54 (bA 16 1) HT_ ?_
 refine pU 1 55 (bA 16 3) HT_ ?_
 refine pU 2 56 (bA 16 7) HT_ ?_
 refine pU 4 58 (bA 16 23) HT_ ?_
 refine pU 7 61 (bA 16 151) HT_ ?_
 refine pU 8 62 (bA 16 407) HT_ ?_
 refine pU 9 63 (bA 16 919) HT_ ?_
 refine pU 11 65 (bA 16 2967) HT_ ?_
 refine pU 12 66 (bA 16 7063) HT_ ?_
 refine tK 3 57 (bA 16 7071) HT_ HW_ hHeld ?_
 refine pU 5 59 (bA 16 7103) HT_ ?_
 refine tK 6 60 (bA 16 7167) HT_ HW_ hHeld ?_
 refine tK 10 64 (bA 16 8191) HT_ HW_ hHeld ?_
 refine pU 13 67 (bA 16 16383) HT_ ?_
 refine tK 14 68 (bA 16 32767) HT_ HW_ hHeld ?_
 refine pU 15 69 (bA 16 65535) HT_ ?_
 refine done_ (done_of HT_.out (by kernel_rfl)) ?_
 try go_wp2
 go_roundg k2
 case measure => have := HJ1.out; have := HK2.out; omega
 case rel => exact ⟨(wrap64 (x4_2 + 1)), (by first | rfl | (simp; done) | (simp [*]; done)), H', ⟨by have := HJ1.out; have := HK2.out; omega⟩, ⟨(zK BK0.out)⟩, ⟨zB HB.out⟩⟩
 }
 }
 · rw [if_neg c24] at H; exact absurd H (by simp)
 }
 · rw [if_neg c23] at H; exact absurd H (by simp)
 }
 · rw [if_neg c21] at H; exact absurd H (by simp)
 }
 · rw [if_neg c20] at H; exact absurd H (by simp)
 }
 {
 rw [if_neg c19] at H
 have c19b0 : decide (x4_2 < (l0_1.length : Int)) = false := decide_eq_false c19
 clear c19
 obtain rfl := Option.some.inj H
 go_wp2
 go_ret
 exact ⟨by first | rfl | (simp [errW_none, errW_some] <;> rfl) | (simp [*, errW_none, errW_some] <;> rfl), zB HB.out⟩
 }
 )
 )
 }
 )
 )
end Go.Proofs.Ytooidjdgfoioiaa.P
