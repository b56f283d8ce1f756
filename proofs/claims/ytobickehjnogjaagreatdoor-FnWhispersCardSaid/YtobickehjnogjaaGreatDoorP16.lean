-- Printed by wip/print (my turned copy of the kit's print) out of the translation; Lean checks it.
import Derived.Test.YtobickehjnogjaaGreatDoorP0
import Derived.Test.YtobickehjnogjaaGreatDoorP4
import Derived.Test.YtobickehjnogjaaGreatDoorP5
import Derived.Test.YtobickehjnogjaaGreatDoorP13
import Derived.Test.YtobickehjnogjaaGreatDoorP14
namespace Go.Proofs.YtobickehjnogjaaGreatDoor.P
open Go.RowKit Go.Proofs.YtobickehjnogjaaGreatDoorW.PrintWords Go.Proofs.YtobickehjnogjaaGreatDoorW.PrintLast Go.Proofs.YtobickehjnogjaaGreatDoorW.PrintMore
attribute [local go_sem] max2_int min2_int max_two min_two max_three min_three max_four min_four   -- for this text's walks alone
set_option linter.unusedVariables false
set_option linter.unusedSimpArgs false

/-! ### spec_FirstWords: function 25 -/
mutual
def spec_FirstWords.l0 : Nat → List (S40) → List ByteArray → Int → Option (List ByteArray × Int)
  | 0, _, _, _ => none
  | k + 1, x0, x7, x8 => if x8 ≥ 0 then (spec_FirstWords.l1 k x0 x7 x8 (([] : List ByteArray)) 0) else (some (x7, 0))
def spec_FirstWords.l1 : Nat → List (S40) → List ByteArray → Int → List ByteArray → Int → Option (List ByteArray × Int)
  | 0, _, _, _, _, _ => none
  | k + 1, x0, x7, x8, x9, x10 => if x10 < (x7.length : Int) then (if 0 ≤ x8 then (if x8 < (x0.length : Int) then (if 0 ≤ x10 then ((spec_l04Pasts.f k ((rd_T40 x0 x8).f0) ((rd_T40 x0 x8).f1) ((rd_T40 x0 x8).f2) (rdOf ByteArray.empty x7 x10)).bind fun bt449 => (if bt449.2 = true then (spec_FirstWords.l2 k x0 x7 x8 x9 x10 bt449.1 0) else (some ((([] : List ByteArray)), 3)))) else (none)) else (none)) else (none)) else (if (x9.length : Int) > 300 then (some ((([] : List ByteArray)), 3)) else (spec_FirstWords.l0 k x0 x9 (wrap64 (x8 - 1))))
def spec_FirstWords.l2 : Nat → List (S40) → List ByteArray → Int → List ByteArray → Int → List ByteArray → Int → Option (List ByteArray × Int)
  | 0, _, _, _, _, _, _, _ => none
  | k + 1, x0, x7, x8, x9, x10, x11, x13 => if x13 < (x11.length : Int) then (if 0 ≤ x13 then ((spec_l04Put.f k x9 (rdOf ByteArray.empty x11 x13)).bind fun t457 => (spec_FirstWords.l2 k x0 x7 x8 t457 x10 x11 (wrap64 (x13 + 1)))) else (none)) else (spec_FirstWords.l1 k x0 x7 x8 x9 (wrap64 (x10 + 1)))
end
def spec_FirstWords.f (k : Nat) (l0 : List (S40)) (a1 : ByteArray) : Option (List ByteArray × Int) := (spec_l04Asked.f k l0 (([a1] : List ByteArray))).bind fun t434 => (if t434 = 0 then (spec_FirstWords.l0 k l0 (([a1] : List ByteArray)) (wrap64 ((l0.length : Int) - 1))) else (some ((([] : List ByteArray)), t434)))
def spec_FirstWords.T12 : Bool × List (List Nat × List Nat) := (true, [([], []), ([], []), ([0, 1], [0, 1]), ([2], [2]), ([], []), ([], []), ([4, 5], [4, 5]), ([6], [6]), ([3, 7], [3, 7]), ([8], [8]), ([9], [9]), ([9], [9]), ([10, 8, 0, 1, 2, 3, 4, 5, 6, 7, 8, 9, 10], [10]), ([11, 12, 0, 1, 2, 3, 4, 5, 6, 7, 8, 9, 10, 11, 12], [11])])
def spec_FirstWords.B12 : List Nat := [0, 0, 3, 7, 0, 0, 48, 112, 255, 511, 1023, 1023, 2047, 8191]
theorem spec_FirstWords.tab12 : rtab .any (opsOf Tryz.f25 12) = spec_FirstWords.T12 := by kernel_rfl
theorem spec_FirstWords.bits12 : waitsOk spec_FirstWords.T12.2 spec_FirstWords.B12 = true := by kernel_rfl
set_option maxHeartbeats 8000000 in
set_option maxRecDepth 100000 in
theorem spec_FirstWords.calls (k : Nat) (A0 : Option Addr) (c0 : Nat) (l0 : List (S40)) (a1 : ByteArray) (r1 : List ByteArray) (r2 : Int) (w : World) (hr0 : Kd.C k40 w A0 l0.length l0) (hc0 : l0.length ≤ c0) (h : spec_FirstWords.f k l0 a1 = some (r1, r2)) :
    Calls Tryz.prog 25 #[.slice A0 l0.length c0, .string a1] w fun e w' => ∃ v0_ : Value, e = .returned (.tuple #[v0_, .int .i64 r2]) ∧ Kd.R Kd.string 9 w' w.heap.size (fun _ => True) v0_ r1 ∧ Below w.heap.size w w' := by
 have hu40 := Tryz.underlying40
 have HR0 := ak hr0
 have HC0 := ak hc0
 clear hr0 hc0
 have HB := ak (Below.refl w.heap.size w)
 have H := h
 unfold spec_FirstWords.f at H
 clear h
 obtain ⟨y431, hy431⟩ : ∃ y_ : List ByteArray, y_ = (([a1] : List ByteArray)) := ⟨_, rfl⟩
 replace H : ((spec_l04Asked.f k l0 y431).bind fun t434 => (if t434 = 0 then (spec_FirstWords.l0 k l0 (([a1] : List ByteArray)) (wrap64 ((l0.length : Int) - 1))) else (some ((([] : List ByteArray)), t434)))) = some (r1, r2) := by first | (rw [hy431]; with_reducible exact H) | (have H2_ := (Option.bind_some _ _).symm.trans H; rw [hy431]; with_reducible exact H2_) | (have H2_ := (Option.bind_some _ _).symm.trans H; with_reducible exact H2_) | with_reducible exact H | (rw [hy431]; exact H) | exact H
 have Ny431 := ak hy431
 clear hy431
 replace H := Option.bind_eq_some_iff.mp H
 obtain ⟨t434, A30, H⟩ := H
 have A3 := ak A30
 clear A30
 by_cases c4 : t434 = 0
 {
 rw [if_pos c4] at H
 have c4b0 : (t434 == 0) = true := beq_iff_eq.mpr c4
 have c4b1 : (t434 != 0) = false := bne_eq_false_iff_eq.mpr c4
 clear c4
 obtain ⟨y438, hy438⟩ : ∃ y_ : List ByteArray, y_ = (([a1] : List ByteArray)) := ⟨_, rfl⟩
 replace H : (spec_FirstWords.l0 k l0 y438 (wrap64 ((l0.length : Int) - 1))) = some (r1, r2) := by first | (rw [hy438]; with_reducible exact H) | (have H2_ := (Option.bind_some _ _).symm.trans H; rw [hy438]; with_reducible exact H2_) | (have H2_ := (Option.bind_some _ _).symm.trans H; with_reducible exact H2_) | with_reducible exact H | (rw [hy438]; exact H) | exact H
 have Ny438 := ak hy438
 clear hy438
 have H' := ak H
 clear H
 go_enter Tryz.func25, Tryz.ntmps25
 go_wp2_with (first | ((with_reducible refine gate_dst (N := 16) rfl ?_); refine Kd.R_lit Kd.string _ 9 ?hg (N := 16) ?hd (xs := ([a1] : List ByteArray)) (inner := [.string a1]) (ok := fun _ => True) (okp := fun _ => True) ?hr ?hp (fun _ hk => hk) trivial (Below.refl _ _) (Nat.le_refl _) (by simp) ?_; (case hd => rfl); (case hg => rfl); (case hr => first | (go_simp; done) | (go_simp; rfl)); (case hp => exact (Reps.one (show Kd.M Kd.string _ _ _ a1 [.string a1] from rfl) (Reps.none _ _))); intro v432 w5 ho6 hb hg_ hnew_; clear hg_ hnew_; (first | rw [← Ny431.out] at ho6 | (simp only [Int.reduceToNat] at ho6; rw [← Ny431.out] at ho6)); have HO433 := ak (Kd.R_lower ho6 (below_size (zB HB.out))); replace HB := kB HB hb; clear hb ho6; obtain ⟨Ao7, co7, eo7⟩ := Kd.R_slice HO433.out; subst eo7) | ((with_reducible refine gate_callee (f := 34) rfl ?_); refine goesL_ (some 17) rfl rfl Tryz.func34 (by kernel_rfl) rfl #[.slice A0 l0.length c0, .slice Ao7 y431.length co7] rfl gl_ ?_; (with_reducible refine (spec_l04Asked.calls k _ _ l0 _ _ y431 t434 _ ?side1 ?side2 ?side3 ?side4 A3.out).mono ?_); (case side1 => exact sQ (Kd.C_below HR0.out HB.out)); (case side2 => exact HC0.out); (case side3 => exact sC HO433); (case side4 => exact sL HO433); rintro e w8 ⟨rfl, hb⟩; refine ⟨_, rfl, ?_⟩; replace HO433 := kR HO433 hb; replace HB := kB HB hb; (try clear hb)) | ((with_reducible refine gate_dst (N := 23) rfl ?_); refine Kd.R_lit Kd.string _ 9 ?hg (N := 23) ?hd (xs := ([a1] : List ByteArray)) (inner := [.string a1]) (ok := fun _ => True) (okp := fun _ => True) ?hr ?hp (fun _ hk => hk) trivial (Below.refl _ _) (Nat.le_refl _) (by simp) ?_; (case hd => rfl); (case hg => rfl); (case hr => first | (go_simp; done) | (go_simp; rfl)); (case hp => exact (Reps.one (show Kd.M Kd.string _ _ _ a1 [.string a1] from rfl) (Reps.none _ _))); intro v439 w9 ho10 hb hg_ hnew_; clear hg_ hnew_; (first | rw [← Ny438.out] at ho10 | (simp only [Int.reduceToNat] at ho10; rw [← Ny438.out] at ho10)); have HO440 := ak (Kd.R_lower (Kd.R_new' ho10 (Kd.R_lt (zR HO433.out))) (below_size (zB HB.out))); replace HO433 := kE HO433 ho10 hb; replace HB := kB HB hb; clear hb ho10))
 go_loopg [7, 8] k (fun kq v7 v8 w' => ∃ (x7_1 : List ByteArray) (x8_1 : Int), v8 = .int .i64 x8_1 ∧ Aside0 (spec_FirstWords.l0 kq l0 x7_1 x8_1 = some (r1, r2)) ∧ Aside0 (kq ≤ k) ∧ Aside0 (Kd.R Kd.string 9 w' w.heap.size (fun _ => True) v7 x7_1) ∧ Aside0 (Below w.heap.size w w'))
 case atStart => exact ⟨(y438), (wrap64 ((l0.length : Int) - 1)), (by first | rfl | (simp; done) | (simp [*]; done)), H', ⟨Nat.le_refl _⟩, ⟨by (with_reducible repeat (first | apply Kd.R_alloc | apply Kd.R_drewN | apply Kd.R_drew)); exact Kd.R_mono HO440.out (fun _ hk => trivial)⟩, ⟨zB HB.out⟩⟩
 case round => (
 clear H'
 try clear c4
 try clear c4b0
 try clear c4b1
 obtain ⟨x7_1, x8_1, rfl, HA, HK1, HO_7, HB⟩ := hrel
 cases gk with
 | zero => exact absurd HA.out (by simp [spec_FirstWords.l0])
 | succ k1 => (
 have H := HA.out
 clear HA
 simp only [spec_FirstWords.l0] at H
 by_cases c11 : x8_1 ≥ 0
 {
 rw [if_pos c11] at H
 have c11b0 : decide (0 ≤ x8_1) = true := decide_eq_true c11
 clear c11
 obtain ⟨y441, hy441⟩ : ∃ y_ : List ByteArray, y_ = (([] : List ByteArray)) := ⟨_, rfl⟩
 replace H : (spec_FirstWords.l1 k1 l0 x7_1 x8_1 y441 0) = some (r1, r2) := by first | (rw [hy441]; with_reducible exact H) | (have H2_ := (Option.bind_some _ _).symm.trans H; rw [hy441]; with_reducible exact H2_) | (have H2_ := (Option.bind_some _ _).symm.trans H; with_reducible exact H2_) | with_reducible exact H | (rw [hy441]; exact H) | exact H
 have Ny441 := ak hy441
 clear hy441
 have H' := ak H
 clear H
 go_wp2_with (first | ((with_reducible refine gate_dst (N := 31) rfl ?_); refine Kd.R_lit Kd.string _ 9 ?hg (N := 31) ?hd (xs := ([] : List ByteArray)) (inner := []) (ok := fun _ => True) (okp := fun _ => True) ?hr ?hp (fun _ hk => hk) trivial (Below.refl _ _) (Nat.le_refl _) (by simp) ?_; (case hd => rfl); (case hg => rfl); (case hr => first | (go_simp; done) | (go_simp; rfl)); (case hp => exact (Reps.none _ _)); intro v442 w12 ho13 hb hg_ hnew_; clear hg_ hnew_; (first | rw [← Ny441.out] at ho13 | (simp only [Int.reduceToNat] at ho13; rw [← Ny441.out] at ho13)); have HO443 := ak (Kd.R_lower (Kd.R_new' ho13 (Kd.R_lt (zR HO_7.out))) (below_size (zB HB.out))); replace HO_7 := kE HO_7 ho13 hb; replace HB := kB HB hb; clear hb ho13))
 go_loopg [9, 10] k1 (fun kq v9 v10 w' => ∃ (x9_2 : List ByteArray) (x10_2 : Int), v10 = .int .i64 x10_2 ∧ Aside0 (spec_FirstWords.l1 kq l0 x7_1 x8_1 x9_2 x10_2 = some (r1, r2)) ∧ Aside0 (kq ≤ k1) ∧ Aside0 (Kd.R Kd.string 9 w' w.heap.size (fun k_ => some k_ ≠ (v9 : Value).ownBlock) u7 x7_1) ∧ Aside0 (Kd.R Kd.string 9 w' w.heap.size (fun k_ => some k_ ≠ (u7 : Value).ownBlock) v9 x9_2) ∧ Aside0 (Below w.heap.size w w'))
 case atStart => exact ⟨(y441), (0), (by first | rfl | (simp; done) | (simp [*]; done)), H', ⟨Nat.le_refl _⟩, ⟨by (with_reducible repeat (first | apply Kd.R_alloc | apply Kd.R_drewN | apply Kd.R_drew)); exact Kd.R_mono HO_7.out (fun _ hk => hk.2)⟩, ⟨by (with_reducible repeat (first | apply Kd.R_alloc | apply Kd.R_drewN | apply Kd.R_drew)); exact Kd.R_mono HO443.out (fun _ hk => hk.2)⟩, ⟨zB HB.out⟩⟩
 case round => (
 clear H'
 try clear c4
 try clear c4b0
 try clear c4b1
 try clear c11
 try clear c11b0
 obtain ⟨x9_2, x10_2, rfl, HA, HK2, HO_7, HO_9, HB⟩ := hrel
 cases gk with
 | zero => exact absurd HA.out (by simp [spec_FirstWords.l1])
 | succ k2 => (
 have H := HA.out
 clear HA
 simp only [spec_FirstWords.l1] at H
 by_cases c14 : x10_2 < (x7_1.length : Int)
 {
 rw [if_pos c14] at H
 have c14b0 : decide (x10_2 < (x7_1.length : Int)) = true := decide_eq_true c14
 clear c14
 by_cases c15 : 0 ≤ x8_1
 {
 rw [if_pos c15] at H
 have c15b0 : decide (0 ≤ x8_1) = true := decide_eq_true c15
 clear c15
 by_cases c16 : x8_1 < (l0.length : Int)
 {
 rw [if_pos c16] at H
 have c16b0 : decide (x8_1 < (l0.length : Int)) = true := decide_eq_true c16
 clear c16
 by_cases c17 : 0 ≤ x10_2
 {
 rw [if_pos c17] at H
 have c17b0 : decide (0 ≤ x10_2) = true := decide_eq_true c17
 clear c17
 replace H := Option.bind_eq_some_iff.mp H
 obtain ⟨⟨t449, t452⟩, A180, H⟩ := H
 have A18 := ak A180
 clear A180
 by_cases c19 : t452 = true
 {
 subst c19
 rw [if_pos rfl] at H
 have H' := ak H
 clear H
 obtain ⟨Ao20, co20, eo20⟩ := Kd.R_slice HO_7.out
 subst eo20
 try go_wp2
 replace HO_7 := ak (Kd.R_drew HO_7.out)
 replace HO_9 := ak (Kd.R_drew HO_9.out)
 replace HB := ak (below_drew1 HB.out)
 have p447 : 0 ≤ (x8_1 : Int) := of_decide_eq_true (by first | (with_reducible assumption) | assumption)
 have q447 : x8_1 < (l0.length : Int) := of_decide_eq_true (by first | (with_reducible assumption) | assumption)
 obtain ⟨ad447, e447, hx447_0, hx447_1, hx447_2⟩ := at_T40 HR0.out x8_1 p447 q447
 have hw447_2 := hx447_2
 have hw447_1 := hx447_1
 have hw447_0 := hx447_0
 cases e447
 replace hx447_0 := (HB.out.cell (World.block_lt_of_cell? w _ hx447_0)).trans hx447_0
 replace hx447_1 := (HB.out.cell (World.block_lt_of_cell? w _ hx447_1)).trans hx447_1
 replace hx447_2 := (HB.out.cell (World.block_lt_of_cell? w _ hx447_2)).trans hx447_2
 replace p447 := eq_true p447
 replace q447 := eq_true q447
 have p448 : 0 ≤ (x10_2 : Int) := of_decide_eq_true (by first | (with_reducible assumption) | assumption)
 have q448 : x10_2 < (x7_1.length : Int) := of_decide_eq_true (by first | (with_reducible assumption) | assumption)
 obtain ⟨ad448, e448, hx448_0⟩ := Kd.at_string (Kd.R_reads' HO_7.out).2.2 x10_2 p448 q448
 cases e448
 replace p448 := eq_true p448
 replace q448 := eq_true q448
 refine start_ (n := 14) (S := fun w' => w'.cell? (ad447.add ((x8_1).toNat * 3)) = some (.int .i8 ((rd_T40 l0 x8_1).f0)) ∧ w'.cell? ⟨(ad447.add ((x8_1).toNat * 3)).block, (ad447.add ((x8_1).toNat * 3)).off + 1, none⟩ = some (.int .u8 ((rd_T40 l0 x8_1).f1)) ∧ w'.cell? ⟨(ad447.add ((x8_1).toNat * 3)).block, (ad447.add ((x8_1).toNat * 3)).off + 2, none⟩ = some (.int .u8 ((rd_T40 l0 x8_1).f2)) ∧ w'.cell? (ad448.add (x10_2).toNat) = some (.string (rdOf ByteArray.empty x7_1 x10_2))) (ds := []) (bA 14 0) (by kernel_rfl) rfl rfl ⟨((HB.out.cell (World.block_lt_of_cell? w _ hw447_0)).trans hw447_0), ((HB.out.cell (World.block_lt_of_cell? w _ hw447_1)).trans hw447_1), ((HB.out.cell (World.block_lt_of_cell? w _ hw447_2)).trans hw447_2), hx448_0⟩ (fun hHeld => ?_); refine with_tabW spec_FirstWords.tab12 spec_FirstWords.bits12 (fun HT_ HW_ => ?_)
 generalize wr.drew = w21 at HO_7 HO_9 HB hx447_0 hx447_1 hx447_2 hx448_0 hHeld ⊢
 refine pU 0 39 (bA 14 1) HT_ ?_
 refine pU 1 40 (bA 14 3) HT_ ?_
 refine pU 2 41 (bA 14 7) HT_ ?_
 refine pU 4 43 (bA 14 23) HT_ ?_
 refine pU 5 44 (bA 14 55) HT_ ?_
 refine pU 6 45 (bA 14 119) HT_ ?_
 refine tK 3 42 (bA 14 127) HT_ HW_ hHeld ?_
 refine tK 7 46 (bA 14 255) HT_ HW_ hHeld ?_
 refine one_ (i := 8) (N := some 47) (bA 14 511) rfl rfl (one_of HT_.out (by kernel_rfl)) (by decide) (fun K hK => ?_)
 refine goes_ Tryz.func46 (by kernel_rfl) rfl #[.agg #[.int .i8 ((rd_T40 l0 x8_1).f0), .int .u8 ((rd_T40 l0 x8_1).f1), .int .u8 ((rd_T40 l0 x8_1).f2)], .string (rdOf ByteArray.empty x7_1 x10_2)] (by rfl) rfl rfl gl_ ?_
 with_reducible refine (spec_l04Pasts.calls k2 ((rd_T40 l0 x8_1).f0) ((rd_T40 l0 x8_1).f1) ((rd_T40 l0 x8_1).f2) (rdOf ByteArray.empty x7_1 x10_2) t449 true _ A18.out).mono ?_
 rintro e w22 ⟨v450, rfl, ho0, hb⟩
 have HS3_ := (hb.cell (World.block_lt_of_cell? _ _ (hHeld.2.2.2))).trans (hHeld.2.2.2)
 refine ⟨_, rfl, ?_⟩
 have HO451 := ak (Kd.R_lower (Kd.R_new' (Kd.R_new' ho0 (Kd.R_lt (zR HO_7.out))) (Kd.R_lt (zR HO_9.out))) (below_size (zB HB.out)))
 replace HO_7 := kE HO_7 ho0 hb
 replace HO_9 := kE HO_9 ho0 hb
 replace HB := kB HB hb
 (try clear hb)
 (try clear ho0)
 refine hK.out _ _ ⟨((HB.out.cell (World.block_lt_of_cell? w _ hw447_0)).trans hw447_0), ((HB.out.cell (World.block_lt_of_cell? w _ hw447_1)).trans hw447_1), ((HB.out.cell (World.block_lt_of_cell? w _ hw447_2)).trans hw447_2), HS3_⟩ (fun hHeld => ?_)
 clear hK K
 refine norm_ (a' := ?_) ?_ ?_
 rotate_left
 {
 show Act.put _ (some 47) _ = _
 simp only [Act.put, zs, zz, zk, i64_w, i32_w]
 rfl
 }
 refine pU 9 38 (bA 14 1023) HT_ ?_
 refine pU 10 48 (bA 14 2047) HT_ ?_
 refine pU 11 49 (bA 14 4095) HT_ ?_
 refine pU 12 11 (bA 14 8191) HT_ ?_
 refine pU 13 12 (bA 14 16383) HT_ ?_
 refine done_ (done_of HT_.out (by kernel_rfl)) ?_
 try go_wp2
 go_loopg [9, 13] k2 (fun kq v9 v13 w' => ∃ (x9_3 : List ByteArray) (x13_3 : Int), v13 = .int .i64 x13_3 ∧ Aside0 (spec_FirstWords.l2 kq l0 x7_1 x8_1 x9_3 x10_2 t449 x13_3 = some (r1, r2)) ∧ Aside0 (kq ≤ k2) ∧ Aside0 (Kd.R Kd.string 9 w' w.heap.size (fun k_ => some k_ ≠ (v9 : Value).ownBlock ∧ some k_ ≠ (v450 : Value).ownBlock) (.slice (some ad448) x7_1.length co20) x7_1) ∧ Aside0 (Kd.R Kd.string 9 w' w.heap.size (fun k_ => some k_ ≠ ((.slice (some ad448) x7_1.length co20) : Value).ownBlock ∧ some k_ ≠ (v450 : Value).ownBlock) v9 x9_3) ∧ Aside0 (Kd.R Kd.string 9 w' w.heap.size (fun k_ => some k_ ≠ ((.slice (some ad448) x7_1.length co20) : Value).ownBlock ∧ some k_ ≠ (v9 : Value).ownBlock) v450 t449) ∧ Aside0 (Below w.heap.size w w'))
 case atStart => exact ⟨(x9_2), (0), (by first | rfl | (simp; done) | (simp [*]; done)), H', ⟨Nat.le_refl _⟩, ⟨(zR HO_7.out)⟩, ⟨(zR HO_9.out)⟩, ⟨by (with_reducible repeat (first | apply Kd.R_alloc | apply Kd.R_drewN | apply Kd.R_drew)); exact Kd.R_mono HO451.out (fun _ hk => ⟨hk.1.2, hk.2⟩)⟩, ⟨zB HB.out⟩⟩
 case round => (
 clear H'
 try clear c4
 try clear c4b0
 try clear c4b1
 try clear c11
 try clear c11b0
 try clear c14
 try clear c14b0
 try clear c15
 try clear c15b0
 try clear c16
 try clear c16b0
 try clear c17
 try clear c17b0
 try clear c19
 try clear hx447_0
 try clear hx447_1
 try clear hx447_2
 try clear hx448_0
 try clear p447
 try clear p448
 try clear q447
 try clear q448
 obtain ⟨x9_3, x13_3, rfl, HA, HK3, HO_7, HO_9, HO_11, HB⟩ := hrel
 cases gk with
 | zero => exact absurd HA.out (by simp [spec_FirstWords.l2])
 | succ k3 => (
 have H := HA.out
 clear HA
 simp only [spec_FirstWords.l2] at H
 by_cases c23 : x13_3 < (t449.length : Int)
 {
 rw [if_pos c23] at H
 have c23b0 : decide (x13_3 < (t449.length : Int)) = true := decide_eq_true c23
 clear c23
 by_cases c24 : 0 ≤ x13_3
 {
 rw [if_pos c24] at H
 have c24b0 : decide (0 ≤ x13_3) = true := decide_eq_true c24
 clear c24
 replace H := Option.bind_eq_some_iff.mp H
 obtain ⟨t457, A250, H⟩ := H
 have A25 := ak A250
 clear A250
 have H' := ak H
 clear H
 obtain ⟨Ao26, co26, eo26⟩ := Kd.R_slice HO_11.out
 subst eo26
 have p456 : 0 ≤ (x13_3 : Int) := of_decide_eq_true (by first | (with_reducible assumption) | assumption)
 have q456 : x13_3 < (t449.length : Int) := of_decide_eq_true (by first | (with_reducible assumption) | assumption)
 obtain ⟨ad456, e456, hx456_0⟩ := Kd.at_string (Kd.R_reads' HO_11.out).2.2 x13_3 p456 q456
 cases e456
 replace p456 := eq_true p456
 replace q456 := eq_true q456
 obtain ⟨Ao27, co27, eo27⟩ := Kd.R_slice HO_9.out
 subst eo27
 go_wp2_with (first | ((with_reducible refine gate_callee (f := 51) rfl ?_); refine goesL_ (some 64) rfl rfl Tryz.func51 (by kernel_rfl) rfl #[.slice Ao27 x9_3.length co27, .string (rdOf ByteArray.empty t449 x13_3)] rfl gl_ ?_; (with_reducible refine (spec_l04Put.calls k3 (fun k_ => some k_ = (.slice Ao27 x9_3.length co27 : Value).ownBlock) (.slice Ao27 x9_3.length co27) x9_3 (rdOf ByteArray.empty t449 x13_3) t457 w _ ?side1 ?side2 A25.out).mono ?_); (case side1 => repeat (first | (with_reducible first | exact HB.out | apply below_alloc | apply pw_below_drewN | apply below_drew1) | exact HB.out)); (case side2 => exact Kd.R_tight rfl HO_9.out); rintro e w28 ⟨v458, rfl, ho0, hb, hkp⟩; refine ⟨_, rfl, ?_⟩; have HO459 := ak (Kd.R_mono (ok' := fun k_ => some k_ ≠ (.slice (some ad448) x7_1.length co20 : Value).ownBlock ∧ some k_ ≠ (.slice (some ad456) t449.length co26 : Value).ownBlock) ho0 (fun k_ hk_ => ⟨Or.elim hk_ (fun hs_ => fun e_ => (((HO_7.out).1 k_ e_.symm).1) hs_) (fun hn_ => (Kd.fresh' (Kd.R_lt (zR HO_7.out)) k_ hn_)), Or.elim hk_ (fun hs_ => fun e_ => (((HO_11.out).1 k_ e_.symm).2) hs_) (fun hn_ => (Kd.fresh' (Kd.R_lt (zR HO_11.out)) k_ hn_))⟩)); replace HO_7 := ak (Kd.R_mono (ok' := fun k_ => some k_ ≠ (.slice (some ad456) t449.length co26 : Value).ownBlock ∧ some k_ ≠ (v458 : Value).ownBlock) (Kd.R_keptB (HO_7.out) hkp (fun k_ hk_ hs_ => (hk_.1) hs_)) (fun k_ hk_ => ⟨hk_.1.2, fun e_ => Or.elim (ho0.1 k_ e_.symm) (fun hs_ => hk_.2.1 hs_) (fun hn_ => Nat.not_le.2 hk_.2.2 hn_)⟩)); replace HO_11 := ak (Kd.R_mono (ok' := fun k_ => some k_ ≠ (.slice (some ad448) x7_1.length co20 : Value).ownBlock ∧ some k_ ≠ (v458 : Value).ownBlock) (Kd.R_keptB (HO_11.out) hkp (fun k_ hk_ hs_ => (hk_.2) hs_)) (fun k_ hk_ => ⟨hk_.1.1, fun e_ => Or.elim (ho0.1 k_ e_.symm) (fun hs_ => hk_.2.1 hs_) (fun hn_ => Nat.not_le.2 hk_.2.2 hn_)⟩)); replace HB := ak (hb); clear HO_9; (try clear hb); (try clear hkp); (try clear ho0)))
 go_roundg k3
 case measure => have := HK1.out; have := HK2.out; have := HK3.out; omega
 case rel => exact ⟨(t457), (wrap64 (x13_3 + 1)), (by first | rfl | (simp; done) | (simp [*]; done)), H', ⟨by have := HK1.out; have := HK2.out; have := HK3.out; omega⟩, ⟨by (with_reducible repeat (first | apply Kd.R_alloc | apply Kd.R_drewN | apply Kd.R_drew)); exact Kd.R_mono HO_7.out (fun _ hk => ⟨hk.2, hk.1⟩)⟩, ⟨(zR HO459.out)⟩, ⟨(zR HO_11.out)⟩, ⟨zB HB.out⟩⟩
 }
 · rw [if_neg c24] at H; exact absurd H (by simp)
 }
 {
 rw [if_neg c23] at H
 have c23b0 : decide (x13_3 < (t449.length : Int)) = false := decide_eq_false c23
 clear c23
 have H' := ak H
 clear H
 obtain ⟨Ao29, co29, eo29⟩ := Kd.R_slice HO_11.out
 subst eo29
 go_wp2
 go_roundg k3
 case measure => have := HK1.out; have := HK2.out; have := HK3.out; omega
 case rel => exact ⟨(x9_3), (wrap64 (x10_2 + 1)), (by first | rfl | (simp; done) | (simp [*]; done)), H', ⟨by have := HK1.out; have := HK2.out; have := HK3.out; omega⟩, ⟨by (with_reducible repeat (first | apply Kd.R_alloc | apply Kd.R_drewN | apply Kd.R_drew)); exact Kd.R_mono HO_7.out (fun _ hk => hk.1)⟩, ⟨by (with_reducible repeat (first | apply Kd.R_alloc | apply Kd.R_drewN | apply Kd.R_drew)); exact Kd.R_mono HO_9.out (fun _ hk => hk.1)⟩, ⟨zB HB.out⟩⟩
 }
 )
 )
 }
 {
 replace c19 := Bool.eq_false_iff.mpr c19
 subst c19
 rw [if_neg (show ¬ (false = true) by decide)] at H
 obtain ⟨y453, hy453⟩ : ∃ y_ : List ByteArray, y_ = (([] : List ByteArray)) := ⟨_, rfl⟩
 replace H : (some (y453, 3)) = some (r1, r2) := by first | (rw [hy453]; with_reducible exact H) | (have H2_ := (Option.bind_some _ _).symm.trans H; rw [hy453]; with_reducible exact H2_) | (have H2_ := (Option.bind_some _ _).symm.trans H; with_reducible exact H2_) | with_reducible exact H | (rw [hy453]; exact H) | exact H
 have Ny453 := ak hy453
 clear hy453
 simp only [Option.some.injEq, Prod.mk.injEq] at H
 obtain ⟨rfl, rfl⟩ := H
 obtain ⟨Ao30, co30, eo30⟩ := Kd.R_slice HO_7.out
 subst eo30
 try go_wp2
 replace HO_7 := ak (Kd.R_drew HO_7.out)
 replace HO_9 := ak (Kd.R_drew HO_9.out)
 replace HB := ak (below_drew1 HB.out)
 have p447 : 0 ≤ (x8_1 : Int) := of_decide_eq_true (by first | (with_reducible assumption) | assumption)
 have q447 : x8_1 < (l0.length : Int) := of_decide_eq_true (by first | (with_reducible assumption) | assumption)
 obtain ⟨ad447, e447, hx447_0, hx447_1, hx447_2⟩ := at_T40 HR0.out x8_1 p447 q447
 have hw447_2 := hx447_2
 have hw447_1 := hx447_1
 have hw447_0 := hx447_0
 cases e447
 replace hx447_0 := (HB.out.cell (World.block_lt_of_cell? w _ hx447_0)).trans hx447_0
 replace hx447_1 := (HB.out.cell (World.block_lt_of_cell? w _ hx447_1)).trans hx447_1
 replace hx447_2 := (HB.out.cell (World.block_lt_of_cell? w _ hx447_2)).trans hx447_2
 replace p447 := eq_true p447
 replace q447 := eq_true q447
 have p448 : 0 ≤ (x10_2 : Int) := of_decide_eq_true (by first | (with_reducible assumption) | assumption)
 have q448 : x10_2 < (x7_1.length : Int) := of_decide_eq_true (by first | (with_reducible assumption) | assumption)
 obtain ⟨ad448, e448, hx448_0⟩ := Kd.at_string (Kd.R_reads' HO_7.out).2.2 x10_2 p448 q448
 cases e448
 replace p448 := eq_true p448
 replace q448 := eq_true q448
 refine start_ (n := 14) (S := fun w' => w'.cell? (ad447.add ((x8_1).toNat * 3)) = some (.int .i8 ((rd_T40 l0 x8_1).f0)) ∧ w'.cell? ⟨(ad447.add ((x8_1).toNat * 3)).block, (ad447.add ((x8_1).toNat * 3)).off + 1, none⟩ = some (.int .u8 ((rd_T40 l0 x8_1).f1)) ∧ w'.cell? ⟨(ad447.add ((x8_1).toNat * 3)).block, (ad447.add ((x8_1).toNat * 3)).off + 2, none⟩ = some (.int .u8 ((rd_T40 l0 x8_1).f2)) ∧ w'.cell? (ad448.add (x10_2).toNat) = some (.string (rdOf ByteArray.empty x7_1 x10_2))) (ds := []) (bA 14 0) (by kernel_rfl) rfl rfl ⟨((HB.out.cell (World.block_lt_of_cell? w _ hw447_0)).trans hw447_0), ((HB.out.cell (World.block_lt_of_cell? w _ hw447_1)).trans hw447_1), ((HB.out.cell (World.block_lt_of_cell? w _ hw447_2)).trans hw447_2), hx448_0⟩ (fun hHeld => ?_); refine with_tabW spec_FirstWords.tab12 spec_FirstWords.bits12 (fun HT_ HW_ => ?_)
 generalize wr.drew = w31 at HO_7 HO_9 HB hx447_0 hx447_1 hx447_2 hx448_0 hHeld ⊢
 refine pU 0 39 (bA 14 1) HT_ ?_
 refine pU 1 40 (bA 14 3) HT_ ?_
 refine pU 2 41 (bA 14 7) HT_ ?_
 refine pU 4 43 (bA 14 23) HT_ ?_
 refine pU 5 44 (bA 14 55) HT_ ?_
 refine pU 6 45 (bA 14 119) HT_ ?_
 refine tK 3 42 (bA 14 127) HT_ HW_ hHeld ?_
 refine tK 7 46 (bA 14 255) HT_ HW_ hHeld ?_
 refine one_ (i := 8) (N := some 47) (bA 14 511) rfl rfl (one_of HT_.out (by kernel_rfl)) (by decide) (fun K hK => ?_)
 refine goes_ Tryz.func46 (by kernel_rfl) rfl #[.agg #[.int .i8 ((rd_T40 l0 x8_1).f0), .int .u8 ((rd_T40 l0 x8_1).f1), .int .u8 ((rd_T40 l0 x8_1).f2)], .string (rdOf ByteArray.empty x7_1 x10_2)] (by rfl) rfl rfl gl_ ?_
 with_reducible refine (spec_l04Pasts.calls k2 ((rd_T40 l0 x8_1).f0) ((rd_T40 l0 x8_1).f1) ((rd_T40 l0 x8_1).f2) (rdOf ByteArray.empty x7_1 x10_2) t449 false _ A18.out).mono ?_
 rintro e w32 ⟨v450, rfl, ho0, hb⟩
 have HS3_ := (hb.cell (World.block_lt_of_cell? _ _ (hHeld.2.2.2))).trans (hHeld.2.2.2)
 refine ⟨_, rfl, ?_⟩
 have HO451 := ak (Kd.R_lower (Kd.R_new' (Kd.R_new' ho0 (Kd.R_lt (zR HO_7.out))) (Kd.R_lt (zR HO_9.out))) (below_size (zB HB.out)))
 replace HO_7 := kE HO_7 ho0 hb
 replace HO_9 := kE HO_9 ho0 hb
 replace HB := kB HB hb
 (try clear hb)
 (try clear ho0)
 refine hK.out _ _ ⟨((HB.out.cell (World.block_lt_of_cell? w _ hw447_0)).trans hw447_0), ((HB.out.cell (World.block_lt_of_cell? w _ hw447_1)).trans hw447_1), ((HB.out.cell (World.block_lt_of_cell? w _ hw447_2)).trans hw447_2), HS3_⟩ (fun hHeld => ?_)
 clear hK K
 refine norm_ (a' := ?_) ?_ ?_
 rotate_left
 {
 show Act.put _ (some 47) _ = _
 simp only [Act.put, zs, zz, zk, i64_w, i32_w]
 rfl
 }
 refine pU 9 38 (bA 14 1023) HT_ ?_
 refine pU 10 48 (bA 14 2047) HT_ ?_
 refine pU 11 49 (bA 14 4095) HT_ ?_
 refine pU 12 11 (bA 14 8191) HT_ ?_
 refine pU 13 12 (bA 14 16383) HT_ ?_
 refine done_ (done_of HT_.out (by kernel_rfl)) ?_
 try go_wp2_with (first | ((with_reducible refine gate_dst (N := 52) rfl ?_); refine Kd.R_lit Kd.string _ 9 ?hg (N := 52) ?hd (xs := ([] : List ByteArray)) (inner := []) (ok := fun _ => True) (okp := fun _ => True) ?hr ?hp (fun _ hk => hk) trivial (Below.refl _ _) (Nat.le_refl _) (by simp) ?_; (case hd => rfl); (case hg => rfl); (case hr => first | (go_simp; done) | (go_simp; rfl)); (case hp => exact (Reps.none _ _)); intro v454 w33 ho34 hb hg_ hnew_; clear hg_ hnew_; (first | rw [← Ny453.out] at ho34 | (simp only [Int.reduceToNat] at ho34; rw [← Ny453.out] at ho34)); have n0_ := ak (Kd.R_elder' (zR HO_7.out) (Kd.R_base ho34) hb); have n1_ := ak (Kd.R_elder' (zR HO_9.out) (Kd.R_base ho34) hb); have n2_ := ak (Kd.R_elder' (zR HO451.out) (Kd.R_base ho34) hb); have n3_ := ak (Kd.R_lower (Kd.R_new' (Kd.R_new' (Kd.R_new' ho34 (Kd.R_lt (zR HO_7.out))) (Kd.R_lt (zR HO_9.out))) (Kd.R_lt (zR HO451.out))) (below_size (zB HB.out))); have n4_ := ak (below_step (zB HB.out) hb); clear HO_7 HO_9 HO451 HB; have HO_7 := n0_; have HO_9 := n1_; have HO451 := n2_; have HO455 := n3_; have HB := n4_; clear n0_ n1_ n2_ n3_ n4_; clear hb ho34))
 go_ret2
 exact ⟨_, by first | rfl | (simp [errW_none, errW_some] <;> rfl) | (simp [*, errW_none, errW_some] <;> rfl), by (with_reducible repeat (first | apply Kd.R_alloc | apply Kd.R_drewN | apply Kd.R_drew)); exact Kd.R_mono HO455.out (fun _ hk => trivial), zB HB.out⟩
 }
 }
 · rw [if_neg c17] at H; exact absurd H (by simp)
 }
 · rw [if_neg c16] at H; exact absurd H (by simp)
 }
 · rw [if_neg c15] at H; exact absurd H (by simp)
 }
 {
 rw [if_neg c14] at H
 have c14b0 : decide (x10_2 < (x7_1.length : Int)) = false := decide_eq_false c14
 clear c14
 by_cases c35 : (x9_2.length : Int) > 300
 {
 rw [if_pos c35] at H
 have c35b0 : decide (300 < (x9_2.length : Int)) = true := decide_eq_true c35
 have c35b1 : decide (300 < x9_2.length) = true := decide_eq_true (by omega)
 clear c35
 obtain ⟨y444, hy444⟩ : ∃ y_ : List ByteArray, y_ = (([] : List ByteArray)) := ⟨_, rfl⟩
 replace H : (some (y444, 3)) = some (r1, r2) := by first | (rw [hy444]; with_reducible exact H) | (have H2_ := (Option.bind_some _ _).symm.trans H; rw [hy444]; with_reducible exact H2_) | (have H2_ := (Option.bind_some _ _).symm.trans H; with_reducible exact H2_) | with_reducible exact H | (rw [hy444]; exact H) | exact H
 have Ny444 := ak hy444
 clear hy444
 simp only [Option.some.injEq, Prod.mk.injEq] at H
 obtain ⟨rfl, rfl⟩ := H
 obtain ⟨Ao36, co36, eo36⟩ := Kd.R_slice HO_7.out
 subst eo36
 obtain ⟨Ao37, co37, eo37⟩ := Kd.R_slice HO_9.out
 subst eo37
 go_wp2_with (first | ((with_reducible refine gate_dst (N := 68) rfl ?_); refine Kd.R_lit Kd.string _ 9 ?hg (N := 68) ?hd (xs := ([] : List ByteArray)) (inner := []) (ok := fun _ => True) (okp := fun _ => True) ?hr ?hp (fun _ hk => hk) trivial (Below.refl _ _) (Nat.le_refl _) (by simp) ?_; (case hd => rfl); (case hg => rfl); (case hr => first | (go_simp; done) | (go_simp; rfl)); (case hp => exact (Reps.none _ _)); intro v445 w38 ho39 hb hg_ hnew_; clear hg_ hnew_; (first | rw [← Ny444.out] at ho39 | (simp only [Int.reduceToNat] at ho39; rw [← Ny444.out] at ho39)); have HO446 := ak (Kd.R_lower (Kd.R_new' (Kd.R_new' ho39 (Kd.R_lt (zR HO_7.out))) (Kd.R_lt (zR HO_9.out))) (below_size (zB HB.out))); replace HO_7 := kE HO_7 ho39 hb; replace HO_9 := kE HO_9 ho39 hb; replace HB := kB HB hb; clear hb ho39))
 go_ret2
 exact ⟨_, by first | rfl | (simp [errW_none, errW_some] <;> rfl) | (simp [*, errW_none, errW_some] <;> rfl), by (with_reducible repeat (first | apply Kd.R_alloc | apply Kd.R_drewN | apply Kd.R_drew)); exact Kd.R_mono HO446.out (fun _ hk => trivial), zB HB.out⟩
 }
 {
 rw [if_neg c35] at H
 have c35b0 : decide (300 < (x9_2.length : Int)) = false := decide_eq_false c35
 have c35b1 : decide (300 < x9_2.length) = false := decide_eq_false (by omega)
 clear c35
 have H' := ak H
 clear H
 obtain ⟨Ao40, co40, eo40⟩ := Kd.R_slice HO_7.out
 subst eo40
 obtain ⟨Ao41, co41, eo41⟩ := Kd.R_slice HO_9.out
 subst eo41
 go_wp2
 go_roundg k2
 case measure => have := HK1.out; have := HK2.out; omega
 case rel => exact ⟨(x9_2), (wrap64 (x8_1 - 1)), (by first | rfl | (simp; done) | (simp [*]; done)), H', ⟨by have := HK1.out; have := HK2.out; omega⟩, ⟨by (with_reducible repeat (first | apply Kd.R_alloc | apply Kd.R_drewN | apply Kd.R_drew)); exact Kd.R_mono HO_9.out (fun _ hk => trivial)⟩, ⟨zB HB.out⟩⟩
 }
 }
 )
 )
 }
 {
 rw [if_neg c11] at H
 have c11b0 : decide (0 ≤ x8_1) = false := decide_eq_false c11
 clear c11
 simp only [Option.some.injEq, Prod.mk.injEq] at H
 obtain ⟨rfl, rfl⟩ := H
 go_wp2
 go_ret2
 exact ⟨_, by first | rfl | (simp [errW_none, errW_some] <;> rfl) | (simp [*, errW_none, errW_some] <;> rfl), by (with_reducible repeat (first | apply Kd.R_alloc | apply Kd.R_drewN | apply Kd.R_drew)); exact HO_7.out, zB HB.out⟩
 }
 )
 )
 }
 {
 rw [if_neg c4] at H
 have c4b0 : (t434 == 0) = false := beq_eq_false_iff_ne.mpr c4
 have c4b1 : (t434 != 0) = true := bne_iff_ne.mpr c4
 obtain ⟨y435, hy435⟩ : ∃ y_ : List ByteArray, y_ = (([] : List ByteArray)) := ⟨_, rfl⟩
 replace H : (some (y435, t434)) = some (r1, r2) := by first | (rw [hy435]; with_reducible exact H) | (have H2_ := (Option.bind_some _ _).symm.trans H; rw [hy435]; with_reducible exact H2_) | (have H2_ := (Option.bind_some _ _).symm.trans H; with_reducible exact H2_) | with_reducible exact H | (rw [hy435]; exact H) | exact H
 have Ny435 := ak hy435
 clear hy435
 simp only [Option.some.injEq, Prod.mk.injEq] at H
 obtain ⟨rfl, rfl⟩ := H
 go_enter Tryz.func25, Tryz.ntmps25
 go_wp2_with (first | ((with_reducible refine gate_dst (N := 16) rfl ?_); refine Kd.R_lit Kd.string _ 9 ?hg (N := 16) ?hd (xs := ([a1] : List ByteArray)) (inner := [.string a1]) (ok := fun _ => True) (okp := fun _ => True) ?hr ?hp (fun _ hk => hk) trivial (Below.refl _ _) (Nat.le_refl _) (by simp) ?_; (case hd => rfl); (case hg => rfl); (case hr => first | (go_simp; done) | (go_simp; rfl)); (case hp => exact (Reps.one (show Kd.M Kd.string _ _ _ a1 [.string a1] from rfl) (Reps.none _ _))); intro v432 w42 ho43 hb hg_ hnew_; clear hg_ hnew_; (first | rw [← Ny431.out] at ho43 | (simp only [Int.reduceToNat] at ho43; rw [← Ny431.out] at ho43)); have HO433 := ak (Kd.R_lower ho43 (below_size (zB HB.out))); replace HB := kB HB hb; clear hb ho43; obtain ⟨Ao44, co44, eo44⟩ := Kd.R_slice HO433.out; subst eo44) | ((with_reducible refine gate_callee (f := 34) rfl ?_); refine goesL_ (some 17) rfl rfl Tryz.func34 (by kernel_rfl) rfl #[.slice A0 l0.length c0, .slice Ao44 y431.length co44] rfl gl_ ?_; (with_reducible refine (spec_l04Asked.calls k _ _ l0 _ _ y431 t434 _ ?side1 ?side2 ?side3 ?side4 A3.out).mono ?_); (case side1 => exact sQ (Kd.C_below HR0.out HB.out)); (case side2 => exact HC0.out); (case side3 => exact sC HO433); (case side4 => exact sL HO433); rintro e w45 ⟨rfl, hb⟩; refine ⟨_, rfl, ?_⟩; replace HO433 := kR HO433 hb; replace HB := kB HB hb; (try clear hb)) | ((with_reducible refine gate_dst (N := 20) rfl ?_); refine Kd.R_lit Kd.string _ 9 ?hg (N := 20) ?hd (xs := ([] : List ByteArray)) (inner := []) (ok := fun _ => True) (okp := fun _ => True) ?hr ?hp (fun _ hk => hk) trivial (Below.refl _ _) (Nat.le_refl _) (by simp) ?_; (case hd => rfl); (case hg => rfl); (case hr => first | (go_simp; done) | (go_simp; rfl)); (case hp => exact (Reps.none _ _)); intro v436 w46 ho47 hb hg_ hnew_; clear hg_ hnew_; (first | rw [← Ny435.out] at ho47 | (simp only [Int.reduceToNat] at ho47; rw [← Ny435.out] at ho47)); have HO437 := ak (Kd.R_lower (Kd.R_new' ho47 (Kd.R_lt (zR HO433.out))) (below_size (zB HB.out))); replace HO433 := kE HO433 ho47 hb; replace HB := kB HB hb; clear hb ho47))
 go_ret2
 exact ⟨_, by first | rfl | (simp [errW_none, errW_some] <;> rfl) | (simp [*, errW_none, errW_some] <;> rfl), by (with_reducible repeat (first | apply Kd.R_alloc | apply Kd.R_drewN | apply Kd.R_drew)); exact Kd.R_mono HO437.out (fun _ hk => trivial), zB HB.out⟩
 }
/-! ### impl_RoundUntil: function 26 -/
def impl_RoundUntil.F (k : Nat) (l0 : List S40) (a977_0 : Int) (x : ByteArray) : Option ByteArray := (impl_passed.f k l0 x a977_0).bind fun y => (if y.size ≤ maxLen then some y else none)
def impl_RoundUntil.f (k : Nat) (l0 : List S40) (a1 : ByteArray) (a977_0 : Int) : Option (Int × Int × Int) := (impl_chainCode.f k l0 [a1]).bind fun t => (if t = 0 then (if a1.size ≤ maxLen then (match Go.Proofs.YtobickehjnogjaaGreatDoor.H.roundF (impl_RoundUntil.F k l0 a977_0) (min k 4611686018427387900) [] a1 with | some r => some (r.1, r.2, (0 : Int)) | none => none) else none) else some ((0 : Int), (0 : Int), t))
set_option maxHeartbeats 8000000 in
set_option maxRecDepth 1000000 in
theorem impl_RoundUntil.calls (k : Nat) (A0 : Option Addr) (c0 : Nat) (l0 : List S40) (a1 : ByteArray) (a977_0 : Int) (r1 r2 r3 : Int) (w : World) (hr0 : Kd.C k40 w A0 l0.length l0) (hc0 : l0.length ≤ c0) (hx977 : w.heap[0]? = some (.cells #[.int .i64 a977_0] 3 (0, 0))) (h : impl_RoundUntil.f k l0 a1 a977_0 = some (r1, r2, r3)) :
    Calls Tryz.prog 26 #[.slice A0 l0.length c0, .string a1] w fun e w' => e = .returned (.tuple #[.int .i64 r1, .int .i64 r2, .int .i64 r3]) ∧ Below w.heap.size w w' := by
 unfold impl_RoundUntil.f at h
 have h0 : 0 < w.heap.size := (Array.getElem?_eq_some_iff.1 hx977).1
 obtain ⟨t, ht, h⟩ := Option.bind_eq_some_iff.mp h
 have hchain : ∀ W A, Below w.heap.size w W → Kd.C Kd.string W A 1 [a1] → Calls Tryz.prog 32 #[.slice A0 l0.length c0, .slice A 1 1] W fun e w' => e = .returned (.int .i64 t) ∧ Below W.heap.size W w' := fun W A q hA => (
 impl_chainCode.calls k A0 c0 l0 A 1 [a1] t W (Kd.C_below hr0 q) hc0 hA (Nat.le_refl _) ht
 )
 by_cases c : t = 0
 {
 rw [if_pos c] at h
 subst c
 by_cases c1 : a1.size ≤ maxLen
 {
 rw [if_pos c1] at h
 cases hq : Go.Proofs.YtobickehjnogjaaGreatDoor.H.roundF (impl_RoundUntil.F k l0 a977_0) (min k 4611686018427387900) [] a1 with
 | none => rw [hq] at h; exact absurd h (by simp)
 | some v => (
 rw [hq] at h
 obtain ⟨rfl, h2⟩ := Prod.mk.inj (Option.some.inj h)
 obtain ⟨rfl, rfl⟩ := Prod.mk.inj h2
 refine Go.Proofs.YtobickehjnogjaaGreatDoor.H.roundUntil_calls A0 l0.length c0 a1 w (impl_RoundUntil.F k l0 a977_0) (min k 4611686018427387900) v.1 v.2 (by omega) hq c1 (fun x y hy => ?_) hchain (fun W x y q hy => ?_)
 {
 unfold impl_RoundUntil.F at hy
 obtain ⟨z, hz, h3⟩ := Option.bind_eq_some_iff.1 hy
 by_cases c2 : z.size ≤ maxLen
 · rw [if_pos c2] at h3; obtain rfl := Option.some.inj h3; exact c2
 · rw [if_neg c2] at h3; exact absurd h3 (by simp)
 }
 {
 unfold impl_RoundUntil.F at hy
 obtain ⟨z, hz, h3⟩ := Option.bind_eq_some_iff.1 hy
 by_cases c2 : z.size ≤ maxLen
 · rw [if_pos c2] at h3; obtain rfl := Option.some.inj h3; exact impl_passed.calls k A0 c0 l0 x a977_0 z W (Kd.C_below hr0 q) hc0 ((q.block 0 h0).trans hx977) hz
 · rw [if_neg c2] at h3; exact absurd h3 (by simp)
 }
 )
 }
 · rw [if_neg c1] at h; exact absurd h (by simp)
 }
 · rw [if_neg c] at h; obtain ⟨rfl, h2⟩ := Prod.mk.inj (Option.some.inj h); obtain ⟨rfl, rfl⟩ := Prod.mk.inj h2; exact Go.Proofs.YtobickehjnogjaaGreatDoor.H.roundUntil_err A0 l0.length c0 a1 w t c hchain
end Go.Proofs.YtobickehjnogjaaGreatDoor.P
