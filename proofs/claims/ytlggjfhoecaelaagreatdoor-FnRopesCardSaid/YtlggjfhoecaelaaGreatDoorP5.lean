-- Printed by wip/print (my turned copy of the kit's print) out of the translation; Lean checks it.
import Derived.Test.YtlggjfhoecaelaaGreatDoorP0
import Derived.Test.YtlggjfhoecaelaaGreatDoorP4
namespace Go.Proofs.YtlggjfhoecaelaaGreatDoor.P
open Go.RowKit Go.Proofs.YtlggjfhoecaelaaGreatDoorW.PrintWords Go.Proofs.YtlggjfhoecaelaaGreatDoorW.PrintLast Go.Proofs.YtlggjfhoecaelaaGreatDoorW.PrintMore
attribute [local go_sem] max2_int min2_int max_two min_two max_three min_three max_four min_four   -- for this text's walks alone
set_option linter.unusedVariables false
set_option linter.unusedSimpArgs false

/-! ### spec_l03Ok: function 39 -/
mutual
def spec_l03Ok.j0 : Nat → Int → Bool → Int → List Int → Option (Bool)
  | 0, _, _, _, _ => none
  | k + 1, x3, AC, AA, AB => if AC = true then (some false) else (spec_l03Ok.l0 k x3 1 AA AB)
def spec_l03Ok.l0 : Nat → Int → Int → Int → List Int → Option (Bool)
  | 0, _, _, _, _ => none
  | k + 1, x3, x4, AB, AA => if x4 < x3 then (if 0 ≤ x4 then (if x4 < (AA.length : Int) then (if 0 ≤ (wrap64 (x4 - 1)) then (if (wrap64 (x4 - 1)) < (AA.length : Int) then (if (rd AA x4) ≤ (rd AA (wrap64 (x4 - 1))) then (some false) else (spec_l03Ok.l0 k x3 (wrap64 (x4 + 1)) AB AA)) else (none)) else (none)) else (none)) else (none)) else (some true)
end
def spec_l03Ok.f (k : Nat) (AB : Int) (AA : List Int) : Option (Bool) := (spec_l00In.f (wrap64 (AB)) 1 400).bind fun AC => (if AC = true then (if (AA.length : Int) < 2 then (spec_l03Ok.j0 k (AA.length : Int) true AB AA) else (if (AA.length : Int) > 40 then (spec_l03Ok.j0 k (AA.length : Int) true AB AA) else (if 0 < (AA.length : Int) then (if (rd AA 0) = 0 then (if 0 ≤ (wrap64 ((AA.length : Int) - 1)) then (if (wrap64 ((AA.length : Int) - 1)) < (AA.length : Int) then (spec_l03Ok.j0 k (AA.length : Int) ((rd AA (wrap64 ((AA.length : Int) - 1))) != AB) AB AA) else (none)) else (none)) else (spec_l03Ok.j0 k (AA.length : Int) true AB AA)) else (none)))) else (spec_l03Ok.j0 k (AA.length : Int) true AB AA))
def spec_l03Ok.T2 : Bool × List (List Nat × List Nat) := (true, [([], []), ([0], [0]), ([1], [1]), ([2], [2]), ([3], [3]), ([4], [4]), ([5], [5]), ([6, 5], [6]), ([7], [7]), ([8, 7], [7, 8]), ([7, 9], [7, 9]), ([10, 7], [10]), ([11], [11]), ([12, 11], [11, 12]), ([11, 13], [11, 13]), ([14, 11], [14]), ([15], [15]), ([16, 15], [15, 16]), ([17, 15], [15, 17]), ([18, 15], [15, 18]), ([19, 15], [15, 19]), ([20, 15], [15, 20]), ([21, 15], [15, 21]), ([15, 22], [15, 22]), ([23, 15], [23]), ([24], [24]), ([25, 24], [24, 25]), ([26, 24], [24, 26]), ([27, 24], [24, 27]), ([24], [24]), ([29, 24], [24, 29]), ([28, 30, 24], [24, 28, 30]), ([31, 24], [24, 31]), ([24], [24]), ([33, 24], [24, 33]), ([34, 24], [24, 34]), ([35, 24], [24, 35]), ([32, 36, 24], [24, 32, 36]), ([24, 37], [24, 37])])
def spec_l03Ok.B2 : List Nat := [0, 1, 3, 7, 15, 31, 63, 127, 255, 511, 1023, 2047, 4095, 8191, 16383, 32767, 65535, 131071, 262143, 524287, 1048575, 2097151, 4194303, 8388607, 16777215, 33554431, 67108863, 134217727, 268435455, 33554431, 570425343, 2147483647, 4294967295, 33554431, 8623489023, 25803358207, 60163096575, 137438953471, 274877906943]
theorem spec_l03Ok.tab2 : rtab .any (opsOf Tryz.f39 2) = spec_l03Ok.T2 := by kernel_rfl
theorem spec_l03Ok.bits2 : waitsOk spec_l03Ok.T2.2 spec_l03Ok.B2 = true := by kernel_rfl
def spec_l03Ok.T7 : Bool × List (List Nat × List Nat) := (true, [([], []), ([0], [0]), ([1], [1]), ([2], [2]), ([], []), ([3, 4], [3, 4]), ([5], [5]), ([], []), ([7], [7]), ([8], [8]), ([9], [9]), ([], []), ([11], [11]), ([10, 12], [10, 12]), ([13], [13]), ([6, 14], [6, 14])])
def spec_l03Ok.B7 : List Nat := [0, 1, 3, 7, 0, 31, 63, 0, 128, 384, 896, 0, 2048, 8064, 16256, 32767]
theorem spec_l03Ok.tab7 : rtab .any (opsOf Tryz.f39 7) = spec_l03Ok.T7 := by kernel_rfl
theorem spec_l03Ok.bits7 : waitsOk spec_l03Ok.T7.2 spec_l03Ok.B7 = true := by kernel_rfl
set_option maxHeartbeats 8000000 in
set_option maxRecDepth 100000 in
theorem spec_l03Ok.calls (k : Nat) (b0 : Nat) (AH : Int) (AT : Option Addr) (AN : Nat) (AA : List Int) (r : Bool) (w : World) (Ae : Kd.C (Kd.int .i16) w AT AA.length AA) (Af : AA.length ≤ AN) (BL : w.heap[b0]? = some (.cells #[.int .i16 AH, .slice AT AA.length AN] 27 (0, 0))) (h : spec_l03Ok.f k AH AA = some r) :
    Calls Tryz.prog 39 #[.pointer (some ⟨b0, 0, none⟩)] w fun e w' => e = .returned (.bool r) ∧ Below w.heap.size w w' := by
 have AR := ak Ae
 have BM := ak Af
 clear Ae Af
 have AF := ak BL
 clear BL
 have HB := ak (Below.refl w.heap.size w)
 have H := h
 unfold spec_l03Ok.f at H
 clear h
 have BC := ak H
 clear H
 have BD : w.cell? ⟨b0, 0, none⟩ = some (.int .i16 AH) := (blk_cell AF.out 0).trans rfl
 have A2 : w.cell? ⟨b0, 1, none⟩ = some (.slice AT AA.length AN) := (blk_cell AF.out 1).trans rfl
 have BB := blk_frozen AF.out 0
 have A7 := blk_frozen AF.out 1
 go_enter Tryz.func39, Tryz.ntmps39
 go_upto_region 2 with (fail)
 go_cut [48] (fun BT wc => ∃ (kq : Nat) (Ab : Bool), BT = .bool Ab ∧ Aside0 (spec_l03Ok.j0 kq (AA.length : Int) Ab AH AA = some r) ∧ Aside0 (kq ≤ k) ∧ Aside0 (wc.heap[b0]? = some (.cells #[.int .i16 AH, (.slice AT AA.length AN)] 27 (0, 0))) ∧ Aside0 (Below w.heap.size w wc))
 case first => (
 have H := BC.out
 clear BC
 replace H := Option.bind_eq_some_iff.mp H
 obtain ⟨A6, BP, H⟩ := H
 have A4 := ak BP
 clear BP
 by_cases c5 : A6 = true
 {
 subst c5
 rw [if_pos rfl] at H
 by_cases c6 : (AA.length : Int) < 2
 {
 rw [if_pos c6] at H
 have Ad : decide ((AA.length : Int) < 2) = true := decide_eq_true c6
 have A9 : decide (AA.length < 2) = true := decide_eq_true (by omega)
 clear c6
 (first | rw [Ad] | (simp only [i64_w, i32_w]; rw [Ad]) | skip)
 have H' := ak H
 clear H
 try go_wp2
 replace AF := ak (blk_drew AF.out)
 replace HB := ak (below_drew1 HB.out)
 refine start_ (n := 39) (S := fun w' => w'.cell? ⟨b0, 0, none⟩ = some (.int .i16 AH) ∧ w'.cell? ⟨b0, 1, none⟩ = some (.slice AT AA.length AN)) (ds := []) (bA 39 0) (by kernel_rfl) rfl rfl ⟨(blk_cell AF.out 0).trans rfl, (blk_cell AF.out 1).trans rfl⟩ (fun hHeld => ?_); refine with_tabW spec_l03Ok.tab2 spec_l03Ok.bits2 (fun HT_ HW_ => ?_)
 generalize w.drew = w7 at AF HB hHeld ⊢
 refine pU 0 10 (bA 39 1) HT_ ?_
 refine pU 1 11 (bA 39 3) HT_ ?_
 refine pU 2 12 (bA 39 7) HT_ ?_
 refine tK 3 13 (bA 39 15) HT_ HW_ hHeld ?_
 refine pU 4 14 (bA 39 31) HT_ ?_
 refine one_ (i := 5) (N := some 15) (bA 39 63) rfl rfl (one_of HT_.out (by kernel_rfl)) (by decide) (fun K hK => ?_)
 refine goes_ Tryz.func48 (by kernel_rfl) rfl #[.int .i64 (wrap64 (AH)), .int .i64 1, .int .i64 400] (by rfl) rfl rfl gl_ ?_
 with_reducible refine (spec_l00In.calls (wrap64 (AH)) 1 400 true _ A4.out).mono ?_
 rintro e w' ⟨rfl, ⟨nd, rfl⟩⟩
 refine ⟨_, rfl, ?_⟩
 refine hK.out _ _ ⟨(blk_cell AF.out 0).trans rfl, (blk_cell AF.out 1).trans rfl⟩ (fun hHeld => ?_)
 clear hK K
 refine norm_ (a' := ?_) ?_ ?_
 rotate_left
 {
 show Act.put _ (some 15) _ = _
 simp only [Act.put, zs, zz, zk, i64_w, i32_w]
 rfl
 }
 refine pU 6 16 (bA 39 127) HT_ ?_
 refine pU 7 17 (bA 39 255) HT_ ?_
 refine pU 8 18 (bA 39 511) HT_ ?_
 refine pU 9 19 (bA 39 1023) HT_ ?_
 refine pU 10 20 (bA 39 2047) HT_ ?_
 refine pU 11 21 (bA 39 4095) HT_ ?_
 refine pN 12 22 (bA 39 8191) HT_ ?_
 refine pN 13 23 (bA 39 16383) HT_ ?_
 refine pU 14 24 (bA 39 32767) HT_ ?_
 refine pU 15 25 (bA 39 65535) HT_ ?_
 refine pN 16 26 (bA 39 131071) HT_ ?_
 refine pN 17 27 (bA 39 262143) HT_ ?_
 refine pN 18 28 (bA 39 524287) HT_ ?_
 refine pN 19 29 (bA 39 1048575) HT_ ?_
 refine pN 20 30 (bA 39 2097151) HT_ ?_
 refine pN 21 31 (bA 39 4194303) HT_ ?_
 refine pN 22 32 (bA 39 8388607) HT_ ?_
 refine pU 23 33 (bA 39 16777215) HT_ ?_
 refine pU 24 34 (bA 39 33554431) HT_ ?_
 refine pN 25 35 (bA 39 67108863) HT_ ?_
 refine pN 26 36 (bA 39 134217727) HT_ ?_
 refine pN 27 37 (bA 39 268435455) HT_ ?_
 refine pN 28 38 (bA 39 536870911) HT_ ?_
 refine pN 29 39 (bA 39 1073741823) HT_ ?_
 refine pN 30 40 (bA 39 2147483647) HT_ ?_
 refine pN 31 41 (bA 39 4294967295) HT_ ?_
 refine pN 32 42 (bA 39 8589934591) HT_ ?_
 refine pN 33 43 (bA 39 17179869183) HT_ ?_
 refine pN 34 44 (bA 39 34359738367) HT_ ?_
 refine pN 35 45 (bA 39 68719476735) HT_ ?_
 refine pN 36 46 (bA 39 137438953471) HT_ ?_
 refine pN 37 47 (bA 39 274877906943) HT_ ?_
 refine pU 38 48 (bA 39 549755813887) HT_ ?_
 refine done_ (done_of HT_.out (by kernel_rfl)) ?_
 try go_wp2
 go_meet
 case rel => exact ⟨_, (true), rfl, H', ⟨by omega⟩, ⟨(zK AF.out)⟩, ⟨zB HB.out⟩⟩
 }
 {
 rw [if_neg c6] at H
 have Ad : decide ((AA.length : Int) < 2) = false := decide_eq_false c6
 have A9 : decide (AA.length < 2) = false := decide_eq_false (by omega)
 clear c6
 (first | rw [Ad] | (simp only [i64_w, i32_w]; rw [Ad]) | skip)
 by_cases c8 : (AA.length : Int) > 40
 {
 rw [if_pos c8] at H
 have A8 : decide (40 < (AA.length : Int)) = true := decide_eq_true c8
 have BE : decide (40 < AA.length) = true := decide_eq_true (by omega)
 clear c8
 have H' := ak H
 clear H
 try go_wp2
 replace AF := ak (blk_drew AF.out)
 replace HB := ak (below_drew1 HB.out)
 refine start_ (n := 39) (S := fun w' => w'.cell? ⟨b0, 0, none⟩ = some (.int .i16 AH) ∧ w'.cell? ⟨b0, 1, none⟩ = some (.slice AT AA.length AN)) (ds := []) (bA 39 0) (by kernel_rfl) rfl rfl ⟨(blk_cell AF.out 0).trans rfl, (blk_cell AF.out 1).trans rfl⟩ (fun hHeld => ?_); refine with_tabW spec_l03Ok.tab2 spec_l03Ok.bits2 (fun HT_ HW_ => ?_)
 generalize w.drew = w9 at AF HB hHeld ⊢
 refine pU 0 10 (bA 39 1) HT_ ?_
 refine pU 1 11 (bA 39 3) HT_ ?_
 refine pU 2 12 (bA 39 7) HT_ ?_
 refine tK 3 13 (bA 39 15) HT_ HW_ hHeld ?_
 refine pU 4 14 (bA 39 31) HT_ ?_
 refine one_ (i := 5) (N := some 15) (bA 39 63) rfl rfl (one_of HT_.out (by kernel_rfl)) (by decide) (fun K hK => ?_)
 refine goes_ Tryz.func48 (by kernel_rfl) rfl #[.int .i64 (wrap64 (AH)), .int .i64 1, .int .i64 400] (by rfl) rfl rfl gl_ ?_
 with_reducible refine (spec_l00In.calls (wrap64 (AH)) 1 400 true _ A4.out).mono ?_
 rintro e w' ⟨rfl, ⟨nd, rfl⟩⟩
 refine ⟨_, rfl, ?_⟩
 refine hK.out _ _ ⟨(blk_cell AF.out 0).trans rfl, (blk_cell AF.out 1).trans rfl⟩ (fun hHeld => ?_)
 clear hK K
 refine norm_ (a' := ?_) ?_ ?_
 rotate_left
 {
 show Act.put _ (some 15) _ = _
 simp only [Act.put, zs, zz, zk, i64_w, i32_w]
 rfl
 }
 refine pU 6 16 (bA 39 127) HT_ ?_
 refine pU 7 17 (bA 39 255) HT_ ?_
 refine pU 8 18 (bA 39 511) HT_ ?_
 refine pU 9 19 (bA 39 1023) HT_ ?_
 refine pU 10 20 (bA 39 2047) HT_ ?_
 refine pU 11 21 (bA 39 4095) HT_ ?_
 refine pU 12 22 (bA 39 8191) HT_ ?_
 refine pU 13 23 (bA 39 16383) HT_ ?_
 refine pU 14 24 (bA 39 32767) HT_ ?_
 refine pU 15 25 (bA 39 65535) HT_ ?_
 refine pN 16 26 (bA 39 131071) HT_ ?_
 refine pN 17 27 (bA 39 262143) HT_ ?_
 refine pN 18 28 (bA 39 524287) HT_ ?_
 refine pN 19 29 (bA 39 1048575) HT_ ?_
 refine pN 20 30 (bA 39 2097151) HT_ ?_
 refine pN 21 31 (bA 39 4194303) HT_ ?_
 refine pN 22 32 (bA 39 8388607) HT_ ?_
 refine pU 23 33 (bA 39 16777215) HT_ ?_
 refine pU 24 34 (bA 39 33554431) HT_ ?_
 refine pN 25 35 (bA 39 67108863) HT_ ?_
 refine pN 26 36 (bA 39 134217727) HT_ ?_
 refine pN 27 37 (bA 39 268435455) HT_ ?_
 refine pN 28 38 (bA 39 536870911) HT_ ?_
 refine pN 29 39 (bA 39 1073741823) HT_ ?_
 refine pN 30 40 (bA 39 2147483647) HT_ ?_
 refine pN 31 41 (bA 39 4294967295) HT_ ?_
 refine pN 32 42 (bA 39 8589934591) HT_ ?_
 refine pN 33 43 (bA 39 17179869183) HT_ ?_
 refine pN 34 44 (bA 39 34359738367) HT_ ?_
 refine pN 35 45 (bA 39 68719476735) HT_ ?_
 refine pN 36 46 (bA 39 137438953471) HT_ ?_
 refine pN 37 47 (bA 39 274877906943) HT_ ?_
 refine pU 38 48 (bA 39 549755813887) HT_ ?_
 refine done_ (done_of HT_.out (by kernel_rfl)) ?_
 try go_wp2
 go_meet
 case rel => exact ⟨_, (true), rfl, H', ⟨by omega⟩, ⟨(zK AF.out)⟩, ⟨zB HB.out⟩⟩
 }
 {
 rw [if_neg c8] at H
 have A8 : decide (40 < (AA.length : Int)) = false := decide_eq_false c8
 have BE : decide (40 < AA.length) = false := decide_eq_false (by omega)
 clear c8
 by_cases Aw : 0 < (AA.length : Int)
 {
 rw [if_pos Aw] at H
 have BK : decide (0 < (AA.length : Int)) = true := decide_eq_true Aw
 have BG : decide (0 < AA.length) = true := decide_eq_true (by omega)
 clear Aw
 by_cases Ag : (rd AA 0) = 0
 {
 rw [if_pos Ag] at H
 have Ao : ((rd AA 0) == 0) = true := beq_iff_eq.mpr Ag
 have Ar : ((rd AA 0) != 0) = false := bne_eq_false_iff_eq.mpr Ag
 clear Ag
 obtain ⟨AP, AS⟩ : ∃ j_ : Int, (wrap64 ((AA.length : Int) - 1)) = j_ := ⟨_, rfl⟩
 first | rw [AS] at H | simp only [AS] at H
 (try rw [AS] at A4)
 have A3 : (IntKind.i64.wrap ((AA.length : Int) - 1)) = AP := (i64_w _).trans AS
 by_cases A1 : 0 ≤ (AP)
 {
 rw [if_pos A1] at H
 have BR : decide (0 ≤ (AP)) = true := decide_eq_true A1
 clear A1
 by_cases Ax : (AP) < (AA.length : Int)
 {
 rw [if_pos Ax] at H
 have BS : decide ((AP) < (AA.length : Int)) = true := decide_eq_true Ax
 clear Ax
 have H' := ak H
 clear H
 try go_wp2
 replace AF := ak (blk_drew AF.out)
 replace HB := ak (below_drew1 HB.out)
 have AY : 0 ≤ (0 : Int) := (by omega)
 have AV : 0 < (AA.length : Int) := of_decide_eq_true (by assumption)
 obtain ⟨AQ, Al, AB⟩ := Kd.at_int AR.out 0 AY AV
 have AC := AB
 (try rw [show ((0 : Int)).toNat = 0 from rfl] at AC)
 (try rw [show 0 * 1 = 0 from rfl] at AC)
 (try rw [Addr.add_zero'] at AC)
 cases Al
 have At : (0 < AA.length) = True := eq_true (by omega)
 (try rw [show ((0 : Int)).toNat = 0 from rfl] at AB)
 (try rw [Addr.add_zero'] at AB)
 replace AB := (HB.out.cell (World.block_lt_of_cell? w _ AB)).trans AB
 replace AY := eq_true AY
 replace AV := eq_true AV
 have Ai : 0 ≤ ((AP) : Int) := of_decide_eq_true (by assumption)
 have Aj : (AP) < (AA.length : Int) := of_decide_eq_true (by assumption)
 obtain ⟨Aq, BA, AJ⟩ := Kd.at_int AR.out (AP) Ai Aj
 have AO := AJ
 obtain rfl : AQ = Aq := (by injection BA)
 replace AJ := (HB.out.cell (World.block_lt_of_cell? w _ AJ)).trans AJ
 replace Ai := eq_true Ai
 replace Aj := eq_true Aj
 refine start_ (n := 39) (S := fun w' => w'.cell? ⟨b0, 0, none⟩ = some (.int .i16 AH) ∧ w'.cell? ⟨b0, 1, none⟩ = some (.slice (some AQ) AA.length AN) ∧ w'.cell? AQ = some (.int .i16 (rd AA 0)) ∧ w'.cell? (AQ.add ((AP)).toNat) = some (.int .i16 (rd AA (AP)))) (ds := []) (bA 39 0) (by kernel_rfl) rfl rfl ⟨(blk_cell AF.out 0).trans rfl, (blk_cell AF.out 1).trans rfl, ((HB.out.cell (World.block_lt_of_cell? w _ AC)).trans AC), ((HB.out.cell (World.block_lt_of_cell? w _ AO)).trans AO)⟩ (fun hHeld => ?_); refine with_tabW spec_l03Ok.tab2 spec_l03Ok.bits2 (fun HT_ HW_ => ?_)
 generalize w.drew = BY at AF HB AB AJ hHeld ⊢
 refine pU 0 10 (bA 39 1) HT_ ?_
 refine pU 1 11 (bA 39 3) HT_ ?_
 refine pU 2 12 (bA 39 7) HT_ ?_
 refine tK 3 13 (bA 39 15) HT_ HW_ hHeld ?_
 refine pU 4 14 (bA 39 31) HT_ ?_
 refine one_ (i := 5) (N := some 15) (bA 39 63) rfl rfl (one_of HT_.out (by kernel_rfl)) (by decide) (fun K hK => ?_)
 refine goes_ Tryz.func48 (by kernel_rfl) rfl #[.int .i64 (wrap64 (AH)), .int .i64 1, .int .i64 400] (by rfl) rfl rfl gl_ ?_
 with_reducible refine (spec_l00In.calls (wrap64 (AH)) 1 400 true _ A4.out).mono ?_
 rintro e w' ⟨rfl, ⟨nd, rfl⟩⟩
 refine ⟨_, rfl, ?_⟩
 refine hK.out _ _ ⟨(blk_cell AF.out 0).trans rfl, (blk_cell AF.out 1).trans rfl, ((HB.out.cell (World.block_lt_of_cell? w _ AC)).trans AC), ((HB.out.cell (World.block_lt_of_cell? w _ AO)).trans AO)⟩ (fun hHeld => ?_)
 clear hK K
 refine norm_ (a' := ?_) ?_ ?_
 rotate_left
 {
 show Act.put _ (some 15) _ = _
 simp only [Act.put, zs, zz, zk, i64_w, i32_w]
 rfl
 }
 refine pU 6 16 (bA 39 127) HT_ ?_
 refine pU 7 17 (bA 39 255) HT_ ?_
 refine pU 8 18 (bA 39 511) HT_ ?_
 refine pU 9 19 (bA 39 1023) HT_ ?_
 refine pU 10 20 (bA 39 2047) HT_ ?_
 refine pU 11 21 (bA 39 4095) HT_ ?_
 refine pU 12 22 (bA 39 8191) HT_ ?_
 refine pU 13 23 (bA 39 16383) HT_ ?_
 refine pU 14 24 (bA 39 32767) HT_ ?_
 refine pU 15 25 (bA 39 65535) HT_ ?_
 refine pU 16 26 (bA 39 131071) HT_ ?_
 refine pU 17 27 (bA 39 262143) HT_ ?_
 refine pU 18 28 (bA 39 524287) HT_ ?_
 refine tK 19 29 (bA 39 1048575) HT_ HW_ hHeld ?_
 refine pU 20 30 (bA 39 2097151) HT_ ?_
 refine tK 21 31 (bA 39 4194303) HT_ HW_ hHeld ?_
 refine pU 22 32 (bA 39 8388607) HT_ ?_
 refine pU 23 33 (bA 39 16777215) HT_ ?_
 refine pU 24 34 (bA 39 33554431) HT_ ?_
 refine pU 25 35 (bA 39 67108863) HT_ ?_
 refine pU 26 36 (bA 39 134217727) HT_ ?_
 refine pU 27 37 (bA 39 268435455) HT_ ?_
 refine pU 29 39 (bA 39 805306367) HT_ ?_
 refine pU 30 40 (bA 39 1879048191) HT_ ?_
 refine pU 33 43 (bA 39 10468982783) HT_ ?_
 refine pU 34 44 (bA 39 27648851967) HT_ ?_
 refine pU 35 45 (bA 39 62008590335) HT_ ?_
 refine tK 28 38 (bA 39 62277025791) HT_ HW_ hHeld ?_
 refine pU 31 41 (bA 39 64424509439) HT_ ?_
 refine tK 32 42 (bA 39 68719476735) HT_ HW_ hHeld ?_
 refine tK 36 46 (bA 39 137438953471) HT_ HW_ hHeld ?_
 refine pU 37 47 (bA 39 274877906943) HT_ ?_
 refine pU 38 48 (bA 39 549755813887) HT_ ?_
 refine done_ (done_of HT_.out (by kernel_rfl)) ?_
 try go_wp2
 go_meet
 case rel => exact ⟨_, (((rd AA (AP)) != AH)), (by first | rfl | (simp; done) | (simp only [← AS] <;> (first | rfl | simp)) | (simp [*]; done)), H', ⟨by omega⟩, ⟨(zK AF.out)⟩, ⟨zB HB.out⟩⟩
 }
 · rw [if_neg Ax] at H; exact absurd H (by simp)
 }
 · rw [if_neg A1] at H; exact absurd H (by simp)
 }
 {
 rw [if_neg Ag] at H
 have Ao : ((rd AA 0) == 0) = false := beq_eq_false_iff_ne.mpr Ag
 have Ar : ((rd AA 0) != 0) = true := bne_iff_ne.mpr Ag
 have H' := ak H
 clear H
 try go_wp2
 replace AF := ak (blk_drew AF.out)
 replace HB := ak (below_drew1 HB.out)
 have AY : 0 ≤ (0 : Int) := (by omega)
 have AV : 0 < (AA.length : Int) := of_decide_eq_true (by assumption)
 obtain ⟨AQ, Al, AB⟩ := Kd.at_int AR.out 0 AY AV
 have AC := AB
 (try rw [show ((0 : Int)).toNat = 0 from rfl] at AC)
 (try rw [show 0 * 1 = 0 from rfl] at AC)
 (try rw [Addr.add_zero'] at AC)
 cases Al
 have At : (0 < AA.length) = True := eq_true (by omega)
 (try rw [show ((0 : Int)).toNat = 0 from rfl] at AB)
 (try rw [Addr.add_zero'] at AB)
 replace AB := (HB.out.cell (World.block_lt_of_cell? w _ AB)).trans AB
 replace AY := eq_true AY
 replace AV := eq_true AV
 refine start_ (n := 39) (S := fun w' => w'.cell? ⟨b0, 0, none⟩ = some (.int .i16 AH) ∧ w'.cell? ⟨b0, 1, none⟩ = some (.slice (some AQ) AA.length AN) ∧ w'.cell? AQ = some (.int .i16 (rd AA 0))) (ds := []) (bA 39 0) (by kernel_rfl) rfl rfl ⟨(blk_cell AF.out 0).trans rfl, (blk_cell AF.out 1).trans rfl, ((HB.out.cell (World.block_lt_of_cell? w _ AC)).trans AC)⟩ (fun hHeld => ?_); refine with_tabW spec_l03Ok.tab2 spec_l03Ok.bits2 (fun HT_ HW_ => ?_)
 generalize w.drew = BV at AF HB AB hHeld ⊢
 refine pU 0 10 (bA 39 1) HT_ ?_
 refine pU 1 11 (bA 39 3) HT_ ?_
 refine pU 2 12 (bA 39 7) HT_ ?_
 refine tK 3 13 (bA 39 15) HT_ HW_ hHeld ?_
 refine pU 4 14 (bA 39 31) HT_ ?_
 refine one_ (i := 5) (N := some 15) (bA 39 63) rfl rfl (one_of HT_.out (by kernel_rfl)) (by decide) (fun K hK => ?_)
 refine goes_ Tryz.func48 (by kernel_rfl) rfl #[.int .i64 (wrap64 (AH)), .int .i64 1, .int .i64 400] (by rfl) rfl rfl gl_ ?_
 with_reducible refine (spec_l00In.calls (wrap64 (AH)) 1 400 true _ A4.out).mono ?_
 rintro e w' ⟨rfl, ⟨nd, rfl⟩⟩
 refine ⟨_, rfl, ?_⟩
 refine hK.out _ _ ⟨(blk_cell AF.out 0).trans rfl, (blk_cell AF.out 1).trans rfl, ((HB.out.cell (World.block_lt_of_cell? w _ AC)).trans AC)⟩ (fun hHeld => ?_)
 clear hK K
 refine norm_ (a' := ?_) ?_ ?_
 rotate_left
 {
 show Act.put _ (some 15) _ = _
 simp only [Act.put, zs, zz, zk, i64_w, i32_w]
 rfl
 }
 refine pU 6 16 (bA 39 127) HT_ ?_
 refine pU 7 17 (bA 39 255) HT_ ?_
 refine pU 8 18 (bA 39 511) HT_ ?_
 refine pU 9 19 (bA 39 1023) HT_ ?_
 refine pU 10 20 (bA 39 2047) HT_ ?_
 refine pU 11 21 (bA 39 4095) HT_ ?_
 refine pU 12 22 (bA 39 8191) HT_ ?_
 refine pU 13 23 (bA 39 16383) HT_ ?_
 refine pU 14 24 (bA 39 32767) HT_ ?_
 refine pU 15 25 (bA 39 65535) HT_ ?_
 refine pU 16 26 (bA 39 131071) HT_ ?_
 refine pU 17 27 (bA 39 262143) HT_ ?_
 refine pU 18 28 (bA 39 524287) HT_ ?_
 refine tK 19 29 (bA 39 1048575) HT_ HW_ hHeld ?_
 refine pU 20 30 (bA 39 2097151) HT_ ?_
 refine tK 21 31 (bA 39 4194303) HT_ HW_ hHeld ?_
 refine pU 22 32 (bA 39 8388607) HT_ ?_
 refine pU 23 33 (bA 39 16777215) HT_ ?_
 refine pU 24 34 (bA 39 33554431) HT_ ?_
 refine pN 25 35 (bA 39 67108863) HT_ ?_
 refine pN 26 36 (bA 39 134217727) HT_ ?_
 refine pN 27 37 (bA 39 268435455) HT_ ?_
 refine pN 28 38 (bA 39 536870911) HT_ ?_
 refine pN 29 39 (bA 39 1073741823) HT_ ?_
 refine pN 30 40 (bA 39 2147483647) HT_ ?_
 refine pN 31 41 (bA 39 4294967295) HT_ ?_
 refine pN 32 42 (bA 39 8589934591) HT_ ?_
 refine pN 33 43 (bA 39 17179869183) HT_ ?_
 refine pN 34 44 (bA 39 34359738367) HT_ ?_
 refine pN 35 45 (bA 39 68719476735) HT_ ?_
 refine pN 36 46 (bA 39 137438953471) HT_ ?_
 refine pN 37 47 (bA 39 274877906943) HT_ ?_
 refine pU 38 48 (bA 39 549755813887) HT_ ?_
 refine done_ (done_of HT_.out (by kernel_rfl)) ?_
 try go_wp2
 go_meet
 case rel => exact ⟨_, (true), rfl, H', ⟨by omega⟩, ⟨(zK AF.out)⟩, ⟨zB HB.out⟩⟩
 }
 }
 · rw [if_neg Aw] at H; exact absurd H (by simp)
 }
 }
 }
 {
 replace c5 := Bool.eq_false_iff.mpr c5
 subst c5
 rw [if_neg (show ¬ (false = true) by decide)] at H
 have H' := ak H
 clear H
 try go_wp2
 replace AF := ak (blk_drew AF.out)
 replace HB := ak (below_drew1 HB.out)
 refine start_ (n := 39) (S := fun w' => w'.cell? ⟨b0, 0, none⟩ = some (.int .i16 AH) ∧ w'.cell? ⟨b0, 1, none⟩ = some (.slice AT AA.length AN)) (ds := []) (bA 39 0) (by kernel_rfl) rfl rfl ⟨(blk_cell AF.out 0).trans rfl, (blk_cell AF.out 1).trans rfl⟩ (fun hHeld => ?_); refine with_tabW spec_l03Ok.tab2 spec_l03Ok.bits2 (fun HT_ HW_ => ?_)
 generalize w.drew = BU at AF HB hHeld ⊢
 refine pU 0 10 (bA 39 1) HT_ ?_
 refine pU 1 11 (bA 39 3) HT_ ?_
 refine pU 2 12 (bA 39 7) HT_ ?_
 refine tK 3 13 (bA 39 15) HT_ HW_ hHeld ?_
 refine pU 4 14 (bA 39 31) HT_ ?_
 refine one_ (i := 5) (N := some 15) (bA 39 63) rfl rfl (one_of HT_.out (by kernel_rfl)) (by decide) (fun K hK => ?_)
 refine goes_ Tryz.func48 (by kernel_rfl) rfl #[.int .i64 (wrap64 (AH)), .int .i64 1, .int .i64 400] (by rfl) rfl rfl gl_ ?_
 with_reducible refine (spec_l00In.calls (wrap64 (AH)) 1 400 false _ A4.out).mono ?_
 rintro e w' ⟨rfl, ⟨nd, rfl⟩⟩
 refine ⟨_, rfl, ?_⟩
 refine hK.out _ _ ⟨(blk_cell AF.out 0).trans rfl, (blk_cell AF.out 1).trans rfl⟩ (fun hHeld => ?_)
 clear hK K
 refine norm_ (a' := ?_) ?_ ?_
 rotate_left
 {
 show Act.put _ (some 15) _ = _
 simp only [Act.put, zs, zz, zk, i64_w, i32_w]
 rfl
 }
 refine pU 6 16 (bA 39 127) HT_ ?_
 refine pU 7 17 (bA 39 255) HT_ ?_
 refine pN 8 18 (bA 39 511) HT_ ?_
 refine pN 9 19 (bA 39 1023) HT_ ?_
 refine pU 10 20 (bA 39 2047) HT_ ?_
 refine pU 11 21 (bA 39 4095) HT_ ?_
 refine pN 12 22 (bA 39 8191) HT_ ?_
 refine pN 13 23 (bA 39 16383) HT_ ?_
 refine pU 14 24 (bA 39 32767) HT_ ?_
 refine pU 15 25 (bA 39 65535) HT_ ?_
 refine pN 16 26 (bA 39 131071) HT_ ?_
 refine pN 17 27 (bA 39 262143) HT_ ?_
 refine pN 18 28 (bA 39 524287) HT_ ?_
 refine pN 19 29 (bA 39 1048575) HT_ ?_
 refine pN 20 30 (bA 39 2097151) HT_ ?_
 refine pN 21 31 (bA 39 4194303) HT_ ?_
 refine pN 22 32 (bA 39 8388607) HT_ ?_
 refine pU 23 33 (bA 39 16777215) HT_ ?_
 refine pU 24 34 (bA 39 33554431) HT_ ?_
 refine pN 25 35 (bA 39 67108863) HT_ ?_
 refine pN 26 36 (bA 39 134217727) HT_ ?_
 refine pN 27 37 (bA 39 268435455) HT_ ?_
 refine pN 28 38 (bA 39 536870911) HT_ ?_
 refine pN 29 39 (bA 39 1073741823) HT_ ?_
 refine pN 30 40 (bA 39 2147483647) HT_ ?_
 refine pN 31 41 (bA 39 4294967295) HT_ ?_
 refine pN 32 42 (bA 39 8589934591) HT_ ?_
 refine pN 33 43 (bA 39 17179869183) HT_ ?_
 refine pN 34 44 (bA 39 34359738367) HT_ ?_
 refine pN 35 45 (bA 39 68719476735) HT_ ?_
 refine pN 36 46 (bA 39 137438953471) HT_ ?_
 refine pN 37 47 (bA 39 274877906943) HT_ ?_
 refine pU 38 48 (bA 39 549755813887) HT_ ?_
 refine done_ (done_of HT_.out (by kernel_rfl)) ?_
 try go_wp2
 go_meet
 case rel => exact ⟨_, (true), rfl, H', ⟨by omega⟩, ⟨(zK AF.out)⟩, ⟨zB HB.out⟩⟩
 }
 )
 case rest => (
 clear BC
 obtain ⟨kq, Ab, rfl, HA, BQ, AF, HB⟩ := hcut
 cases kq with
 | zero => exact absurd HA.out (by simp [spec_l03Ok.j0])
 | succ BF => (
 have H := HA.out
 clear HA
 simp only [spec_l03Ok.j0] at H
 by_cases Au : Ab = true
 {
 subst Au
 rw [if_pos rfl] at H
 obtain rfl := Option.some.inj H
 go_wp2
 go_ret
 exact ⟨rfl, zB HB.out⟩
 }
 {
 replace Au := Bool.eq_false_iff.mpr Au
 subst Au
 rw [if_neg (show ¬ (false = true) by decide)] at H
 have H' := ak H
 clear H
 go_wp2
 go_loopg [4] BF (fun kq v4 w' => ∃ (AG : Int), v4 = .int .i64 AG ∧ Aside0 (spec_l03Ok.l0 kq (AA.length : Int) AG AH AA = some r) ∧ Aside0 (kq ≤ BF) ∧ Aside0 (w'.heap[b0]? = some (.cells #[.int .i16 AH, (.slice AT AA.length AN)] 27 (0, 0))) ∧ Aside0 (Below w.heap.size w w'))
 case atStart => exact ⟨(1), rfl, H', ⟨Nat.le_refl _⟩, ⟨(zK AF.out)⟩, ⟨zB HB.out⟩⟩
 case round => (
 clear H'
 obtain ⟨AG, rfl, HA, BN, AF, HB⟩ := hrel
 cases gk with
 | zero => exact absurd HA.out (by simp [spec_l03Ok.l0])
 | succ k2 => (
 have H := HA.out
 clear HA
 simp only [spec_l03Ok.l0] at H
 by_cases An : AG < (AA.length : Int)
 {
 rw [if_pos An] at H
 have As : decide (AG < (AA.length : Int)) = true := decide_eq_true An
 clear An
 by_cases A0 : 0 ≤ AG
 {
 rw [if_pos A0] at H
 have BO : decide (0 ≤ AG) = true := decide_eq_true A0
 clear A0
 by_cases Av : AG < (AA.length : Int)
 {
 rw [if_pos Av] at H
 have BH : decide (AG < (AA.length : Int)) = true := decide_eq_true Av
 clear Av
 obtain ⟨AI, Aa⟩ : ∃ j_ : Int, (wrap64 (AG - 1)) = j_ := ⟨_, rfl⟩
 first | rw [Aa] at H | simp only [Aa] at H
 have A5 : (IntKind.i64.wrap (AG - 1)) = AI := (i64_w _).trans Aa
 by_cases Ay : 0 ≤ (AI)
 {
 rw [if_pos Ay] at H
 have BJ : decide (0 ≤ (AI)) = true := decide_eq_true Ay
 clear Ay
 by_cases Az : (AI) < (AA.length : Int)
 {
 rw [if_pos Az] at H
 have BI : decide ((AI) < (AA.length : Int)) = true := decide_eq_true Az
 clear Az
 by_cases Am : (rd AA AG) ≤ (rd AA (AI))
 {
 rw [if_pos Am] at H
 have Ap : decide ((rd AA AG) ≤ (rd AA (AI))) = true := decide_eq_true Am
 clear Am
 obtain rfl := Option.some.inj H
 try go_wp2
 replace AF := ak (blk_drew AF.out)
 replace HB := ak (below_drew1 HB.out)
 have AZ : 0 ≤ (AG : Int) := of_decide_eq_true (by assumption)
 have AU : AG < (AA.length : Int) := of_decide_eq_true (by assumption)
 obtain ⟨AL, Ah, AD⟩ := Kd.at_int AR.out AG AZ AU
 have AM := AD
 cases Ah
 replace AD := (HB.out.cell (World.block_lt_of_cell? w _ AD)).trans AD
 replace AZ := eq_true AZ
 replace AU := eq_true AU
 have AX : 0 ≤ ((AI) : Int) := of_decide_eq_true (by assumption)
 have AW : (AI) < (AA.length : Int) := of_decide_eq_true (by assumption)
 obtain ⟨Ac, Ak, AE⟩ := Kd.at_int AR.out (AI) AX AW
 have AK := AE
 obtain rfl : AL = Ac := (by injection Ak)
 replace AE := (HB.out.cell (World.block_lt_of_cell? w _ AE)).trans AE
 replace AX := eq_true AX
 replace AW := eq_true AW
 refine start_ (n := 16) (S := fun w' => w'.cell? ⟨b0, 0, none⟩ = some (.int .i16 AH) ∧ w'.cell? ⟨b0, 1, none⟩ = some (.slice (some AL) AA.length AN) ∧ w'.cell? (AL.add (AG).toNat) = some (.int .i16 (rd AA AG)) ∧ w'.cell? (AL.add ((AI)).toNat) = some (.int .i16 (rd AA (AI)))) (ds := []) (bA 16 0) (by kernel_rfl) rfl rfl ⟨(blk_cell AF.out 0).trans rfl, (blk_cell AF.out 1).trans rfl, ((HB.out.cell (World.block_lt_of_cell? w _ AM)).trans AM), ((HB.out.cell (World.block_lt_of_cell? w _ AK)).trans AK)⟩ (fun hHeld => ?_); refine with_tabW spec_l03Ok.tab7 spec_l03Ok.bits7 (fun HT_ HW_ => ?_)
 generalize wr.drew = BW at AF HB AD AE hHeld ⊢
 refine pU 0 54 (bA 16 1) HT_ ?_
 refine pU 1 55 (bA 16 3) HT_ ?_
 refine pU 2 56 (bA 16 7) HT_ ?_
 refine pU 4 58 (bA 16 23) HT_ ?_
 refine pU 7 61 (bA 16 151) HT_ ?_
 refine pU 8 62 (bA 16 407) HT_ ?_
 refine pU 9 63 (bA 16 919) HT_ ?_
 refine pU 11 65 (bA 16 2967) HT_ ?_
 refine pU 12 66 (bA 16 7063) HT_ ?_
 refine tK 3 57 (bA 16 7071) HT_ HW_ hHeld ?_
 refine pU 5 59 (bA 16 7103) HT_ ?_
 refine tK 6 60 (bA 16 7167) HT_ HW_ hHeld ?_
 refine tK 10 64 (bA 16 8191) HT_ HW_ hHeld ?_
 refine pU 13 67 (bA 16 16383) HT_ ?_
 refine tK 14 68 (bA 16 32767) HT_ HW_ hHeld ?_
 refine pU 15 69 (bA 16 65535) HT_ ?_
 refine done_ (done_of HT_.out (by kernel_rfl)) ?_
 try go_wp2
 go_ret
 exact ⟨by first | rfl | (simp [errW_none, errW_some] <;> rfl) | (simp only [← Aa]; first | rfl | (simp [errW_none, errW_some] <;> rfl)) | (simp [*, errW_none, errW_some] <;> rfl), zB HB.out⟩
 }
 {
 rw [if_neg Am] at H
 have Ap : decide ((rd AA AG) ≤ (rd AA (AI))) = false := decide_eq_false Am
 clear Am
 have H' := ak H
 clear H
 try go_wp2
 replace AF := ak (blk_drew AF.out)
 replace HB := ak (below_drew1 HB.out)
 have AZ : 0 ≤ (AG : Int) := of_decide_eq_true (by assumption)
 have AU : AG < (AA.length : Int) := of_decide_eq_true (by assumption)
 obtain ⟨AL, Ah, AD⟩ := Kd.at_int AR.out AG AZ AU
 have AM := AD
 cases Ah
 replace AD := (HB.out.cell (World.block_lt_of_cell? w _ AD)).trans AD
 replace AZ := eq_true AZ
 replace AU := eq_true AU
 have AX : 0 ≤ ((AI) : Int) := of_decide_eq_true (by assumption)
 have AW : (AI) < (AA.length : Int) := of_decide_eq_true (by assumption)
 obtain ⟨Ac, Ak, AE⟩ := Kd.at_int AR.out (AI) AX AW
 have AK := AE
 obtain rfl : AL = Ac := (by injection Ak)
 replace AE := (HB.out.cell (World.block_lt_of_cell? w _ AE)).trans AE
 replace AX := eq_true AX
 replace AW := eq_true AW
 refine start_ (n := 16) (S := fun w' => w'.cell? ⟨b0, 0, none⟩ = some (.int .i16 AH) ∧ w'.cell? ⟨b0, 1, none⟩ = some (.slice (some AL) AA.length AN) ∧ w'.cell? (AL.add (AG).toNat) = some (.int .i16 (rd AA AG)) ∧ w'.cell? (AL.add ((AI)).toNat) = some (.int .i16 (rd AA (AI)))) (ds := []) (bA 16 0) (by kernel_rfl) rfl rfl ⟨(blk_cell AF.out 0).trans rfl, (blk_cell AF.out 1).trans rfl, ((HB.out.cell (World.block_lt_of_cell? w _ AM)).trans AM), ((HB.out.cell (World.block_lt_of_cell? w _ AK)).trans AK)⟩ (fun hHeld => ?_); refine with_tabW spec_l03Ok.tab7 spec_l03Ok.bits7 (fun HT_ HW_ => ?_)
 generalize wr.drew = BX at AF HB AD AE hHeld ⊢
 refine pU 0 54 (bA 16 1) HT_ ?_
 refine pU 1 55 (bA 16 3) HT_ ?_
 refine pU 2 56 (bA 16 7) HT_ ?_
 refine pU 4 58 (bA 16 23) HT_ ?_
 refine pU 7 61 (bA 16 151) HT_ ?_
 refine pU 8 62 (bA 16 407) HT_ ?_
 refine pU 9 63 (bA 16 919) HT_ ?_
 refine pU 11 65 (bA 16 2967) HT_ ?_
 refine pU 12 66 (bA 16 7063) HT_ ?_
 refine tK 3 57 (bA 16 7071) HT_ HW_ hHeld ?_
 refine pU 5 59 (bA 16 7103) HT_ ?_
 refine tK 6 60 (bA 16 7167) HT_ HW_ hHeld ?_
 refine tK 10 64 (bA 16 8191) HT_ HW_ hHeld ?_
 refine pU 13 67 (bA 16 16383) HT_ ?_
 refine tK 14 68 (bA 16 32767) HT_ HW_ hHeld ?_
 refine pU 15 69 (bA 16 65535) HT_ ?_
 refine done_ (done_of HT_.out (by kernel_rfl)) ?_
 try go_wp2
 go_roundg k2
 case measure => have := BQ.out; have := BN.out; omega
 case rel => exact ⟨(wrap64 (AG + 1)), rfl, H', ⟨by have := BQ.out; have := BN.out; omega⟩, ⟨(zK AF.out)⟩, ⟨zB HB.out⟩⟩
 }
 }
 · rw [if_neg Az] at H; exact absurd H (by simp)
 }
 · rw [if_neg Ay] at H; exact absurd H (by simp)
 }
 · rw [if_neg Av] at H; exact absurd H (by simp)
 }
 · rw [if_neg A0] at H; exact absurd H (by simp)
 }
 {
 rw [if_neg An] at H
 have As : decide (AG < (AA.length : Int)) = false := decide_eq_false An
 clear An
 obtain rfl := Option.some.inj H
 go_wp2
 go_ret
 exact ⟨rfl, zB HB.out⟩
 }
 )
 )
 }
 )
 )
end Go.Proofs.YtlggjfhoecaelaaGreatDoor.P
