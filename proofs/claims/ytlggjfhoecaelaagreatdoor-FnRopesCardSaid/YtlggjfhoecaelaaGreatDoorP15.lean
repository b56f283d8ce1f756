-- Printed by wip/print (my turned copy of the kit's print) out of the translation; Lean checks it.
import Derived.Test.YtlggjfhoecaelaaGreatDoorP0
import Derived.Test.YtlggjfhoecaelaaGreatDoorP1
import Derived.Test.YtlggjfhoecaelaaGreatDoorP13
namespace Go.Proofs.YtlggjfhoecaelaaGreatDoor.P
open Go.RowKit Go.Proofs.YtlggjfhoecaelaaGreatDoorW.PrintWords Go.Proofs.YtlggjfhoecaelaaGreatDoorW.PrintLast Go.Proofs.YtlggjfhoecaelaaGreatDoorW.PrintMore
attribute [local go_sem] max2_int min2_int max_two min_two max_three min_three max_four min_four   -- for this text's walks alone
set_option linter.unusedVariables false
set_option linter.unusedSimpArgs false

attribute [local go_sem high] eqA52
/-! ### spec_l03Gaps: function 53 -/
def spec_l03Gaps.l0 : Nat → List (S52) → List Int → Int → Int → List Int → Option (List Int)
  | 0, _, _, _, _, _ => none
  | k + 1, x1, x5, x6, AB, AA => if x6 < (x1.length : Int) then (if 0 ≤ x6 then (if 0 ≤ ((rd_T52 x1 x6).f1) then (if ((rd_T52 x1 x6).f1) < (AA.length : Int) then (if 0 ≤ (wrap64 (x6 - 1)) then (if (wrap64 (x6 - 1)) < (x1.length : Int) then (if 0 ≤ ((rd_T52 x1 (wrap64 (x6 - 1))).f1) then (if ((rd_T52 x1 (wrap64 (x6 - 1))).f1) < (AA.length : Int) then (if x5.length < 17592186044416 then (spec_l03Gaps.l0 k x1 (x5 ++ [wrap64 ((wrap64 (rd AA ((rd_T52 x1 x6).f1))) - (wrap64 (rd AA ((rd_T52 x1 (wrap64 (x6 - 1))).f1))))]) (wrap64 (x6 + 1)) AB AA) else (none)) else (none)) else (none)) else (none)) else (none)) else (none)) else (none)) else (none)) else (some x5)
def spec_l03Gaps.f (k : Nat) (AA : Int) (AB : List Int) (l1 : List (S52)) : Option (List Int) := spec_l03Gaps.l0 k l1 (([] : List Int)) 1 AA AB
def spec_l03Gaps.T5 : Bool × List (List Nat × List Nat) := (true, [([], []), ([], []), ([1], [1]), ([2], [2]), ([3], [3]), ([], []), ([], []), ([5, 6], [5, 6]), ([7], [7]), ([8], [8]), ([4, 9], [4, 9]), ([10], [10]), ([11], [11]), ([], []), ([13], [13]), ([14], [14]), ([15], [15]), ([], []), ([], []), ([18], [18]), ([17, 19], [17, 19]), ([20], [20]), ([21], [21]), ([16, 22], [16, 22]), ([23], [23]), ([24], [24]), ([12, 25], [12, 25]), ([26], [26]), ([0, 27], [0, 27]), ([28, 28, 0, 1, 2, 3, 4, 5, 6, 7, 8, 9, 10, 11, 12, 13, 14, 15, 16, 17, 18, 19, 20, 21, 22, 23, 24, 25, 26, 27, 28], [0, 28])])
def spec_l03Gaps.B5 : List Nat := [0, 0, 2, 6, 14, 0, 0, 96, 224, 480, 1022, 2046, 4094, 0, 8192, 24576, 57344, 0, 0, 262144, 917504, 1966080, 4063232, 8380416, 16769024, 33546240, 67108862, 134217726, 268435455, 536870911]
theorem spec_l03Gaps.tab5 : rtab .any (opsOf Tryz.f53 5) = spec_l03Gaps.T5 := by kernel_rfl
theorem spec_l03Gaps.bits5 : waitsOk spec_l03Gaps.T5.2 spec_l03Gaps.B5 = true := by kernel_rfl
set_option maxHeartbeats 8000000 in
set_option maxRecDepth 100000 in
theorem spec_l03Gaps.calls (k : Nat) (b0 : Nat) (AQ : Int) (Ak : Option Addr) (AX : Nat) (AB : List Int) (A1 : Option Addr) (c1 : Nat) (l1 : List (S52)) (r : List Int) (w : World) (AY : Kd.C (Kd.int .i16) w Ak AB.length AB) (Aa : AB.length ≤ AX) (A9 : Kd.C k52 w A1 l1.length l1) (BA : l1.length ≤ c1) (BF : w.heap[b0]? = some (.cells #[.int .i16 AQ, .slice Ak AB.length AX] 27 (0, 0))) (h : spec_l03Gaps.f k AQ AB l1 = some r) :
    Calls Tryz.prog 53 #[.pointer (some ⟨b0, 0, none⟩), .slice A1 l1.length c1] w fun e w' => ∃ v0_ : Value, e = .returned (v0_) ∧ Kd.R (Kd.int .i64) 2 w' w.heap.size (fun _ => True) v0_ r ∧ Below w.heap.size w w' := by
 have Ab := ak AY
 have BG := ak Aa
 clear AY Aa
 have BC := ak A9
 have BP := ak BA
 clear A9 BA
 have AR := ak BF
 clear BF
 have HB := ak (Below.refl w.heap.size w)
 have H := h
 unfold spec_l03Gaps.f at H
 clear h
 obtain ⟨Av, AT⟩ : ∃ y_ : List Int, y_ = (([] : List Int)) := ⟨_, rfl⟩
 replace H : (spec_l03Gaps.l0 k l1 Av 1 AQ AB) = some r := by first | (rw [AT]; with_reducible exact H) | (have Ag := (Option.bind_some _ _).symm.trans H; rw [AT]; with_reducible exact Ag) | (have Ag := (Option.bind_some _ _).symm.trans H; with_reducible exact Ag) | with_reducible exact H | (rw [AT]; exact H) | exact H
 have AZ := ak AT
 clear AT
 have H' := ak H
 clear H
 go_enter Tryz.func53, Tryz.ntmps53
 go_wp2_with (first | ((with_reducible refine gate_dst (N := 7) rfl ?_); refine Kd.R_lit (Kd.int .i64) _ 2 ?hg (N := 7) ?hd (xs := ([] : List Int)) (inner := []) (ok := fun _ => True) (okp := fun _ => True) ?hr ?hp (fun _ hk => hk) trivial (Below.refl _ _) (Nat.le_refl _) (by simp) ?_; (case hd => rfl); (case hg => rfl); (case hr => first | (go_simp; done) | (go_simp; rfl)); (case hp => exact (Reps.none _ _)); intro BN w3 Ap hb BM As; clear BM As; (first | rw [← AZ.out] at Ap | (simp only [Int.reduceToNat] at Ap; rw [← AZ.out] at Ap)); have Ao := ak (Kd.R_lower Ap (below_size (zB HB.out))); replace AR := kK AR hb; replace HB := kB HB hb; clear hb Ap))
 go_loopg [5, 6] k (fun kq v5 v6 w' => ∃ (AW : List Int) (AA : Int), v6 = .int .i64 AA ∧ Aside0 (spec_l03Gaps.l0 kq l1 AW AA AQ AB = some r) ∧ Aside0 (kq ≤ k) ∧ Aside0 (Kd.R (Kd.int .i64) 2 w' w.heap.size (fun _ => True) v5 AW) ∧ Aside0 (w'.heap[b0]? = some (.cells #[.int .i16 AQ, (.slice Ak AB.length AX)] 27 (0, 0))) ∧ Aside0 (Below w.heap.size w w'))
 case atStart => exact ⟨(Av), (1), rfl, H', ⟨Nat.le_refl _⟩, ⟨(zR Ao.out)⟩, ⟨(zK AR.out)⟩, ⟨zB HB.out⟩⟩
 case round => (
 clear H'
 obtain ⟨AW, AA, rfl, HA, BH, AV, AR, HB⟩ := hrel
 cases gk with
 | zero => exact absurd HA.out (by simp [spec_l03Gaps.l0])
 | succ k1 => (
 have H := HA.out
 clear HA
 simp only [spec_l03Gaps.l0] at H
 by_cases c5 : AA < (l1.length : Int)
 {
 rw [if_pos c5] at H
 have A5 : decide (AA < (l1.length : Int)) = true := decide_eq_true c5
 clear c5
 by_cases c6 : 0 ≤ AA
 {
 rw [if_pos c6] at H
 have BO : decide (0 ≤ AA) = true := decide_eq_true c6
 clear c6
 by_cases c7 : 0 ≤ ((rd_T52 l1 AA).f1)
 {
 rw [if_pos c7] at H
 have BJ : decide (0 ≤ ((rd_T52 l1 AA).f1)) = true := decide_eq_true c7
 clear c7
 by_cases c8 : ((rd_T52 l1 AA).f1) < (AB.length : Int)
 {
 rw [if_pos c8] at H
 have BL : decide (((rd_T52 l1 AA).f1) < (AB.length : Int)) = true := decide_eq_true c8
 clear c8
 obtain ⟨AO, Ae⟩ : ∃ j_ : Int, (wrap64 (AA - 1)) = j_ := ⟨_, rfl⟩
 first | rw [Ae] at H | simp only [Ae] at H
 have BB : (IntKind.i64.wrap (AA - 1)) = AO := (i64_w _).trans Ae
 by_cases Az : 0 ≤ (AO)
 {
 rw [if_pos Az] at H
 have BE : decide (0 ≤ (AO)) = true := decide_eq_true Az
 clear Az
 by_cases Ay : (AO) < (l1.length : Int)
 {
 rw [if_pos Ay] at H
 have A8 : decide ((AO) < (l1.length : Int)) = true := decide_eq_true Ay
 clear Ay
 by_cases Ax : 0 ≤ ((rd_T52 l1 (AO)).f1)
 {
 rw [if_pos Ax] at H
 have BD : decide (0 ≤ ((rd_T52 l1 (AO)).f1)) = true := decide_eq_true Ax
 clear Ax
 by_cases A2 : ((rd_T52 l1 (AO)).f1) < (AB.length : Int)
 {
 rw [if_pos A2] at H
 have BI : decide (((rd_T52 l1 (AO)).f1) < (AB.length : Int)) = true := decide_eq_true A2
 clear A2
 by_cases A0 : AW.length < 17592186044416
 {
 rw [if_pos A0] at H
 have An := ak A0
 clear A0
 obtain ⟨Aq, AU⟩ : ∃ y_ : List Int, y_ = (AW ++ [wrap64 ((wrap64 (rd AB ((rd_T52 l1 AA).f1))) - (wrap64 (rd AB ((rd_T52 l1 (AO)).f1))))]) := ⟨_, rfl⟩
 replace H : (spec_l03Gaps.l0 k1 l1 Aq (wrap64 (AA + 1)) AQ AB) = some r := by first | (rw [AU]; with_reducible exact H) | (have Ag := (Option.bind_some _ _).symm.trans H; rw [AU]; with_reducible exact Ag) | (have Ag := (Option.bind_some _ _).symm.trans H; with_reducible exact Ag) | with_reducible exact H | (rw [AU]; exact H) | exact H
 have Aw := ak AU
 clear AU
 have H' := ak H
 clear H
 try go_wp2
 replace AV := ak (Kd.R_drew AV.out)
 replace AR := ak (blk_drew AR.out)
 replace HB := ak (below_drew1 HB.out)
 have Aj : 0 ≤ (AA : Int) := of_decide_eq_true (by assumption)
 have Ah : AA < (l1.length : Int) := of_decide_eq_true (by assumption)
 obtain ⟨AP, A3, AM, AI⟩ := at_T52 BC.out AA Aj Ah
 have AF := AI
 have AD := AM
 cases A3
 replace AM := (HB.out.cell (World.block_lt_of_cell? w _ AM)).trans AM
 replace AI := (HB.out.cell (World.block_lt_of_cell? w _ AI)).trans AI
 replace Aj := eq_true Aj
 replace Ah := eq_true Ah
 have Ai : 0 ≤ (((rd_T52 l1 AA).f1) : Int) := of_decide_eq_true (by assumption)
 have Af : ((rd_T52 l1 AA).f1) < (AB.length : Int) := of_decide_eq_true (by assumption)
 obtain ⟨AS, A6, AK⟩ := Kd.at_int Ab.out ((rd_T52 l1 AA).f1) Ai Af
 have AE := AK
 cases A6
 replace AK := (HB.out.cell (World.block_lt_of_cell? w _ AK)).trans AK
 replace Ai := eq_true Ai
 replace Af := eq_true Af
 have Al : 0 ≤ ((AO) : Int) := of_decide_eq_true (by assumption)
 have Ad : (AO) < (l1.length : Int) := of_decide_eq_true (by assumption)
 obtain ⟨At, A4, AL, AJ⟩ := at_T52 BC.out (AO) Al Ad
 have AG := AJ
 have AH := AL
 obtain rfl : AP = At := (by injection A4)
 replace AL := (HB.out.cell (World.block_lt_of_cell? w _ AL)).trans AL
 replace AJ := (HB.out.cell (World.block_lt_of_cell? w _ AJ)).trans AJ
 replace Al := eq_true Al
 replace Ad := eq_true Ad
 have Am : 0 ≤ (((rd_T52 l1 (AO)).f1) : Int) := of_decide_eq_true (by assumption)
 have Ac : ((rd_T52 l1 (AO)).f1) < (AB.length : Int) := of_decide_eq_true (by assumption)
 obtain ⟨Au, A7, AN⟩ := Kd.at_int Ab.out ((rd_T52 l1 (AO)).f1) Am Ac
 have AC := AN
 obtain rfl : AS = Au := (by injection A7)
 replace AN := (HB.out.cell (World.block_lt_of_cell? w _ AN)).trans AN
 replace Am := eq_true Am
 replace Ac := eq_true Ac
 refine start_ (n := 30) (S := fun w' => w'.cell? ⟨b0, 0, none⟩ = some (.int .i16 AQ) ∧ w'.cell? ⟨b0, 1, none⟩ = some (.slice (some AS) AB.length AX) ∧ w'.cell? (AP.add ((AA).toNat * 2)) = some (.int .i16 ((rd_T52 l1 AA).f0)) ∧ w'.cell? ⟨(AP.add ((AA).toNat * 2)).block, (AP.add ((AA).toNat * 2)).off + 1, none⟩ = some (.int .i8 ((rd_T52 l1 AA).f1)) ∧ w'.cell? (AS.add (((rd_T52 l1 AA).f1)).toNat) = some (.int .i16 (rd AB ((rd_T52 l1 AA).f1))) ∧ w'.cell? (AP.add (((AO)).toNat * 2)) = some (.int .i16 ((rd_T52 l1 (AO)).f0)) ∧ w'.cell? ⟨(AP.add (((AO)).toNat * 2)).block, (AP.add (((AO)).toNat * 2)).off + 1, none⟩ = some (.int .i8 ((rd_T52 l1 (AO)).f1)) ∧ w'.cell? (AS.add (((rd_T52 l1 (AO)).f1)).toNat) = some (.int .i16 (rd AB ((rd_T52 l1 (AO)).f1)))) (ds := []) (bA 30 0) (by kernel_rfl) rfl rfl ⟨(blk_cell AR.out 0).trans rfl, (blk_cell AR.out 1).trans rfl, ((HB.out.cell (World.block_lt_of_cell? w _ AD)).trans AD), ((HB.out.cell (World.block_lt_of_cell? w _ AF)).trans AF), ((HB.out.cell (World.block_lt_of_cell? w _ AE)).trans AE), ((HB.out.cell (World.block_lt_of_cell? w _ AH)).trans AH), ((HB.out.cell (World.block_lt_of_cell? w _ AG)).trans AG), ((HB.out.cell (World.block_lt_of_cell? w _ AC)).trans AC)⟩ (fun hHeld => ?_); refine with_tabW spec_l03Gaps.tab5 spec_l03Gaps.bits5 (fun HT_ HW_ => ?_)
 generalize wr.drew = BR at AV AR HB AM AI AK AL AJ AN hHeld ⊢
 refine pU 0 14 (bA 30 1) HT_ ?_
 refine pU 1 15 (bA 30 3) HT_ ?_
 refine pU 2 16 (bA 30 7) HT_ ?_
 refine pU 3 17 (bA 30 15) HT_ ?_
 refine pU 5 19 (bA 30 47) HT_ ?_
 refine pU 6 20 (bA 30 111) HT_ ?_
 refine pU 7 21 (bA 30 239) HT_ ?_
 refine pU 8 22 (bA 30 495) HT_ ?_
 refine pU 13 27 (bA 30 8687) HT_ ?_
 refine pU 14 28 (bA 30 25071) HT_ ?_
 refine pU 15 29 (bA 30 57839) HT_ ?_
 refine pU 17 31 (bA 30 188911) HT_ ?_
 refine pU 18 32 (bA 30 451055) HT_ ?_
 refine pU 19 33 (bA 30 975343) HT_ ?_
 refine pU 20 34 (bA 30 2023919) HT_ ?_
 refine pU 21 35 (bA 30 4121071) HT_ ?_
 refine tK 4 18 (bA 30 4121087) HT_ HW_ hHeld ?_
 refine tK 9 23 (bA 30 4121599) HT_ HW_ hHeld ?_
 refine pU 10 24 (bA 30 4122623) HT_ ?_
 refine tK 11 25 (bA 30 4124671) HT_ HW_ hHeld ?_
 refine pU 12 26 (bA 30 4128767) HT_ ?_
 refine tK 16 30 (bA 30 4194303) HT_ HW_ hHeld ?_
 refine tK 22 36 (bA 30 8388607) HT_ HW_ hHeld ?_
 refine pU 23 37 (bA 30 16777215) HT_ ?_
 refine tK 24 38 (bA 30 33554431) HT_ HW_ hHeld ?_
 refine pU 25 39 (bA 30 67108863) HT_ ?_
 refine pU 26 40 (bA 30 134217727) HT_ ?_
 refine one_ (i := 27) (N := some 41) (bA 30 268435455) rfl rfl (one_of HT_.out (by kernel_rfl)) (by decide) (fun K hK => ?_)
 refine value_ (w1 := ?_) (v := ?_) (by rfl) rfl ?_ ?_
 rotate_left 2
 {
 go_simp
 constructor
 · rfl
 · rfl
 }
 refine hK.out _ _ ⟨(blk_cell (blk_alloc AR.out _) 0).trans rfl, (blk_cell (blk_alloc AR.out _) 1).trans rfl, (World.cell?_alloc_lt _ _ _ (World.block_lt_of_cell? _ _ (((HB.out.cell (World.block_lt_of_cell? w _ AD)).trans AD)))).trans (((HB.out.cell (World.block_lt_of_cell? w _ AD)).trans AD)), (World.cell?_alloc_lt _ _ _ (World.block_lt_of_cell? _ _ (((HB.out.cell (World.block_lt_of_cell? w _ AF)).trans AF)))).trans (((HB.out.cell (World.block_lt_of_cell? w _ AF)).trans AF)), (World.cell?_alloc_lt _ _ _ (World.block_lt_of_cell? _ _ (((HB.out.cell (World.block_lt_of_cell? w _ AE)).trans AE)))).trans (((HB.out.cell (World.block_lt_of_cell? w _ AE)).trans AE)), (World.cell?_alloc_lt _ _ _ (World.block_lt_of_cell? _ _ (((HB.out.cell (World.block_lt_of_cell? w _ AH)).trans AH)))).trans (((HB.out.cell (World.block_lt_of_cell? w _ AH)).trans AH)), (World.cell?_alloc_lt _ _ _ (World.block_lt_of_cell? _ _ (((HB.out.cell (World.block_lt_of_cell? w _ AG)).trans AG)))).trans (((HB.out.cell (World.block_lt_of_cell? w _ AG)).trans AG)), (World.cell?_alloc_lt _ _ _ (World.block_lt_of_cell? _ _ (((HB.out.cell (World.block_lt_of_cell? w _ AC)).trans AC)))).trans (((HB.out.cell (World.block_lt_of_cell? w _ AC)).trans AC))⟩ (fun hHeld => ?_)
 clear hK K
 refine norm_ (a' := ?_) ?_ ?_
 rotate_left
 {
 show Act.put _ (some 41) _ = _
 simp only [Act.put, zs, zz, zk, i64_w, i32_w]
 rfl
 }
 refine one_ (i := 28) (N := some 42) (bA 30 536870911) rfl rfl (one_of HT_.out (by kernel_rfl)) (by decide) (fun K hK => ?_)
 refine Kd.R_append_step (Kd.int .i64) (w0 := w) w.heap.size (by rfl) (.tmp 14) (.tmp 41) 34 2 (.int .i64 0) 8 rfl Tryz.underlying34 info2 rfl (by decide) (by omega) u5 AW (wrap64 ((wrap64 (rd AB ((rd_T52 l1 AA).f1))) - (wrap64 (rd AB ((rd_T52 l1 (AO)).f1))))) [.int .i64 (wrap64 ((wrap64 (rd AB ((rd_T52 l1 AA).f1))) - (wrap64 (rd AB ((rd_T52 l1 (AO)).f1)))))] (fun _ => True) (fun _ => False) rfl rfl ?aP (fun _ hk => hk.elim) ?aF ?aO ?aB ?aS ?aL ?_
 (case aP => exact rfl)
 (case aB => exact (zB HB.out))
 (case aF => exact (fun _ _ => trivial))
 (case aO => exact (zR AV.out))
 (case aS => exact (below_size (zB HB.out)))
 (case aL => have := An.out; omega)
 intro BK BQ ho hb hg hat
 rw [← Aw.out] at ho
 have Ar := ak (ho)
 replace AR := ak (blk_grown (g := b0) (o := .cells #[.int .i16 AQ, .slice (some AS) AB.length AX] 27 (0, 0)) (zK AR.out) hg (Kd.R_ne AV.out AR.out (by decide)))
 replace HB := ak (hb)
 clear AV
 refine hK.out _ _ ⟨(blk_cell AR.out 0).trans rfl, (blk_cell AR.out 1).trans rfl, ((HB.out.cell (World.block_lt_of_cell? w _ AD)).trans AD), ((HB.out.cell (World.block_lt_of_cell? w _ AF)).trans AF), ((HB.out.cell (World.block_lt_of_cell? w _ AE)).trans AE), ((HB.out.cell (World.block_lt_of_cell? w _ AH)).trans AH), ((HB.out.cell (World.block_lt_of_cell? w _ AG)).trans AG), ((HB.out.cell (World.block_lt_of_cell? w _ AC)).trans AC)⟩ (fun hHeld => ?_)
 clear hK K
 refine norm_ (a' := ?_) ?_ ?_
 rotate_left
 {
 show Act.put _ (some 42) _ = _
 simp only [Act.put, zs, zz, zk, i64_w, i32_w]
 rfl
 }
 refine pU 29 5 (bA 30 1073741823) HT_ ?_
 refine done_ (done_of HT_.out (by kernel_rfl)) ?_
 try go_wp2
 go_roundg k1
 case measure => have := BH.out; omega
 case rel => exact ⟨(Aq), (wrap64 (AA + 1)), rfl, H', ⟨by have := BH.out; omega⟩, ⟨(zR Ar.out)⟩, ⟨(zK AR.out)⟩, ⟨zB HB.out⟩⟩
 }
 · rw [if_neg A0] at H; exact absurd H (by simp)
 }
 · rw [if_neg A2] at H; exact absurd H (by simp)
 }
 · rw [if_neg Ax] at H; exact absurd H (by simp)
 }
 · rw [if_neg Ay] at H; exact absurd H (by simp)
 }
 · rw [if_neg Az] at H; exact absurd H (by simp)
 }
 · rw [if_neg c8] at H; exact absurd H (by simp)
 }
 · rw [if_neg c7] at H; exact absurd H (by simp)
 }
 · rw [if_neg c6] at H; exact absurd H (by simp)
 }
 {
 rw [if_neg c5] at H
 have A5 : decide (AA < (l1.length : Int)) = false := decide_eq_false c5
 clear c5
 obtain rfl := Option.some.inj H
 go_wp2
 go_ret
 exact ⟨_, rfl, AV.out, zB HB.out⟩
 }
 )
 )
/-! ### spec_GapsOf: function 24 -/
def spec_GapsOf.f (k : Nat) (AB : Int) (AA : List Int) (l1 : List (S52)) : Option (List Int × Int) := (spec_l03Holds.f k AB AA l1).bind fun AD => (if AD = true then ((spec_l03Gaps.f k AB AA l1).bind fun AC => (some (AC, 0))) else (some ((([] : List Int)), 1)))
set_option maxHeartbeats 8000000 in
set_option maxRecDepth 100000 in
theorem spec_GapsOf.calls (k : Nat) (AF : Int) (AG : Option Addr) (AH : Nat) (AD : List Int) (A1 : Option Addr) (c1 : Nat) (l1 : List (S52)) (r1 : List Int) (r2 : Int) (w : World) (AL : Kd.C (Kd.int .i16) w AG AD.length AD) (AN : AD.length ≤ AH) (AY : Kd.C k52 w A1 l1.length l1) (AZ : l1.length ≤ c1) (h : spec_GapsOf.f k AF AD l1 = some (r1, r2)) :
    Calls Tryz.prog 24 #[.agg #[.int .i16 AF, .slice AG AD.length AH], .slice A1 l1.length c1] w fun e w' => ∃ v0_ : Value, e = .returned (.tuple #[v0_, .int .i64 r2]) ∧ Kd.R (Kd.int .i64) 2 w' w.heap.size (fun _ => True) v0_ r1 ∧ Below w.heap.size w w' := by
 have Ag := Tryz.underlying27
 have AJ := ak AL
 have AI := ak AN
 clear AL AN
 have AX := ak AY
 have AW := ak AZ
 clear AY AZ
 have HB := ak (Below.refl w.heap.size w)
 have H := h
 unfold spec_GapsOf.f at H
 clear h
 replace H := Option.bind_eq_some_iff.mp H
 obtain ⟨AS, Ab, H⟩ := H
 have A3 := ak Ab
 clear Ab
 by_cases c4 : AS = true
 {
 subst c4
 rw [if_pos rfl] at H
 replace H := Option.bind_eq_some_iff.mp H
 obtain ⟨AU, Aa, H⟩ := H
 have A5 := ak Aa
 clear Aa
 simp only [Option.some.injEq, Prod.mk.injEq] at H
 obtain ⟨rfl, rfl⟩ := H
 go_enter Tryz.func24, Tryz.ntmps24
 go_wp2_with (first | ((with_reducible refine gate_dst (N := 2) rfl ?_); refine box_event ?hg (N := 2) ?hd (cs := #[.int .i16 AF, .slice AG AD.length AH]) (t := 27) ?hr ?_; (case hd => rfl); (case hg => rfl); (case hr => first | (go_simp; done) | (go_simp; rfl)); intro AC hg w6 hbox hb; have AA := ak (hbox); have AQ := gS HB hg; have AB := gS HB hg; replace HB := kB HB hb; clear hb hbox hg) | ((with_reducible refine gate_callee (f := 52) rfl ?_); refine goesL_ (some 7) rfl rfl Tryz.func52 (by kernel_rfl) rfl #[.pointer (some ⟨AC, 0, none⟩), .slice A1 l1.length c1] rfl gl_ ?_; (with_reducible refine (spec_l03Holds.calls k AC AF AG AH AD _ _ l1 true _ ?side1 ?side2 ?side3 ?side4 ?side5 A3.out).mono ?_); (case side1 => exact sQ (Kd.C_below AJ.out HB.out)); (case side2 => exact AI.out); (case side3 => exact sQ (Kd.C_below AX.out HB.out)); (case side4 => exact AW.out); (case side5 => exact (zK AA.out)); rintro e w7 ⟨rfl, hb⟩; refine ⟨_, rfl, ?_⟩; replace AA := kK AA hb; replace HB := kB1 HB AB hb; (try clear hb)) | ((with_reducible refine gate_callee (f := 53) rfl ?_); refine goesL_ (some 11) rfl rfl Tryz.func53 (by kernel_rfl) rfl #[.pointer (some ⟨AC, 0, none⟩), .slice A1 l1.length c1] rfl gl_ ?_; (with_reducible refine (spec_l03Gaps.calls k AC AF AG AH AD _ _ l1 AU _ ?side1 ?side2 ?side3 ?side4 ?side5 A5.out).mono ?_); (case side1 => exact sQ (Kd.C_below AJ.out HB.out)); (case side2 => exact AI.out); (case side3 => exact sQ (Kd.C_below AX.out HB.out)); (case side4 => exact AW.out); (case side5 => exact (zK AA.out)); rintro e w8 ⟨Ae, rfl, Ac, hb⟩; refine ⟨_, rfl, ?_⟩; have AR := ak (Kd.R_lower Ac (below_size (zBG HB.out AB.out))); replace AA := kK AA hb; replace HB := kB1 HB AB hb; (try clear hb); (try clear Ac)))
 go_ret2
 exact ⟨_, rfl, AR.out, zBG HB.out AB.out⟩
 }
 {
 replace c4 := Bool.eq_false_iff.mpr c4
 subst c4
 rw [if_neg (show ¬ (false = true) by decide)] at H
 obtain ⟨AT, AE⟩ : ∃ y_ : List Int, y_ = (([] : List Int)) := ⟨_, rfl⟩
 replace H : (some (AT, 1)) = some (r1, r2) := by first | (rw [AE]; with_reducible exact H) | (have AV := (Option.bind_some _ _).symm.trans H; rw [AE]; with_reducible exact AV) | (have AV := (Option.bind_some _ _).symm.trans H; with_reducible exact AV) | with_reducible exact H | (rw [AE]; exact H) | exact H
 have AM := ak AE
 clear AE
 simp only [Option.some.injEq, Prod.mk.injEq] at H
 obtain ⟨rfl, rfl⟩ := H
 go_enter Tryz.func24, Tryz.ntmps24
 go_wp2_with (first | ((with_reducible refine gate_dst (N := 2) rfl ?_); refine box_event ?hg (N := 2) ?hd (cs := #[.int .i16 AF, .slice AG AD.length AH]) (t := 27) ?hr ?_; (case hd => rfl); (case hg => rfl); (case hr => first | (go_simp; done) | (go_simp; rfl)); intro AC hg w9 hbox hb; have AA := ak (hbox); have AQ := gS HB hg; have AB := gS HB hg; replace HB := kB HB hb; clear hb hbox hg) | ((with_reducible refine gate_callee (f := 52) rfl ?_); refine goesL_ (some 7) rfl rfl Tryz.func52 (by kernel_rfl) rfl #[.pointer (some ⟨AC, 0, none⟩), .slice A1 l1.length c1] rfl gl_ ?_; (with_reducible refine (spec_l03Holds.calls k AC AF AG AH AD _ _ l1 false _ ?side1 ?side2 ?side3 ?side4 ?side5 A3.out).mono ?_); (case side1 => exact sQ (Kd.C_below AJ.out HB.out)); (case side2 => exact AI.out); (case side3 => exact sQ (Kd.C_below AX.out HB.out)); (case side4 => exact AW.out); (case side5 => exact (zK AA.out)); rintro e Ai ⟨rfl, hb⟩; refine ⟨_, rfl, ?_⟩; replace AA := kK AA hb; replace HB := kB1 HB AB hb; (try clear hb)) | ((with_reducible refine gate_dst (N := 9) rfl ?_); refine Kd.R_lit (Kd.int .i64) _ 2 ?hg (N := 9) ?hd (xs := ([] : List Int)) (inner := []) (ok := fun _ => True) (okp := fun _ => True) ?hr ?hp (fun _ hk => hk) trivial (Below.refl _ _) (Nat.le_refl _) (by simp) ?_; (case hd => rfl); (case hg => rfl); (case hr => first | (go_simp; done) | (go_simp; rfl)); (case hp => exact (Reps.none _ _)); intro Af Ah AK hb Ad AO; clear Ad AO; (first | rw [← AM.out] at AK | (simp only [Int.reduceToNat] at AK; rw [← AM.out] at AK)); have AP := ak (Kd.R_lower AK (below_size (zBG HB.out AB.out))); replace AA := kK AA hb; replace HB := kB1 HB AB hb; clear hb AK))
 go_ret2
 exact ⟨_, rfl, AP.out, zBG HB.out AB.out⟩
 }
/-! ### spec_SameHolds: function 25 -/
def spec_SameHolds.l0 : Nat → List (S52) → List (S52) → Int → Option (Bool)
  | 0, _, _, _ => none
  | k + 1, x0, x1, x5 => if x5 < (x0.length : Int) then (if 0 ≤ x5 then (if x5 < (x1.length : Int) then (if (!(((rd_T52 x0 x5).f0) == ((rd_T52 x1 x5).f0)) || (!(((rd_T52 x0 x5).f1) == ((rd_T52 x1 x5).f1)))) = true then (some false) else (spec_SameHolds.l0 k x0 x1 (wrap64 (x5 + 1)))) else (none)) else (none)) else (some true)
def spec_SameHolds.f (k : Nat) (l0 : List (S52)) (l1 : List (S52)) : Option (Bool) := if (l0.length : Int) = (l1.length : Int) then (spec_SameHolds.l0 k l0 l1 0) else (some false)
set_option maxHeartbeats 8000000 in
set_option maxRecDepth 100000 in
theorem spec_SameHolds.calls (k : Nat) (A0 : Option Addr) (c0 : Nat) (l0 : List (S52)) (A1 : Option Addr) (c1 : Nat) (l1 : List (S52)) (r : Bool) (w : World) (AV : Kd.C k52 w A0 l0.length l0) (AT : l0.length ≤ c0) (AS : Kd.C k52 w A1 l1.length l1) (AU : l1.length ≤ c1) (h : spec_SameHolds.f k l0 l1 = some r) :
    Calls Tryz.prog 25 #[.slice A0 l0.length c0, .slice A1 l1.length c1] w fun e w' => e = .returned (.bool r) ∧ Drawn0 w w' := by
 have Aa := Tryz.underlying52
 have AY := ak AV
 have Ac := ak AT
 clear AV AT
 have AW := ak AS
 have Ad := ak AU
 clear AS AU
 have H := h
 unfold spec_SameHolds.f at H
 clear h
 by_cases c3 : (l0.length : Int) = (l1.length : Int)
 {
 rw [if_pos c3] at H
 have AP : ((l0.length : Int) == (l1.length : Int)) = true := beq_iff_eq.mpr c3
 have AL : ((l0.length : Int) != (l1.length : Int)) = false := bne_eq_false_iff_eq.mpr c3
 have AN : (l0.length == l1.length) = true := by first | simpa using c3 | (simp at c3 ⊢; omega)
 clear c3
 have H' := ak H
 clear H
 go_enter Tryz.func25, Tryz.ntmps25
 go_wp2
 repeat (go_quiet (fail); try go_wp2)
 go_loopg [5] k (fun kq v5 w' => ∃ (AA : Int), v5 = .int .i64 AA ∧ Aside0 (spec_SameHolds.l0 kq l0 l1 AA = some r) ∧ Aside0 (kq ≤ k) ∧ Drawn0 w w')
 case atStart => exact ⟨(0), rfl, H', ⟨Nat.le_refl _⟩, by repeat (first | exact Drawn0.refl _ | apply Drawn0.step)⟩
 case round => (
 clear H'
 obtain ⟨AA, rfl, HA, AX, ⟨m1, rfl⟩⟩ := hrel
 cases gk with
 | zero => exact absurd HA.out (by simp [spec_SameHolds.l0])
 | succ k1 => (
 have H := HA.out
 clear HA
 simp only [spec_SameHolds.l0] at H
 by_cases c4 : AA < (l0.length : Int)
 {
 rw [if_pos c4] at H
 have AQ : decide (AA < (l0.length : Int)) = true := decide_eq_true c4
 clear c4
 by_cases c5 : 0 ≤ AA
 {
 rw [if_pos c5] at H
 have AZ : decide (0 ≤ AA) = true := decide_eq_true c5
 clear c5
 by_cases c6 : AA < (l1.length : Int)
 {
 rw [if_pos c6] at H
 have Ab : decide (AA < (l1.length : Int)) = true := decide_eq_true c6
 clear c6
 by_cases c7 : (!(((rd_T52 l0 AA).f0) == ((rd_T52 l1 AA).f0)) || (!(((rd_T52 l0 AA).f1) == ((rd_T52 l1 AA).f1)))) = true
 {
 rw [if_pos c7] at H
 have AR : (!(((rd_T52 l0 AA).f0) == ((rd_T52 l1 AA).f0)) || (!(((rd_T52 l0 AA).f1) == ((rd_T52 l1 AA).f1)))) = true := c7
 clear c7
 obtain rfl := Option.some.inj H
 have AC : 0 ≤ (AA : Int) := of_decide_eq_true (by assumption)
 have AB : AA < (l0.length : Int) := of_decide_eq_true (by assumption)
 obtain ⟨AM, AK, AI, AF⟩ := at_T52 AY.out AA AC AB
 cases AK
 replace AC := eq_true AC
 replace AB := eq_true AB
 have AE : 0 ≤ (AA : Int) := of_decide_eq_true (by assumption)
 have AD : AA < (l1.length : Int) := of_decide_eq_true (by assumption)
 obtain ⟨AO, AJ, AG, AH⟩ := at_T52 AW.out AA AE AD
 cases AJ
 replace AE := eq_true AE
 replace AD := eq_true AD
 go_wp2
 repeat (go_quiet (fail); try go_wp2)
 go_ret
 exact ⟨by first | rfl | (simp; done) | (simp [*]; done), by repeat (first | exact Drawn0.refl _ | apply Drawn0.step)⟩
 }
 {
 rw [if_neg c7] at H
 have AR : (!(((rd_T52 l0 AA).f0) == ((rd_T52 l1 AA).f0)) || (!(((rd_T52 l0 AA).f1) == ((rd_T52 l1 AA).f1)))) = false := by simpa using c7
 clear c7
 have H' := ak H
 clear H
 have AC : 0 ≤ (AA : Int) := of_decide_eq_true (by assumption)
 have AB : AA < (l0.length : Int) := of_decide_eq_true (by assumption)
 obtain ⟨AM, AK, AI, AF⟩ := at_T52 AY.out AA AC AB
 cases AK
 replace AC := eq_true AC
 replace AB := eq_true AB
 have AE : 0 ≤ (AA : Int) := of_decide_eq_true (by assumption)
 have AD : AA < (l1.length : Int) := of_decide_eq_true (by assumption)
 obtain ⟨AO, AJ, AG, AH⟩ := at_T52 AW.out AA AE AD
 cases AJ
 replace AE := eq_true AE
 replace AD := eq_true AD
 go_wp2
 repeat (go_quiet (fail); try go_wp2)
 go_roundg k1
 case measure => have := AX.out; omega
 case rel => exact ⟨(wrap64 (AA + 1)), rfl, H', ⟨by have := AX.out; omega⟩, by repeat (first | exact Drawn0.refl _ | apply Drawn0.step)⟩
 }
 }
 · rw [if_neg c6] at H; exact absurd H (by simp)
 }
 · rw [if_neg c5] at H; exact absurd H (by simp)
 }
 {
 rw [if_neg c4] at H
 have AQ : decide (AA < (l0.length : Int)) = false := decide_eq_false c4
 clear c4
 obtain rfl := Option.some.inj H
 go_wp2
 repeat (go_quiet (fail); try go_wp2)
 go_ret
 exact ⟨by first | rfl | (simp; done) | (simp [*]; done), by repeat (first | exact Drawn0.refl _ | apply Drawn0.step)⟩
 }
 )
 )
 }
 {
 rw [if_neg c3] at H
 have AP : ((l0.length : Int) == (l1.length : Int)) = false := beq_eq_false_iff_ne.mpr c3
 have AL : ((l0.length : Int) != (l1.length : Int)) = true := bne_iff_ne.mpr c3
 have AN : (l0.length == l1.length) = false := by first | simpa using c3 | (simp at c3 ⊢; omega)
 obtain rfl := Option.some.inj H
 go_enter Tryz.func25, Tryz.ntmps25
 go_wp2
 repeat (go_quiet (fail); try go_wp2)
 go_ret
 exact ⟨by first | rfl | (simp; done) | (simp [*]; done), by repeat (first | exact Drawn0.refl _ | apply Drawn0.step)⟩
 }
/-! ### slices_Equal_Hold: function 54 -/
def slices_Equal_Hold.l0 : Nat → List (S52) → List (S52) → Int → Int → Option (Bool)
  | 0, _, _, _, _ => none
  | k + 1, x0, x1, AB, AA => if AA < AB then (if 0 ≤ AA then (if AA < (x0.length : Int) then (if AA < (x1.length : Int) then (if (!(((rd_T52 x0 AA).f0) == ((rd_T52 x1 AA).f0)) || (!(((rd_T52 x0 AA).f1) == ((rd_T52 x1 AA).f1)))) = true then (some false) else (slices_Equal_Hold.l0 k x0 x1 AB (wrap64 (AA + 1)))) else (none)) else (none)) else (none)) else (some true)
def slices_Equal_Hold.f (k : Nat) (l0 : List (S52)) (l1 : List (S52)) : Option (Bool) := if (l0.length : Int) = (l1.length : Int) then (slices_Equal_Hold.l0 k l0 l1 (l0.length : Int) 0) else (some false)
set_option maxHeartbeats 8000000 in
set_option maxRecDepth 100000 in
theorem slices_Equal_Hold.calls (k : Nat) (A0 : Option Addr) (c0 : Nat) (l0 : List (S52)) (A1 : Option Addr) (c1 : Nat) (l1 : List (S52)) (r : Bool) (w : World) (AV : Kd.C k52 w A0 l0.length l0) (AT : l0.length ≤ c0) (AS : Kd.C k52 w A1 l1.length l1) (AU : l1.length ≤ c1) (h : slices_Equal_Hold.f k l0 l1 = some r) :
    Calls Tryz.prog 54 #[.slice A0 l0.length c0, .slice A1 l1.length c1] w fun e w' => e = .returned (.bool r) ∧ Drawn0 w w' := by
 have Ab := Tryz.underlying52
 have AY := ak AV
 have Ae := ak AT
 clear AV AT
 have AW := ak AS
 have Af := ak AU
 clear AS AU
 have H := h
 unfold slices_Equal_Hold.f at H
 clear h
 by_cases c3 : (l0.length : Int) = (l1.length : Int)
 {
 rw [if_pos c3] at H
 have AP : ((l0.length : Int) == (l1.length : Int)) = true := beq_iff_eq.mpr c3
 have AN : ((l0.length : Int) != (l1.length : Int)) = false := bne_eq_false_iff_eq.mpr c3
 have AO : (l0.length == l1.length) = true := by first | simpa using c3 | (simp at c3 ⊢; omega)
 clear c3
 have H' := ak H
 clear H
 go_enter Tryz.func54, Tryz.ntmps54
 go_wp2
 repeat (go_quiet (fail); try go_wp2)
 go_loopg [13] k (fun kq Ad w' => ∃ (AA : Int), Ad = .int .i64 AA ∧ Aside0 (slices_Equal_Hold.l0 kq l0 l1 (l0.length : Int) AA = some r) ∧ Aside0 (kq ≤ k) ∧ Drawn0 w w')
 case atStart => exact ⟨(0), rfl, H', ⟨Nat.le_refl _⟩, by repeat (first | exact Drawn0.refl _ | apply Drawn0.step)⟩
 case round => (
 clear H'
 obtain ⟨AA, rfl, HA, AX, ⟨m1, rfl⟩⟩ := hrel
 cases gk with
 | zero => exact absurd HA.out (by simp [slices_Equal_Hold.l0])
 | succ k1 => (
 have H := HA.out
 clear HA
 simp only [slices_Equal_Hold.l0] at H
 by_cases c4 : AA < (l0.length : Int)
 {
 rw [if_pos c4] at H
 have AR : decide (AA < (l0.length : Int)) = true := decide_eq_true c4
 clear c4
 by_cases c5 : 0 ≤ AA
 {
 rw [if_pos c5] at H
 have Aa : decide (0 ≤ AA) = true := decide_eq_true c5
 clear c5
 by_cases c6 : AA < (l0.length : Int)
 {
 rw [if_pos c6] at H
 have Ac : decide (AA < (l0.length : Int)) = true := decide_eq_true c6
 clear c6
 by_cases c7 : AA < (l1.length : Int)
 {
 rw [if_pos c7] at H
 have AZ : decide (AA < (l1.length : Int)) = true := decide_eq_true c7
 clear c7
 by_cases c8 : (!(((rd_T52 l0 AA).f0) == ((rd_T52 l1 AA).f0)) || (!(((rd_T52 l0 AA).f1) == ((rd_T52 l1 AA).f1)))) = true
 {
 rw [if_pos c8] at H
 have AQ : (!(((rd_T52 l0 AA).f0) == ((rd_T52 l1 AA).f0)) || (!(((rd_T52 l0 AA).f1) == ((rd_T52 l1 AA).f1)))) = true := c8
 clear c8
 obtain rfl := Option.some.inj H
 have AD : 0 ≤ (AA : Int) := of_decide_eq_true (by assumption)
 have AE : AA < (l0.length : Int) := of_decide_eq_true (by assumption)
 obtain ⟨AL, AK, AH, AI⟩ := at_T52 AY.out AA AD AE
 cases AK
 replace AD := eq_true AD
 replace AE := eq_true AE
 have AB : 0 ≤ (AA : Int) := of_decide_eq_true (by assumption)
 have AC : AA < (l1.length : Int) := of_decide_eq_true (by assumption)
 obtain ⟨AM, AJ, AF, AG⟩ := at_T52 AW.out AA AB AC
 cases AJ
 replace AB := eq_true AB
 replace AC := eq_true AC
 go_wp2
 repeat (go_quiet (fail); try go_wp2)
 go_ret
 exact ⟨by first | rfl | (simp; done) | (simp [*]; done), by repeat (first | exact Drawn0.refl _ | apply Drawn0.step)⟩
 }
 {
 rw [if_neg c8] at H
 have AQ : (!(((rd_T52 l0 AA).f0) == ((rd_T52 l1 AA).f0)) || (!(((rd_T52 l0 AA).f1) == ((rd_T52 l1 AA).f1)))) = false := by simpa using c8
 clear c8
 have H' := ak H
 clear H
 have AD : 0 ≤ (AA : Int) := of_decide_eq_true (by assumption)
 have AE : AA < (l0.length : Int) := of_decide_eq_true (by assumption)
 obtain ⟨AL, AK, AH, AI⟩ := at_T52 AY.out AA AD AE
 cases AK
 replace AD := eq_true AD
 replace AE := eq_true AE
 have AB : 0 ≤ (AA : Int) := of_decide_eq_true (by assumption)
 have AC : AA < (l1.length : Int) := of_decide_eq_true (by assumption)
 obtain ⟨AM, AJ, AF, AG⟩ := at_T52 AW.out AA AB AC
 cases AJ
 replace AB := eq_true AB
 replace AC := eq_true AC
 go_wp2
 repeat (go_quiet (fail); try go_wp2)
 go_roundg k1
 case measure => have := AX.out; omega
 case rel => exact ⟨(wrap64 (AA + 1)), rfl, H', ⟨by have := AX.out; omega⟩, by repeat (first | exact Drawn0.refl _ | apply Drawn0.step)⟩
 }
 }
 · rw [if_neg c7] at H; exact absurd H (by simp)
 }
 · rw [if_neg c6] at H; exact absurd H (by simp)
 }
 · rw [if_neg c5] at H; exact absurd H (by simp)
 }
 {
 rw [if_neg c4] at H
 have AR : decide (AA < (l0.length : Int)) = false := decide_eq_false c4
 clear c4
 obtain rfl := Option.some.inj H
 go_wp2
 repeat (go_quiet (fail); try go_wp2)
 go_ret
 exact ⟨by first | rfl | (simp; done) | (simp [*]; done), by repeat (first | exact Drawn0.refl _ | apply Drawn0.step)⟩
 }
 )
 )
 }
 {
 rw [if_neg c3] at H
 have AP : ((l0.length : Int) == (l1.length : Int)) = false := beq_eq_false_iff_ne.mpr c3
 have AN : ((l0.length : Int) != (l1.length : Int)) = true := bne_iff_ne.mpr c3
 have AO : (l0.length == l1.length) = false := by first | simpa using c3 | (simp at c3 ⊢; omega)
 obtain rfl := Option.some.inj H
 go_enter Tryz.func54, Tryz.ntmps54
 go_wp2
 repeat (go_quiet (fail); try go_wp2)
 go_ret
 exact ⟨by first | rfl | (simp; done) | (simp [*]; done), by repeat (first | exact Drawn0.refl _ | apply Drawn0.step)⟩
 }
/-! ### impl_SameHolds: function 26 -/
def impl_SameHolds.f (k : Nat) (l0 : List (S52)) (l1 : List (S52)) : Option (Bool) := (slices_Equal_Hold.f k l0 l1).bind fun AA => (some AA)
set_option maxHeartbeats 8000000 in
set_option maxRecDepth 100000 in
theorem impl_SameHolds.calls (k : Nat) (A0 : Option Addr) (c0 : Nat) (l0 : List (S52)) (A1 : Option Addr) (c1 : Nat) (l1 : List (S52)) (r : Bool) (w : World) (AE : Kd.C k52 w A0 l0.length l0) (AC : l0.length ≤ c0) (AB : Kd.C k52 w A1 l1.length l1) (AD : l1.length ≤ c1) (h : impl_SameHolds.f k l0 l1 = some r) :
    Calls Tryz.prog 26 #[.slice A0 l0.length c0, .slice A1 l1.length c1] w fun e w' => e = .returned (.bool r) ∧ Drawn0 w w' := by
 have AJ := ak AE
 have AG := ak AC
 clear AE AC
 have AI := ak AB
 have AH := ak AD
 clear AB AD
 have H := h
 unfold impl_SameHolds.f at H
 clear h
 replace H := Option.bind_eq_some_iff.mp H
 obtain ⟨AA, AF, H⟩ := H
 have A3 := ak AF
 clear AF
 obtain rfl := Option.some.inj H
 go_enter Tryz.func26, Tryz.ntmps26
 go_wp2_with (first | ((with_reducible refine gate_callee (f := 54) rfl ?_); refine goesL_ (some 7) rfl rfl Tryz.func54 (by kernel_rfl) rfl #[.slice A0 l0.length c0, .slice A1 l1.length c1] rfl gl_ ?_; (with_reducible refine (slices_Equal_Hold.calls k _ _ l0 _ _ l1 AA _ ?side1 ?side2 ?side3 ?side4 A3.out).mono ?_); (case side1 => exact sD AJ); (case side2 => exact AG.out); (case side3 => exact sD AI); (case side4 => exact AH.out); rintro e w' ⟨rfl, ⟨nd, rfl⟩⟩; refine ⟨_, rfl, ?_⟩))
 go_ret
 exact ⟨by first | rfl | (simp; done) | (simp [*]; done), by repeat (first | exact Drawn0.refl _ | apply Drawn0.step)⟩
end Go.Proofs.YtlggjfhoecaelaaGreatDoor.P
