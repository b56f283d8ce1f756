-- Printed by wip/print (my turned copy of the kit's print) out of the translation; Lean checks it.
import Derived.Test.YtooidjdgfoioiaaP0
namespace Go.Proofs.Ytooidjdgfoioiaa.P
open Go.RowKit Go.Proofs.YtooidjdgfoioiaaW.PrintWords Go.Proofs.YtooidjdgfoioiaaW.PrintLast Go.Proofs.YtooidjdgfoioiaaW.PrintMore
attribute [local go_sem] max2_int min2_int max_two min_two max_three min_three max_four min_four   -- for this text's walks alone
set_option linter.unusedVariables false
set_option linter.unusedSimpArgs false

/-! ### spec_l03Gaps: function 70 -/
def spec_l03Gaps.l0 : Nat → List (S65) → List Int → Int → Int → List Int → Option (List Int)
  | 0, _, _, _, _, _ => none
  | k + 1, x1, x5, x6, AB, AA => if x6 < (x1.length : Int) then (if 0 ≤ x6 then (if 0 ≤ ((rd_T65 x1 x6).f1) then (if ((rd_T65 x1 x6).f1) < (AA.length : Int) then (if 0 ≤ (wrap64 (x6 - 1)) then (if (wrap64 (x6 - 1)) < (x1.length : Int) then (if 0 ≤ ((rd_T65 x1 (wrap64 (x6 - 1))).f1) then (if ((rd_T65 x1 (wrap64 (x6 - 1))).f1) < (AA.length : Int) then (if x5.length < 17592186044416 then (spec_l03Gaps.l0 k x1 (x5 ++ [wrap64 ((wrap64 (rd AA ((rd_T65 x1 x6).f1))) - (wrap64 (rd AA ((rd_T65 x1 (wrap64 (x6 - 1))).f1))))]) (wrap64 (x6 + 1)) AB AA) else (none)) else (none)) else (none)) else (none)) else (none)) else (none)) else (none)) else (none)) else (some x5)
def spec_l03Gaps.f (k : Nat) (AB : Int) (AA : List Int) (l1 : List (S65)) : Option (List Int) := spec_l03Gaps.l0 k l1 (([] : List Int)) 1 AB AA
def spec_l03Gaps.T5 : Bool × List (List Nat × List Nat) := (true, [([], []), ([], []), ([1], [1]), ([2], [2]), ([3], [3]), ([], []), ([], []), ([5, 6], [5, 6]), ([7], [7]), ([8], [8]), ([4, 9], [4, 9]), ([10], [10]), ([11], [11]), ([], []), ([13], [13]), ([14], [14]), ([15], [15]), ([], []), ([], []), ([18], [18]), ([17, 19], [17, 19]), ([20], [20]), ([21], [21]), ([16, 22], [16, 22]), ([23], [23]), ([24], [24]), ([12, 25], [12, 25]), ([26], [26]), ([0, 27], [0, 27]), ([28, 28, 0, 1, 2, 3, 4, 5, 6, 7, 8, 9, 10, 11, 12, 13, 14, 15, 16, 17, 18, 19, 20, 21, 22, 23, 24, 25, 26, 27, 28], [0, 28])])
def spec_l03Gaps.B5 : List Nat := [0, 0, 2, 6, 14, 0, 0, 96, 224, 480, 1022, 2046, 4094, 0, 8192, 24576, 57344, 0, 0, 262144, 917504, 1966080, 4063232, 8380416, 16769024, 33546240, 67108862, 134217726, 268435455, 536870911]
theorem spec_l03Gaps.tab5 : rtab .any (opsOf Try.f70 5) = spec_l03Gaps.T5 := by kernel_rfl
theorem spec_l03Gaps.bits5 : waitsOk spec_l03Gaps.T5.2 spec_l03Gaps.B5 = true := by kernel_rfl
set_option maxHeartbeats 8000000 in
set_option maxRecDepth 100000 in
theorem spec_l03Gaps.calls (k : Nat) (b0 : Nat) (AT : Int) (Ad : Option Addr) (AX : Nat) (AB : List Int) (A1 : Option Addr) (c1 : Nat) (l1 : List (S65)) (r : List Int) (w : World) (Aa : Kd.C (Kd.int .i16) w Ad AB.length AB) (AY : AB.length ≤ AX) (BC : Kd.C k65 w A1 l1.length l1) (BE : l1.length ≤ c1) (BB : w.heap[b0]? = some (.cells #[.int .i16 AT, .slice Ad AB.length AX] 32 (0, 0))) (h : spec_l03Gaps.f k AT AB l1 = some r) :
    Calls Try.prog 70 #[.pointer (some ⟨b0, 0, none⟩), .slice A1 l1.length c1] w fun e w' => ∃ v0_ : Value, e = .returned (v0_) ∧ Kd.R (Kd.int .i64) 2 w' w.heap.size (fun _ => True) v0_ r ∧ Below w.heap.size w w' := by
 have Ab := ak Aa
 have A8 := ak AY
 clear Aa AY
 have BH := ak BC
 have BP := ak BE
 clear BC BE
 have AQ := ak BB
 clear BB
 have HB := ak (Below.refl w.heap.size w)
 have H := h
 unfold spec_l03Gaps.f at H
 clear h
 obtain ⟨Ar, AS⟩ : ∃ y_ : List Int, y_ = (([] : List Int)) := ⟨_, rfl⟩
 replace H : (spec_l03Gaps.l0 k l1 Ar 1 AT AB) = some r := by first | (rw [AS]; with_reducible exact H) | (have Ae := (Option.bind_some _ _).symm.trans H; rw [AS]; with_reducible exact Ae) | (have Ae := (Option.bind_some _ _).symm.trans H; with_reducible exact Ae) | with_reducible exact H | (rw [AS]; exact H) | exact H
 have AZ := ak AS
 clear AS
 have H' := ak H
 clear H
 go_enter Try.func70, Try.ntmps70
 go_wp2_with (first | ((with_reducible refine gate_dst (N := 7) rfl ?_); refine Kd.R_lit (Kd.int .i64) _ 2 ?hg (N := 7) ?hd (xs := ([] : List Int)) (inner := []) (ok := fun _ => True) (okp := fun _ => True) ?hr ?hp (fun _ hk => hk) trivial (Below.refl _ _) (Nat.le_refl _) (by simp) ?_; (case hd => rfl); (case hg => rfl); (case hr => first | (go_simp; done) | (go_simp; rfl)); (case hp => exact (Reps.none _ _)); intro BL w3 Aw hb BK Ap; clear BK Ap; (first | rw [← AZ.out] at Aw | (simp only [Int.reduceToNat] at Aw; rw [← AZ.out] at Aw)); have As := ak (Kd.R_lower Aw (below_size (zB HB.out))); replace AQ := kK AQ hb; replace HB := kB HB hb; clear hb Aw))
 go_loopg [5, 6] k (fun kq v5 v6 w' => ∃ (AW : List Int) (AA : Int), v6 = .int .i64 AA ∧ Aside0 (spec_l03Gaps.l0 kq l1 AW AA AT AB = some r) ∧ Aside0 (kq ≤ k) ∧ Aside0 (Kd.R (Kd.int .i64) 2 w' w.heap.size (fun _ => True) v5 AW) ∧ Aside0 (w'.heap[b0]? = some (.cells #[.int .i16 AT, (.slice Ad AB.length AX)] 32 (0, 0))) ∧ Aside0 (Below w.heap.size w w'))
 case atStart => exact ⟨(Ar), (1), rfl, H', ⟨Nat.le_refl _⟩, ⟨(zR As.out)⟩, ⟨(zK AQ.out)⟩, ⟨zB HB.out⟩⟩
 case round => (
 clear H'
 obtain ⟨AW, AA, rfl, HA, BI, AV, AQ, HB⟩ := hrel
 cases gk with
 | zero => exact absurd HA.out (by simp [spec_l03Gaps.l0])
 | succ k1 => (
 have H := HA.out
 clear HA
 simp only [spec_l03Gaps.l0] at H
 by_cases c5 : AA < (l1.length : Int)
 {
 rw [if_pos c5] at H
 have A7 : decide (AA < (l1.length : Int)) = true := decide_eq_true c5
 clear c5
 by_cases c6 : 0 ≤ AA
 {
 rw [if_pos c6] at H
 have BM : decide (0 ≤ AA) = true := decide_eq_true c6
 clear c6
 by_cases c7 : 0 ≤ ((rd_T65 l1 AA).f1)
 {
 rw [if_pos c7] at H
 have BO : decide (0 ≤ ((rd_T65 l1 AA).f1)) = true := decide_eq_true c7
 clear c7
 by_cases c8 : ((rd_T65 l1 AA).f1) < (AB.length : Int)
 {
 rw [if_pos c8] at H
 have BJ : decide (((rd_T65 l1 AA).f1) < (AB.length : Int)) = true := decide_eq_true c8
 clear c8
 obtain ⟨AO, Ak⟩ : ∃ j_ : Int, (wrap64 (AA - 1)) = j_ := ⟨_, rfl⟩
 first | rw [Ak] at H | simp only [Ak] at H
 have BD : (IntKind.i64.wrap (AA - 1)) = AO := (i64_w _).trans Ak
 by_cases A2 : 0 ≤ (AO)
 {
 rw [if_pos A2] at H
 have BA : decide (0 ≤ (AO)) = true := decide_eq_true A2
 clear A2
 by_cases A0 : (AO) < (l1.length : Int)
 {
 rw [if_pos A0] at H
 have BF : decide ((AO) < (l1.length : Int)) = true := decide_eq_true A0
 clear A0
 by_cases Ax : 0 ≤ ((rd_T65 l1 (AO)).f1)
 {
 rw [if_pos Ax] at H
 have BG : decide (0 ≤ ((rd_T65 l1 (AO)).f1)) = true := decide_eq_true Ax
 clear Ax
 by_cases Ay : ((rd_T65 l1 (AO)).f1) < (AB.length : Int)
 {
 rw [if_pos Ay] at H
 have A9 : decide (((rd_T65 l1 (AO)).f1) < (AB.length : Int)) = true := decide_eq_true Ay
 clear Ay
 by_cases Az : AW.length < 17592186044416
 {
 rw [if_pos Az] at H
 have Ao := ak Az
 clear Az
 obtain ⟨An, AU⟩ : ∃ y_ : List Int, y_ = (AW ++ [wrap64 ((wrap64 (rd AB ((rd_T65 l1 AA).f1))) - (wrap64 (rd AB ((rd_T65 l1 (AO)).f1))))]) := ⟨_, rfl⟩
 replace H : (spec_l03Gaps.l0 k1 l1 An (wrap64 (AA + 1)) AT AB) = some r := by first | (rw [AU]; with_reducible exact H) | (have Ae := (Option.bind_some _ _).symm.trans H; rw [AU]; with_reducible exact Ae) | (have Ae := (Option.bind_some _ _).symm.trans H; with_reducible exact Ae) | with_reducible exact H | (rw [AU]; exact H) | exact H
 have Au := ak AU
 clear AU
 have H' := ak H
 clear H
 try go_wp2
 replace AV := ak (Kd.R_drew AV.out)
 replace AQ := ak (blk_drew AQ.out)
 replace HB := ak (below_drew1 HB.out)
 have Ah : 0 ≤ (AA : Int) := of_decide_eq_true (by assumption)
 have Aj : AA < (l1.length : Int) := of_decide_eq_true (by assumption)
 obtain ⟨AP, A3, AJ, AN⟩ := at_T65 BH.out AA Ah Aj
 have AG := AN
 have AC := AJ
 cases A3
 replace AJ := (HB.out.cell (World.block_lt_of_cell? w _ AJ)).trans AJ
 replace AN := (HB.out.cell (World.block_lt_of_cell? w _ AN)).trans AN
 replace Ah := eq_true Ah
 replace Aj := eq_true Aj
 have Ag : 0 ≤ (((rd_T65 l1 AA).f1) : Int) := of_decide_eq_true (by assumption)
 have Al : ((rd_T65 l1 AA).f1) < (AB.length : Int) := of_decide_eq_true (by assumption)
 obtain ⟨AR, A5, AI⟩ := Kd.at_int Ab.out ((rd_T65 l1 AA).f1) Ag Al
 have AF := AI
 cases A5
 replace AI := (HB.out.cell (World.block_lt_of_cell? w _ AI)).trans AI
 replace Ag := eq_true Ag
 replace Al := eq_true Al
 have Af : 0 ≤ ((AO) : Int) := of_decide_eq_true (by assumption)
 have Ac : (AO) < (l1.length : Int) := of_decide_eq_true (by assumption)
 obtain ⟨Aq, A6, AK, AM⟩ := at_T65 BH.out (AO) Af Ac
 have AH := AM
 have AD := AK
 obtain rfl : AP = Aq := (by injection A6)
 replace AK := (HB.out.cell (World.block_lt_of_cell? w _ AK)).trans AK
 replace AM := (HB.out.cell (World.block_lt_of_cell? w _ AM)).trans AM
 replace Af := eq_true Af
 replace Ac := eq_true Ac
 have Ai : 0 ≤ (((rd_T65 l1 (AO)).f1) : Int) := of_decide_eq_true (by assumption)
 have Am : ((rd_T65 l1 (AO)).f1) < (AB.length : Int) := of_decide_eq_true (by assumption)
 obtain ⟨Av, A4, AL⟩ := Kd.at_int Ab.out ((rd_T65 l1 (AO)).f1) Ai Am
 have AE := AL
 obtain rfl : AR = Av := (by injection A4)
 replace AL := (HB.out.cell (World.block_lt_of_cell? w _ AL)).trans AL
 replace Ai := eq_true Ai
 replace Am := eq_true Am
 refine start_ (n := 30) (S := fun w' => w'.cell? ⟨b0, 0, none⟩ = some (.int .i16 AT) ∧ w'.cell? ⟨b0, 1, none⟩ = some (.slice (some AR) AB.length AX) ∧ w'.cell? (AP.add ((AA).toNat * 2)) = some (.int .i16 ((rd_T65 l1 AA).f0)) ∧ w'.cell? ⟨(AP.add ((AA).toNat * 2)).block, (AP.add ((AA).toNat * 2)).off + 1, none⟩ = some (.int .i8 ((rd_T65 l1 AA).f1)) ∧ w'.cell? (AR.add (((rd_T65 l1 AA).f1)).toNat) = some (.int .i16 (rd AB ((rd_T65 l1 AA).f1))) ∧ w'.cell? (AP.add (((AO)).toNat * 2)) = some (.int .i16 ((rd_T65 l1 (AO)).f0)) ∧ w'.cell? ⟨(AP.add (((AO)).toNat * 2)).block, (AP.add (((AO)).toNat * 2)).off + 1, none⟩ = some (.int .i8 ((rd_T65 l1 (AO)).f1)) ∧ w'.cell? (AR.add (((rd_T65 l1 (AO)).f1)).toNat) = some (.int .i16 (rd AB ((rd_T65 l1 (AO)).f1)))) (ds := []) (bA 30 0) (by kernel_rfl) rfl rfl ⟨(blk_cell AQ.out 0).trans rfl, (blk_cell AQ.out 1).trans rfl, ((HB.out.cell (World.block_lt_of_cell? w _ AC)).trans AC), ((HB.out.cell (World.block_lt_of_cell? w _ AG)).trans AG), ((HB.out.cell (World.block_lt_of_cell? w _ AF)).trans AF), ((HB.out.cell (World.block_lt_of_cell? w _ AD)).trans AD), ((HB.out.cell (World.block_lt_of_cell? w _ AH)).trans AH), ((HB.out.cell (World.block_lt_of_cell? w _ AE)).trans AE)⟩ (fun hHeld => ?_); refine with_tabW spec_l03Gaps.tab5 spec_l03Gaps.bits5 (fun HT_ HW_ => ?_)
 generalize wr.drew = BQ at AV AQ HB AJ AN AI AK AM AL hHeld ⊢
 refine pU 0 14 (bA 30 1) HT_ ?_
 refine pU 1 15 (bA 30 3) HT_ ?_
 refine pU 2 16 (bA 30 7) HT_ ?_
 refine pU 3 17 (bA 30 15) HT_ ?_
 refine pU 5 19 (bA 30 47) HT_ ?_
 refine pU 6 20 (bA 30 111) HT_ ?_
 refine pU 7 21 (bA 30 239) HT_ ?_
 refine pU 8 22 (bA 30 495) HT_ ?_
 refine pU 13 27 (bA 30 8687) HT_ ?_
 refine pU 14 28 (bA 30 25071) HT_ ?_
 refine pU 15 29 (bA 30 57839) HT_ ?_
 refine pU 17 31 (bA 30 188911) HT_ ?_
 refine pU 18 32 (bA 30 451055) HT_ ?_
 refine pU 19 33 (bA 30 975343) HT_ ?_
 refine pU 20 34 (bA 30 2023919) HT_ ?_
 refine pU 21 35 (bA 30 4121071) HT_ ?_
 refine tK 4 18 (bA 30 4121087) HT_ HW_ hHeld ?_
 refine tK 9 23 (bA 30 4121599) HT_ HW_ hHeld ?_
 refine pU 10 24 (bA 30 4122623) HT_ ?_
 refine tK 11 25 (bA 30 4124671) HT_ HW_ hHeld ?_
 refine pU 12 26 (bA 30 4128767) HT_ ?_
 refine tK 16 30 (bA 30 4194303) HT_ HW_ hHeld ?_
 refine tK 22 36 (bA 30 8388607) HT_ HW_ hHeld ?_
 refine pU 23 37 (bA 30 16777215) HT_ ?_
 refine tK 24 38 (bA 30 33554431) HT_ HW_ hHeld ?_
 refine pU 25 39 (bA 30 67108863) HT_ ?_
 refine pU 26 40 (bA 30 134217727) HT_ ?_
 refine one_ (i := 27) (N := some 41) (bA 30 268435455) rfl rfl (one_of HT_.out (by kernel_rfl)) (by decide) (fun K hK => ?_)
 refine value_ (w1 := ?_) (v := ?_) (by rfl) rfl ?_ ?_
 rotate_left 2
 {
 go_simp
 constructor
 · rfl
 · rfl
 }
 refine hK.out _ _ ⟨(blk_cell (blk_alloc AQ.out _) 0).trans rfl, (blk_cell (blk_alloc AQ.out _) 1).trans rfl, (World.cell?_alloc_lt _ _ _ (World.block_lt_of_cell? _ _ (((HB.out.cell (World.block_lt_of_cell? w _ AC)).trans AC)))).trans (((HB.out.cell (World.block_lt_of_cell? w _ AC)).trans AC)), (World.cell?_alloc_lt _ _ _ (World.block_lt_of_cell? _ _ (((HB.out.cell (World.block_lt_of_cell? w _ AG)).trans AG)))).trans (((HB.out.cell (World.block_lt_of_cell? w _ AG)).trans AG)), (World.cell?_alloc_lt _ _ _ (World.block_lt_of_cell? _ _ (((HB.out.cell (World.block_lt_of_cell? w _ AF)).trans AF)))).trans (((HB.out.cell (World.block_lt_of_cell? w _ AF)).trans AF)), (World.cell?_alloc_lt _ _ _ (World.block_lt_of_cell? _ _ (((HB.out.cell (World.block_lt_of_cell? w _ AD)).trans AD)))).trans (((HB.out.cell (World.block_lt_of_cell? w _ AD)).trans AD)), (World.cell?_alloc_lt _ _ _ (World.block_lt_of_cell? _ _ (((HB.out.cell (World.block_lt_of_cell? w _ AH)).trans AH)))).trans (((HB.out.cell (World.block_lt_of_cell? w _ AH)).trans AH)), (World.cell?_alloc_lt _ _ _ (World.block_lt_of_cell? _ _ (((HB.out.cell (World.block_lt_of_cell? w _ AE)).trans AE)))).trans (((HB.out.cell (World.block_lt_of_cell? w _ AE)).trans AE))⟩ (fun hHeld => ?_)
 clear hK K
 refine norm_ (a' := ?_) ?_ ?_
 rotate_left
 {
 show Act.put _ (some 41) _ = _
 simp only [Act.put, zs, zz, zk, i64_w, i32_w]
 rfl
 }
 refine one_ (i := 28) (N := some 42) (bA 30 536870911) rfl rfl (one_of HT_.out (by kernel_rfl)) (by decide) (fun K hK => ?_)
 refine Kd.R_append_step (Kd.int .i64) (w0 := w) w.heap.size (by rfl) (.tmp 14) (.tmp 41) 66 2 (.int .i64 0) 8 rfl Try.underlying66 info2 rfl (by decide) (by omega) u5 AW (wrap64 ((wrap64 (rd AB ((rd_T65 l1 AA).f1))) - (wrap64 (rd AB ((rd_T65 l1 (AO)).f1))))) [.int .i64 (wrap64 ((wrap64 (rd AB ((rd_T65 l1 AA).f1))) - (wrap64 (rd AB ((rd_T65 l1 (AO)).f1)))))] (fun _ => True) (fun _ => False) rfl rfl ?aP (fun _ hk => hk.elim) ?aF ?aO ?aB ?aS ?aL ?_
 (case aP => exact rfl)
 (case aB => exact (zB HB.out))
 (case aF => exact (fun _ _ => trivial))
 (case aO => exact (zR AV.out))
 (case aS => exact (below_size (zB HB.out)))
 (case aL => have := Ao.out; omega)
 intro BN BR ho hb hg hat
 rw [← Au.out] at ho
 have At := ak (ho)
 replace AQ := ak (blk_grown (g := b0) (o := .cells #[.int .i16 AT, .slice (some AR) AB.length AX] 32 (0, 0)) (zK AQ.out) hg (Kd.R_ne AV.out AQ.out (by decide)))
 replace HB := ak (hb)
 clear AV
 refine hK.out _ _ ⟨(blk_cell AQ.out 0).trans rfl, (blk_cell AQ.out 1).trans rfl, ((HB.out.cell (World.block_lt_of_cell? w _ AC)).trans AC), ((HB.out.cell (World.block_lt_of_cell? w _ AG)).trans AG), ((HB.out.cell (World.block_lt_of_cell? w _ AF)).trans AF), ((HB.out.cell (World.block_lt_of_cell? w _ AD)).trans AD), ((HB.out.cell (World.block_lt_of_cell? w _ AH)).trans AH), ((HB.out.cell (World.block_lt_of_cell? w _ AE)).trans AE)⟩ (fun hHeld => ?_)
 clear hK K
 refine norm_ (a' := ?_) ?_ ?_
 rotate_left
 {
 show Act.put _ (some 42) _ = _
 simp only [Act.put, zs, zz, zk, i64_w, i32_w]
 rfl
 }
 refine pU 29 5 (bA 30 1073741823) HT_ ?_
 refine done_ (done_of HT_.out (by kernel_rfl)) ?_
 try go_wp2
 go_roundg k1
 case measure => have := BI.out; omega
 case rel => exact ⟨(An), (wrap64 (AA + 1)), rfl, H', ⟨by have := BI.out; omega⟩, ⟨(zR At.out)⟩, ⟨(zK AQ.out)⟩, ⟨zB HB.out⟩⟩
 }
 · rw [if_neg Az] at H; exact absurd H (by simp)
 }
 · rw [if_neg Ay] at H; exact absurd H (by simp)
 }
 · rw [if_neg Ax] at H; exact absurd H (by simp)
 }
 · rw [if_neg A0] at H; exact absurd H (by simp)
 }
 · rw [if_neg A2] at H; exact absurd H (by simp)
 }
 · rw [if_neg c8] at H; exact absurd H (by simp)
 }
 · rw [if_neg c7] at H; exact absurd H (by simp)
 }
 · rw [if_neg c6] at H; exact absurd H (by simp)
 }
 {
 rw [if_neg c5] at H
 have A7 : decide (AA < (l1.length : Int)) = false := decide_eq_false c5
 clear c5
 obtain rfl := Option.some.inj H
 go_wp2
 go_ret
 exact ⟨_, rfl, AV.out, zB HB.out⟩
 }
 )
 )
end Go.Proofs.Ytooidjdgfoioiaa.P
