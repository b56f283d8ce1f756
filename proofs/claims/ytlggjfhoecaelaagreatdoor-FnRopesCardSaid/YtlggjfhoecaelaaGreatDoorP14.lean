-- Printed by wip/print (my turned copy of the kit's print) out of the translation; Lean checks it.
import Derived.Test.YtlggjfhoecaelaaGreatDoorP0
import Derived.Test.YtlggjfhoecaelaaGreatDoorP8
namespace Go.Proofs.YtlggjfhoecaelaaGreatDoor.P
open Go.RowKit Go.Proofs.YtlggjfhoecaelaaGreatDoorW.PrintWords Go.Proofs.YtlggjfhoecaelaaGreatDoorW.PrintLast Go.Proofs.YtlggjfhoecaelaaGreatDoorW.PrintMore
attribute [local go_sem] max2_int min2_int max_two min_two max_three min_three max_four min_four   -- for this text's walks alone
set_option linter.unusedVariables false
set_option linter.unusedSimpArgs false

/-! ### impl_GapsOf: function 23 -/
def impl_GapsOf.l0 : Nat → List (S52) → List Int → Int → Int → List Int → Option (List Int × Int)
  | 0, _, _, _, _, _ => none
  | k + 1, x1, x6, x7, AB, AA => if x7 < (x1.length : Int) then (if 0 ≤ x7 then (if 0 ≤ ((rd_T52 x1 x7).f1) then (if ((rd_T52 x1 x7).f1) < (AA.length : Int) then (if 0 ≤ (wrap64 (x7 - 1)) then (if (wrap64 (x7 - 1)) < (x1.length : Int) then (if 0 ≤ ((rd_T52 x1 (wrap64 (x7 - 1))).f1) then (if ((rd_T52 x1 (wrap64 (x7 - 1))).f1) < (AA.length : Int) then (if x6.length < 17592186044416 then (impl_GapsOf.l0 k x1 (x6 ++ [wrap64 (IntKind.i16.wrap ((rd AA ((rd_T52 x1 x7).f1)) - (rd AA ((rd_T52 x1 (wrap64 (x7 - 1))).f1))))]) (wrap64 (x7 + 1)) AB AA) else (none)) else (none)) else (none)) else (none)) else (none)) else (none)) else (none)) else (none)) else (some (x6, 0))
def impl_GapsOf.f (k : Nat) (AB : Int) (AA : List Int) (l1 : List (S52)) : Option (List Int × Int) := (impl_ValidHolds.f k AB AA l1).bind fun AC => (if AC = true then (impl_GapsOf.l0 k l1 (([] : List Int)) 1 AB AA) else (some (([] : List Int), 1)))
def impl_GapsOf.T7 : Bool × List (List Nat × List Nat) := (true, [([], []), ([], []), ([1], [1]), ([], []), ([], []), ([3, 4], [3, 4]), ([5], [5]), ([6], [6]), ([2, 7], [2, 7]), ([8], [8]), ([], []), ([10], [10]), ([], []), ([], []), ([13], [13]), ([12, 14], [12, 14]), ([15], [15]), ([16], [16]), ([11, 17], [11, 17]), ([18], [18]), ([9, 19], [9, 19]), ([20], [20]), ([21], [21]), ([0, 22], [0, 22]), ([23, 23, 0, 1, 2, 3, 4, 5, 6, 7, 8, 9, 10, 11, 12, 13, 14, 15, 16, 17, 18, 19, 20, 21, 22, 23], [0, 23])])
def impl_GapsOf.B7 : List Nat := [0, 0, 2, 0, 0, 24, 56, 120, 254, 510, 0, 1024, 0, 0, 8192, 28672, 61440, 126976, 261120, 523264, 1048574, 2097150, 4194302, 8388607, 16777215]
theorem impl_GapsOf.tab7 : rtab .any (opsOf Tryz.f23 7) = impl_GapsOf.T7 := by kernel_rfl
theorem impl_GapsOf.bits7 : waitsOk impl_GapsOf.T7.2 impl_GapsOf.B7 = true := by kernel_rfl
set_option maxHeartbeats 8000000 in
set_option maxRecDepth 100000 in
theorem impl_GapsOf.calls (k : Nat) (AL : Int) (AZ : Option Addr) (AT : Nat) (AC : List Int) (A1 : Option Addr) (c1 : Nat) (l1 : List (S52)) (r1 : List Int) (r2 : Int) (w : World) (Ae : Kd.C (Kd.int .i16) w AZ AC.length AC) (Af : AC.length ≤ AT) (BX : Kd.C k52 w A1 l1.length l1) (BZ : l1.length ≤ c1) (h : impl_GapsOf.f k AL AC l1 = some (r1, r2)) :
    Calls Tryz.prog 23 #[.agg #[.int .i16 AL, .slice AZ AC.length AT], .slice A1 l1.length c1] w fun e w' => ∃ v0_ : Value, e = .returned (.tuple #[v0_, .int .i64 r2]) ∧ Kd.R (Kd.int .i64) 2 w' w.heap.size (fun _ => True) v0_ r1 ∧ Below w.heap.size w w' := by
 have Bf := Tryz.underlying27
 have Aa := ak Ae
 have Ag := ak Af
 clear Ae Af
 have BJ := ak BX
 have Bb := ak BZ
 clear BX BZ
 have HB := ak (Below.refl w.heap.size w)
 have H := h
 unfold impl_GapsOf.f at H
 clear h
 replace H := Option.bind_eq_some_iff.mp H
 obtain ⟨BN, Ba, H⟩ := H
 have A3 := ak Ba
 clear Ba
 by_cases c4 : BN = true
 {
 subst c4
 rw [if_pos rfl] at H
 obtain ⟨A4, AW⟩ : ∃ y_ : List Int, y_ = (([] : List Int)) := ⟨_, rfl⟩
 replace H : (impl_GapsOf.l0 k l1 A4 1 AL AC) = some (r1, r2) := by first | (rw [AW]; with_reducible exact H) | (have Al := (Option.bind_some _ _).symm.trans H; rw [AW]; with_reducible exact Al) | (have Al := (Option.bind_some _ _).symm.trans H; with_reducible exact Al) | with_reducible exact H | (rw [AW]; exact H) | exact H
 have Ad := ak AW
 clear AW
 have H' := ak H
 clear H
 go_enter Tryz.func23, Tryz.ntmps23
 go_wp2_with (first | ((with_reducible refine gate_dst (N := 2) rfl ?_); refine box_event ?hg (N := 2) ?hd (cs := #[.int .i16 AL, .slice AZ AC.length AT]) (t := 27) ?hr ?_; (case hd => rfl); (case hg => rfl); (case hr => first | (go_simp; done) | (go_simp; rfl)); intro AV hg w5 hbox hb; have AA := ak (hbox); have Av := gS HB hg; have AK := gS HB hg; replace HB := kB HB hb; clear hb hbox hg; obtain ⟨As, Ah, Aq, An⟩ := cz2 w5 AA) | ((with_reducible refine gate_callee (f := 15) rfl ?_); refine goesL_ (some 10) rfl rfl Tryz.func15 (by kernel_rfl) rfl #[.agg #[.int .i16 AL, .slice AZ AC.length AT], .slice A1 l1.length c1] rfl gl_ ?_; (with_reducible refine (impl_ValidHolds.calls k AL _ _ AC _ _ l1 true _ ?side1 ?side2 ?side3 ?side4 A3.out).mono ?_); (case side1 => exact sQ (Kd.C_below Aa.out HB.out)); (case side2 => exact Ag.out); (case side3 => exact sQ (Kd.C_below BJ.out HB.out)); (case side4 => exact Bb.out); rintro e w7 ⟨rfl, hb⟩; refine ⟨_, rfl, ?_⟩; replace AA := kK AA hb; replace HB := kB1 HB AK hb; (try clear hb)) | ((with_reducible refine gate_dst (N := 12) rfl ?_); refine Kd.R_lit (Kd.int .i64) _ 2 ?hg (N := 12) ?hd (xs := ([] : List Int)) (inner := []) (ok := fun _ => True) (okp := fun _ => True) ?hr ?hp (fun _ hk => hk) trivial (Below.refl _ _) (Nat.le_refl _) (by simp) ?_; (case hd => rfl); (case hg => rfl); (case hr => first | (go_simp; done) | (go_simp; rfl)); (case hp => exact (Reps.none _ _)); intro Bi w8 A0 hb Be A6; clear Be A6; (first | rw [← Ad.out] at A0 | (simp only [Int.reduceToNat] at A0; rw [← Ad.out] at A0)); have A8 := ak (Kd.R_lower A0 (below_size (zBG HB.out AK.out))); replace AA := kK AA hb; replace HB := kB1 HB AK hb; clear hb A0))
 go_loopg [6, 7] k (fun kq v6 v7 w' => ∃ (Ab : List Int) (AB : Int), v7 = .int .i64 AB ∧ Aside0 (impl_GapsOf.l0 kq l1 Ab AB AL AC = some (r1, r2)) ∧ Aside0 (kq ≤ k) ∧ Aside0 (Kd.R (Kd.int .i64) 2 w' w.heap.size (fun _ => True) v6 Ab) ∧ Aside0 (w'.heap[AV]? = some (.cells #[.int .i16 AL, (.slice AZ AC.length AT)] 27 (0, 0))) ∧ Aside0 (Below w.heap.size w w'))
 case atStart => exact ⟨(A4), (1), rfl, H', ⟨Nat.le_refl _⟩, ⟨(zR A8.out)⟩, ⟨(zK AA.out)⟩, ⟨zBG HB.out AK.out⟩⟩
 case round => (
 clear H'
 obtain ⟨Ab, AB, rfl, HA, BV, AY, AA, HB⟩ := hrel
 cases gk with
 | zero => exact absurd HA.out (by simp [impl_GapsOf.l0])
 | succ k1 => (
 have H := HA.out
 clear HA
 simp only [impl_GapsOf.l0] at H
 by_cases Au : AB < (l1.length : Int)
 {
 rw [if_pos Au] at H
 have Ax : decide (AB < (l1.length : Int)) = true := decide_eq_true Au
 clear Au
 by_cases BA : 0 ≤ AB
 {
 rw [if_pos BA] at H
 have BT : decide (0 ≤ AB) = true := decide_eq_true BA
 clear BA
 by_cases A9 : 0 ≤ ((rd_T52 l1 AB).f1)
 {
 rw [if_pos A9] at H
 have Bc : decide (0 ≤ ((rd_T52 l1 AB).f1)) = true := decide_eq_true A9
 clear A9
 by_cases BL : ((rd_T52 l1 AB).f1) < (AC.length : Int)
 {
 rw [if_pos BL] at H
 have BW : decide (((rd_T52 l1 AB).f1) < (AC.length : Int)) = true := decide_eq_true BL
 clear BL
 obtain ⟨AD, Ac⟩ : ∃ j_ : Int, (wrap64 (AB - 1)) = j_ := ⟨_, rfl⟩
 first | rw [Ac] at H | simp only [Ac] at H
 have BR : (IntKind.i64.wrap (AB - 1)) = AD := (i64_w _).trans Ac
 by_cases BC : 0 ≤ (AD)
 {
 rw [if_pos BC] at H
 have BS : decide (0 ≤ (AD)) = true := decide_eq_true BC
 clear BC
 by_cases BE : (AD) < (l1.length : Int)
 {
 rw [if_pos BE] at H
 have BY : decide ((AD) < (l1.length : Int)) = true := decide_eq_true BE
 clear BE
 by_cases BB : 0 ≤ ((rd_T52 l1 (AD)).f1)
 {
 rw [if_pos BB] at H
 have BU : decide (0 ≤ ((rd_T52 l1 (AD)).f1)) = true := decide_eq_true BB
 clear BB
 by_cases BG : ((rd_T52 l1 (AD)).f1) < (AC.length : Int)
 {
 rw [if_pos BG] at H
 have Bd : decide (((rd_T52 l1 (AD)).f1) < (AC.length : Int)) = true := decide_eq_true BG
 clear BG
 by_cases BH : Ab.length < 17592186044416
 {
 rw [if_pos BH] at H
 have Ay := ak BH
 clear BH
 obtain ⟨A2, AU⟩ : ∃ y_ : List Int, y_ = (Ab ++ [wrap64 (IntKind.i16.wrap ((rd AC ((rd_T52 l1 AB).f1)) - (rd AC ((rd_T52 l1 (AD)).f1))))]) := ⟨_, rfl⟩
 replace H : (impl_GapsOf.l0 k1 l1 A2 (wrap64 (AB + 1)) AL AC) = some (r1, r2) := by first | (rw [AU]; with_reducible exact H) | (have Al := (Option.bind_some _ _).symm.trans H; rw [AU]; with_reducible exact Al) | (have Al := (Option.bind_some _ _).symm.trans H; with_reducible exact Al) | with_reducible exact H | (rw [AU]; exact H) | exact H
 have Aw := ak AU
 clear AU
 have H' := ak H
 clear H
 try go_wp2
 replace AY := ak (Kd.R_drew AY.out)
 replace AA := ak (blk_drew AA.out)
 replace HB := ak (below_drew1 HB.out)
 have Ar : 0 ≤ (AB : Int) := of_decide_eq_true (by assumption)
 have Aj : AB < (l1.length : Int) := of_decide_eq_true (by assumption)
 obtain ⟨AS, BM, AO, AQ⟩ := at_T52 BJ.out AB Ar Aj
 have AJ := AQ
 have AE := AO
 cases BM
 replace AO := (HB.out.cell (World.block_lt_of_cell? w _ AO)).trans AO
 replace AQ := (HB.out.cell (World.block_lt_of_cell? w _ AQ)).trans AQ
 replace Ar := eq_true Ar
 replace Aj := eq_true Aj
 have At : 0 ≤ (((rd_T52 l1 AB).f1) : Int) := of_decide_eq_true (by assumption)
 have Ap : ((rd_T52 l1 AB).f1) < (AC.length : Int) := of_decide_eq_true (by assumption)
 obtain ⟨AX, BP, AR⟩ := Kd.at_int Aa.out ((rd_T52 l1 AB).f1) At Ap
 have AH := AR
 cases BP
 replace AR := (HB.out.cell (World.block_lt_of_cell? w _ AR)).trans AR
 replace At := eq_true At
 replace Ap := eq_true Ap
 have Ai : 0 ≤ ((AD) : Int) := of_decide_eq_true (by assumption)
 have Am : (AD) < (l1.length : Int) := of_decide_eq_true (by assumption)
 obtain ⟨A5, BO, AP, AN⟩ := at_T52 BJ.out (AD) Ai Am
 have AF := AN
 have AI := AP
 obtain rfl : AS = A5 := (by injection BO)
 replace AP := (HB.out.cell (World.block_lt_of_cell? w _ AP)).trans AP
 replace AN := (HB.out.cell (World.block_lt_of_cell? w _ AN)).trans AN
 replace Ai := eq_true Ai
 replace Am := eq_true Am
 have Ao : 0 ≤ (((rd_T52 l1 (AD)).f1) : Int) := of_decide_eq_true (by assumption)
 have Ak : ((rd_T52 l1 (AD)).f1) < (AC.length : Int) := of_decide_eq_true (by assumption)
 obtain ⟨A7, BQ, AM⟩ := Kd.at_int Aa.out ((rd_T52 l1 (AD)).f1) Ao Ak
 have AG := AM
 obtain rfl : AX = A7 := (by injection BQ)
 replace AM := (HB.out.cell (World.block_lt_of_cell? w _ AM)).trans AM
 replace Ao := eq_true Ao
 replace Ak := eq_true Ak
 refine start_ (n := 25) (S := fun w' => w'.cell? ⟨AV, 0, none⟩ = some (.int .i16 AL) ∧ w'.cell? ⟨AV, 1, none⟩ = some (.slice (some AX) AC.length AT) ∧ w'.cell? (AS.add ((AB).toNat * 2)) = some (.int .i16 ((rd_T52 l1 AB).f0)) ∧ w'.cell? ⟨(AS.add ((AB).toNat * 2)).block, (AS.add ((AB).toNat * 2)).off + 1, none⟩ = some (.int .i8 ((rd_T52 l1 AB).f1)) ∧ w'.cell? (AX.add (((rd_T52 l1 AB).f1)).toNat) = some (.int .i16 (rd AC ((rd_T52 l1 AB).f1))) ∧ w'.cell? (AS.add (((AD)).toNat * 2)) = some (.int .i16 ((rd_T52 l1 (AD)).f0)) ∧ w'.cell? ⟨(AS.add (((AD)).toNat * 2)).block, (AS.add (((AD)).toNat * 2)).off + 1, none⟩ = some (.int .i8 ((rd_T52 l1 (AD)).f1)) ∧ w'.cell? (AX.add (((rd_T52 l1 (AD)).f1)).toNat) = some (.int .i16 (rd AC ((rd_T52 l1 (AD)).f1)))) (ds := []) (bA 25 0) (by kernel_rfl) rfl rfl ⟨(blk_cell AA.out 0).trans rfl, (blk_cell AA.out 1).trans rfl, ((HB.out.cell (World.block_lt_of_cell? w _ AE)).trans AE), ((HB.out.cell (World.block_lt_of_cell? w _ AJ)).trans AJ), ((HB.out.cell (World.block_lt_of_cell? w _ AH)).trans AH), ((HB.out.cell (World.block_lt_of_cell? w _ AI)).trans AI), ((HB.out.cell (World.block_lt_of_cell? w _ AF)).trans AF), ((HB.out.cell (World.block_lt_of_cell? w _ AG)).trans AG)⟩ (fun hHeld => ?_); refine with_tabW impl_GapsOf.tab7 impl_GapsOf.bits7 (fun HT_ HW_ => ?_)
 generalize wr.drew = Bj at AY AA HB AO AQ AR AP AN AM hHeld ⊢
 refine pU 0 19 (bA 25 1) HT_ ?_
 refine pU 1 20 (bA 25 3) HT_ ?_
 refine pU 3 22 (bA 25 11) HT_ ?_
 refine pU 4 23 (bA 25 27) HT_ ?_
 refine pU 5 24 (bA 25 59) HT_ ?_
 refine pU 6 25 (bA 25 123) HT_ ?_
 refine pU 10 29 (bA 25 1147) HT_ ?_
 refine pU 12 31 (bA 25 5243) HT_ ?_
 refine pU 13 32 (bA 25 13435) HT_ ?_
 refine pU 14 33 (bA 25 29819) HT_ ?_
 refine pU 15 34 (bA 25 62587) HT_ ?_
 refine pU 16 35 (bA 25 128123) HT_ ?_
 refine tK 2 21 (bA 25 128127) HT_ HW_ hHeld ?_
 refine tK 7 26 (bA 25 128255) HT_ HW_ hHeld ?_
 refine pU 8 27 (bA 25 128511) HT_ ?_
 refine tK 9 28 (bA 25 129023) HT_ HW_ hHeld ?_
 refine tK 11 30 (bA 25 131071) HT_ HW_ hHeld ?_
 refine tK 17 36 (bA 25 262143) HT_ HW_ hHeld ?_
 refine pU 18 37 (bA 25 524287) HT_ ?_
 refine tK 19 38 (bA 25 1048575) HT_ HW_ hHeld ?_
 refine pU 20 39 (bA 25 2097151) HT_ ?_
 refine pU 21 40 (bA 25 4194303) HT_ ?_
 refine one_ (i := 22) (N := some 41) (bA 25 8388607) rfl rfl (one_of HT_.out (by kernel_rfl)) (by decide) (fun K hK => ?_)
 refine value_ (w1 := ?_) (v := ?_) (by rfl) rfl ?_ ?_
 rotate_left 2
 {
 go_simp
 constructor
 · rfl
 · rfl
 }
 refine hK.out _ _ ⟨(blk_cell (blk_alloc AA.out _) 0).trans rfl, (blk_cell (blk_alloc AA.out _) 1).trans rfl, (World.cell?_alloc_lt _ _ _ (World.block_lt_of_cell? _ _ (((HB.out.cell (World.block_lt_of_cell? w _ AE)).trans AE)))).trans (((HB.out.cell (World.block_lt_of_cell? w _ AE)).trans AE)), (World.cell?_alloc_lt _ _ _ (World.block_lt_of_cell? _ _ (((HB.out.cell (World.block_lt_of_cell? w _ AJ)).trans AJ)))).trans (((HB.out.cell (World.block_lt_of_cell? w _ AJ)).trans AJ)), (World.cell?_alloc_lt _ _ _ (World.block_lt_of_cell? _ _ (((HB.out.cell (World.block_lt_of_cell? w _ AH)).trans AH)))).trans (((HB.out.cell (World.block_lt_of_cell? w _ AH)).trans AH)), (World.cell?_alloc_lt _ _ _ (World.block_lt_of_cell? _ _ (((HB.out.cell (World.block_lt_of_cell? w _ AI)).trans AI)))).trans (((HB.out.cell (World.block_lt_of_cell? w _ AI)).trans AI)), (World.cell?_alloc_lt _ _ _ (World.block_lt_of_cell? _ _ (((HB.out.cell (World.block_lt_of_cell? w _ AF)).trans AF)))).trans (((HB.out.cell (World.block_lt_of_cell? w _ AF)).trans AF)), (World.cell?_alloc_lt _ _ _ (World.block_lt_of_cell? _ _ (((HB.out.cell (World.block_lt_of_cell? w _ AG)).trans AG)))).trans (((HB.out.cell (World.block_lt_of_cell? w _ AG)).trans AG))⟩ (fun hHeld => ?_)
 clear hK K
 refine norm_ (a' := ?_) ?_ ?_
 rotate_left
 {
 show Act.put _ (some 41) _ = _
 simp only [Act.put, zs, zz, zk, i64_w, i32_w]
 rfl
 }
 refine one_ (i := 23) (N := some 42) (bA 25 16777215) rfl rfl (one_of HT_.out (by kernel_rfl)) (by decide) (fun K hK => ?_)
 refine Kd.R_append_step (Kd.int .i64) (w0 := w) w.heap.size (by rfl) (.tmp 19) (.tmp 41) 34 2 (.int .i64 0) 8 rfl Tryz.underlying34 info2 rfl (by decide) (by omega) u6 Ab (wrap64 (IntKind.i16.wrap ((rd AC ((rd_T52 l1 AB).f1)) - (rd AC ((rd_T52 l1 (AD)).f1))))) [.int .i64 (wrap64 (IntKind.i16.wrap ((rd AC ((rd_T52 l1 AB).f1)) - (rd AC ((rd_T52 l1 (AD)).f1)))))] (fun _ => True) (fun _ => False) rfl rfl ?aP (fun _ hk => hk.elim) ?aF ?aO ?aB ?aS ?aL ?_
 (case aP => exact rfl)
 (case aB => exact (zBG HB.out AK.out))
 (case aF => exact (fun _ _ => trivial))
 (case aO => exact (zR AY.out))
 (case aS => exact (below_size (zBG HB.out AK.out)))
 (case aL => have := Ay.out; omega)
 intro Bg Bk ho hb hg hat
 rw [← Aw.out] at ho
 have Az := ak (ho)
 replace AA := ak (blk_grown (g := AV) (o := .cells #[.int .i16 AL, .slice (some AX) AC.length AT] 27 (0, 0)) (zK AA.out) hg (Kd.R_ne AY.out AA.out (by decide)))
 replace HB := ak (hb)
 clear AY
 refine hK.out _ _ ⟨(blk_cell AA.out 0).trans rfl, (blk_cell AA.out 1).trans rfl, ((HB.out.cell (World.block_lt_of_cell? w _ AE)).trans AE), ((HB.out.cell (World.block_lt_of_cell? w _ AJ)).trans AJ), ((HB.out.cell (World.block_lt_of_cell? w _ AH)).trans AH), ((HB.out.cell (World.block_lt_of_cell? w _ AI)).trans AI), ((HB.out.cell (World.block_lt_of_cell? w _ AF)).trans AF), ((HB.out.cell (World.block_lt_of_cell? w _ AG)).trans AG)⟩ (fun hHeld => ?_)
 clear hK K
 refine norm_ (a' := ?_) ?_ ?_
 rotate_left
 {
 show Act.put _ (some 42) _ = _
 simp only [Act.put, zs, zz, zk, i64_w, i32_w]
 rfl
 }
 refine pU 24 6 (bA 25 33554431) HT_ ?_
 refine done_ (done_of HT_.out (by kernel_rfl)) ?_
 try go_wp2
 go_roundg k1
 case measure => have := BV.out; omega
 case rel => exact ⟨(A2), (wrap64 (AB + 1)), rfl, H', ⟨by have := BV.out; omega⟩, ⟨(zR Az.out)⟩, ⟨(zK AA.out)⟩, ⟨zBG HB.out AK.out⟩⟩
 }
 · rw [if_neg BH] at H; exact absurd H (by simp)
 }
 · rw [if_neg BG] at H; exact absurd H (by simp)
 }
 · rw [if_neg BB] at H; exact absurd H (by simp)
 }
 · rw [if_neg BE] at H; exact absurd H (by simp)
 }
 · rw [if_neg BC] at H; exact absurd H (by simp)
 }
 · rw [if_neg BL] at H; exact absurd H (by simp)
 }
 · rw [if_neg A9] at H; exact absurd H (by simp)
 }
 · rw [if_neg BA] at H; exact absurd H (by simp)
 }
 {
 rw [if_neg Au] at H
 have Ax : decide (AB < (l1.length : Int)) = false := decide_eq_false Au
 clear Au
 simp only [Option.some.injEq, Prod.mk.injEq] at H
 obtain ⟨rfl, rfl⟩ := H
 go_wp2
 go_ret2
 exact ⟨_, rfl, AY.out, zBG HB.out AK.out⟩
 }
 )
 )
 }
 {
 replace c4 := Bool.eq_false_iff.mpr c4
 subst c4
 rw [if_neg (show ¬ (false = true) by decide)] at H
 simp only [Option.some.injEq, Prod.mk.injEq] at H
 obtain ⟨rfl, rfl⟩ := H
 go_enter Tryz.func23, Tryz.ntmps23
 go_wp2_with (first | ((with_reducible refine gate_dst (N := 2) rfl ?_); refine box_event ?hg (N := 2) ?hd (cs := #[.int .i16 AL, .slice AZ AC.length AT]) (t := 27) ?hr ?_; (case hd => rfl); (case hg => rfl); (case hr => first | (go_simp; done) | (go_simp; rfl)); intro AV hg Bh hbox hb; have AA := ak (hbox); have Av := gS HB hg; have AK := gS HB hg; replace HB := kB HB hb; clear hb hbox hg; obtain ⟨BI, BK, BF, BD⟩ := cz2 Bh AA) | ((with_reducible refine gate_callee (f := 15) rfl ?_); refine goesL_ (some 10) rfl rfl Tryz.func15 (by kernel_rfl) rfl #[.agg #[.int .i16 AL, .slice AZ AC.length AT], .slice A1 l1.length c1] rfl gl_ ?_; (with_reducible refine (impl_ValidHolds.calls k AL _ _ AC _ _ l1 false _ ?side1 ?side2 ?side3 ?side4 A3.out).mono ?_); (case side1 => exact sQ (Kd.C_below Aa.out HB.out)); (case side2 => exact Ag.out); (case side3 => exact sQ (Kd.C_below BJ.out HB.out)); (case side4 => exact Bb.out); rintro e Bl ⟨rfl, hb⟩; refine ⟨_, rfl, ?_⟩; replace AA := kK AA hb; replace HB := kB1 HB AK hb; (try clear hb)))
 go_ret2
 exact ⟨_, rfl, by first | exact Kd.R_nil _ _ _ _ _ | exact Kd.N_nil _ _ _ _ _ | exact Kd.V_nil _ _ _ _ _ | exact Kd.Q_nil _ _ _ _ _ | exact Kd.S_nil _ _ _ _ _, zBG HB.out AK.out⟩
 }
end Go.Proofs.YtlggjfhoecaelaaGreatDoor.P
