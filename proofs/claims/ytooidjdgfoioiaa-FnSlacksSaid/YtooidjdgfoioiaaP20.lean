-- Printed by wip/print (my turned copy of the kit's print) out of the translation; Lean checks it.
import Derived.Test.YtooidjdgfoioiaaP0
import Derived.Test.YtooidjdgfoioiaaP19
namespace Go.Proofs.Ytooidjdgfoioiaa.P
open Go.RowKit Go.Proofs.YtooidjdgfoioiaaW.PrintWords Go.Proofs.YtooidjdgfoioiaaW.PrintLast Go.Proofs.YtooidjdgfoioiaaW.PrintMore
attribute [local go_sem] max2_int min2_int max_two min_two max_three min_three max_four min_four   -- for this text's walks alone
set_option linter.unusedVariables false
set_option linter.unusedSimpArgs false

/-! ### impl_GapsOf: function 66 -/
def impl_GapsOf.l0 : Nat → List (S65) → List Int → Int → Int → List Int → Option (List Int × Int)
  | 0, _, _, _, _, _ => none
  | k + 1, x1, x6, x7, AB, AA => if x7 < (x1.length : Int) then (if 0 ≤ x7 then (if 0 ≤ ((rd_T65 x1 x7).f1) then (if ((rd_T65 x1 x7).f1) < (AA.length : Int) then (if 0 ≤ (wrap64 (x7 - 1)) then (if (wrap64 (x7 - 1)) < (x1.length : Int) then (if 0 ≤ ((rd_T65 x1 (wrap64 (x7 - 1))).f1) then (if ((rd_T65 x1 (wrap64 (x7 - 1))).f1) < (AA.length : Int) then (if x6.length < 17592186044416 then (impl_GapsOf.l0 k x1 (x6 ++ [wrap64 (IntKind.i16.wrap ((rd AA ((rd_T65 x1 x7).f1)) - (rd AA ((rd_T65 x1 (wrap64 (x7 - 1))).f1))))]) (wrap64 (x7 + 1)) AB AA) else (none)) else (none)) else (none)) else (none)) else (none)) else (none)) else (none)) else (none)) else (some (x6, 0))
def impl_GapsOf.f (k : Nat) (AB : Int) (AA : List Int) (l1 : List (S65)) : Option (List Int × Int) := (impl_ValidHolds.f k AB AA l1).bind fun AC => (if AC = true then (impl_GapsOf.l0 k l1 (([] : List Int)) 1 AB AA) else (some (([] : List Int), 1)))
def impl_GapsOf.T7 : Bool × List (List Nat × List Nat) := (true, [([], []), ([], []), ([1], [1]), ([], []), ([], []), ([3, 4], [3, 4]), ([5], [5]), ([6], [6]), ([2, 7], [2, 7]), ([8], [8]), ([], []), ([10], [10]), ([], []), ([], []), ([13], [13]), ([12, 14], [12, 14]), ([15], [15]), ([16], [16]), ([11, 17], [11, 17]), ([18], [18]), ([9, 19], [9, 19]), ([20], [20]), ([21], [21]), ([0, 22], [0, 22]), ([23, 23, 0, 1, 2, 3, 4, 5, 6, 7, 8, 9, 10, 11, 12, 13, 14, 15, 16, 17, 18, 19, 20, 21, 22, 23], [0, 23])])
def impl_GapsOf.B7 : List Nat := [0, 0, 2, 0, 0, 24, 56, 120, 254, 510, 0, 1024, 0, 0, 8192, 28672, 61440, 126976, 261120, 523264, 1048574, 2097150, 4194302, 8388607, 16777215]
theorem impl_GapsOf.tab7 : rtab .any (opsOf Try.f66 7) = impl_GapsOf.T7 := by kernel_rfl
theorem impl_GapsOf.bits7 : waitsOk impl_GapsOf.T7.2 impl_GapsOf.B7 = true := by kernel_rfl
set_option maxHeartbeats 8000000 in
set_option maxRecDepth 100000 in
theorem impl_GapsOf.calls (k : Nat) (AQ : Int) (AZ : Option Addr) (AT : Nat) (AC : List Int) (A1 : Option Addr) (c1 : Nat) (l1 : List (S65)) (r1 : List Int) (r2 : Int) (w : World) (Ag : Kd.C (Kd.int .i16) w AZ AC.length AC) (Ae : AC.length ≤ AT) (Ba : Kd.C k65 w A1 l1.length l1) (Bb : l1.length ≤ c1) (h : impl_GapsOf.f k AQ AC l1 = some (r1, r2)) :
    Calls Try.prog 66 #[.agg #[.int .i16 AQ, .slice AZ AC.length AT], .slice A1 l1.length c1] w fun e w' => ∃ v0_ : Value, e = .returned (.tuple #[v0_, .int .i64 r2]) ∧ Kd.R (Kd.int .i64) 2 w' w.heap.size (fun _ => True) v0_ r1 ∧ Below w.heap.size w w' := by
 have Bh := Try.underlying32
 have Aa := ak Ag
 have Af := ak Ae
 clear Ag Ae
 have BB := ak Ba
 have BV := ak Bb
 clear Ba Bb
 have HB := ak (Below.refl w.heap.size w)
 have H := h
 unfold impl_GapsOf.f at H
 clear h
 replace H := Option.bind_eq_some_iff.mp H
 obtain ⟨BN, BW, H⟩ := H
 have A3 := ak BW
 clear BW
 by_cases c4 : BN = true
 {
 subst c4
 rw [if_pos rfl] at H
 obtain ⟨A0, AU⟩ : ∃ y_ : List Int, y_ = (([] : List Int)) := ⟨_, rfl⟩
 replace H : (impl_GapsOf.l0 k l1 A0 1 AQ AC) = some (r1, r2) := by first | (rw [AU]; with_reducible exact H) | (have At := (Option.bind_some _ _).symm.trans H; rw [AU]; with_reducible exact At) | (have At := (Option.bind_some _ _).symm.trans H; with_reducible exact At) | with_reducible exact H | (rw [AU]; exact H) | exact H
 have Ad := ak AU
 clear AU
 have H' := ak H
 clear H
 go_enter Try.func66, Try.ntmps66
 go_wp2_with (first | ((with_reducible refine gate_dst (N := 2) rfl ?_); refine box_event ?hg (N := 2) ?hd (cs := #[.int .i16 AQ, .slice AZ AC.length AT]) (t := 32) ?hr ?_; (case hd => rfl); (case hg => rfl); (case hr => first | (go_simp; done) | (go_simp; rfl)); intro AW hg w5 hbox hb; have AA := ak (hbox); have A4 := gS HB hg; have AK := gS HB hg; replace HB := kB HB hb; clear hb hbox hg; obtain ⟨Aj, Ai, Ah, Ap⟩ := cz2 w5 AA) | ((with_reducible refine gate_callee (f := 87) rfl ?_); refine goesL_ (some 10) rfl rfl Try.func87 (by kernel_rfl) rfl #[.agg #[.int .i16 AQ, .slice AZ AC.length AT], .slice A1 l1.length c1] rfl gl_ ?_; (with_reducible refine (impl_ValidHolds.calls k AQ _ _ AC _ _ l1 true _ ?side1 ?side2 ?side3 ?side4 A3.out).mono ?_); (case side1 => exact sQ (Kd.C_below Aa.out HB.out)); (case side2 => exact Af.out); (case side3 => exact sQ (Kd.C_below BB.out HB.out)); (case side4 => exact BV.out); rintro e w7 ⟨rfl, hb⟩; refine ⟨_, rfl, ?_⟩; replace AA := kK AA hb; replace HB := kB1 HB AK hb; (try clear hb)) | ((with_reducible refine gate_dst (N := 12) rfl ?_); refine Kd.R_lit (Kd.int .i64) _ 2 ?hg (N := 12) ?hd (xs := ([] : List Int)) (inner := []) (ok := fun _ => True) (okp := fun _ => True) ?hr ?hp (fun _ hk => hk) trivial (Below.refl _ _) (Nat.le_refl _) (by simp) ?_; (case hd => rfl); (case hg => rfl); (case hr => first | (go_simp; done) | (go_simp; rfl)); (case hp => exact (Reps.none _ _)); intro Be w8 Az hb Bg A6; clear Bg A6; (first | rw [← Ad.out] at Az | (simp only [Int.reduceToNat] at Az; rw [← Ad.out] at Az)); have A7 := ak (Kd.R_lower Az (below_size (zBG HB.out AK.out))); replace AA := kK AA hb; replace HB := kB1 HB AK hb; clear hb Az))
 go_loopg [6, 7] k (fun kq v6 v7 w' => ∃ (Ab : List Int) (AB : Int), v7 = .int .i64 AB ∧ Aside0 (impl_GapsOf.l0 kq l1 Ab AB AQ AC = some (r1, r2)) ∧ Aside0 (kq ≤ k) ∧ Aside0 (Kd.R (Kd.int .i64) 2 w' w.heap.size (fun _ => True) v6 Ab) ∧ Aside0 (w'.heap[AW]? = some (.cells #[.int .i16 AQ, (.slice AZ AC.length AT)] 32 (0, 0))) ∧ Aside0 (Below w.heap.size w w'))
 case atStart => exact ⟨(A0), (1), rfl, H', ⟨Nat.le_refl _⟩, ⟨(zR A7.out)⟩, ⟨(zK AA.out)⟩, ⟨zBG HB.out AK.out⟩⟩
 case round => (
 clear H'
 obtain ⟨Ab, AB, rfl, HA, BZ, AY, AA, HB⟩ := hrel
 cases gk with
 | zero => exact absurd HA.out (by simp [impl_GapsOf.l0])
 | succ k1 => (
 have H := HA.out
 clear HA
 simp only [impl_GapsOf.l0] at H
 by_cases Au : AB < (l1.length : Int)
 {
 rw [if_pos Au] at H
 have A2 : decide (AB < (l1.length : Int)) = true := decide_eq_true Au
 clear Au
 by_cases BK : 0 ≤ AB
 {
 rw [if_pos BK] at H
 have BX : decide (0 ≤ AB) = true := decide_eq_true BK
 clear BK
 by_cases BA : 0 ≤ ((rd_T65 l1 AB).f1)
 {
 rw [if_pos BA] at H
 have Bc : decide (0 ≤ ((rd_T65 l1 AB).f1)) = true := decide_eq_true BA
 clear BA
 by_cases BE : ((rd_T65 l1 AB).f1) < (AC.length : Int)
 {
 rw [if_pos BE] at H
 have BU : decide (((rd_T65 l1 AB).f1) < (AC.length : Int)) = true := decide_eq_true BE
 clear BE
 obtain ⟨AD, Ac⟩ : ∃ j_ : Int, (wrap64 (AB - 1)) = j_ := ⟨_, rfl⟩
 first | rw [Ac] at H | simp only [Ac] at H
 have BR : (IntKind.i64.wrap (AB - 1)) = AD := (i64_w _).trans Ac
 by_cases BC : 0 ≤ (AD)
 {
 rw [if_pos BC] at H
 have Bd : decide (0 ≤ (AD)) = true := decide_eq_true BC
 clear BC
 by_cases BF : (AD) < (l1.length : Int)
 {
 rw [if_pos BF] at H
 have BY : decide ((AD) < (l1.length : Int)) = true := decide_eq_true BF
 clear BF
 by_cases BG : 0 ≤ ((rd_T65 l1 (AD)).f1)
 {
 rw [if_pos BG] at H
 have BT : decide (0 ≤ ((rd_T65 l1 (AD)).f1)) = true := decide_eq_true BG
 clear BG
 by_cases BD : ((rd_T65 l1 (AD)).f1) < (AC.length : Int)
 {
 rw [if_pos BD] at H
 have BS : decide (((rd_T65 l1 (AD)).f1) < (AC.length : Int)) = true := decide_eq_true BD
 clear BD
 by_cases BL : Ab.length < 17592186044416
 {
 rw [if_pos BL] at H
 have A8 := ak BL
 clear BL
 obtain ⟨Ax, AX⟩ : ∃ y_ : List Int, y_ = (Ab ++ [wrap64 (IntKind.i16.wrap ((rd AC ((rd_T65 l1 AB).f1)) - (rd AC ((rd_T65 l1 (AD)).f1))))]) := ⟨_, rfl⟩
 replace H : (impl_GapsOf.l0 k1 l1 Ax (wrap64 (AB + 1)) AQ AC) = some (r1, r2) := by first | (rw [AX]; with_reducible exact H) | (have At := (Option.bind_some _ _).symm.trans H; rw [AX]; with_reducible exact At) | (have At := (Option.bind_some _ _).symm.trans H; with_reducible exact At) | with_reducible exact H | (rw [AX]; exact H) | exact H
 have Ay := ak AX
 clear AX
 have H' := ak H
 clear H
 try go_wp2
 replace AY := ak (Kd.R_drew AY.out)
 replace AA := ak (blk_drew AA.out)
 replace HB := ak (below_drew1 HB.out)
 have Am : 0 ≤ (AB : Int) := of_decide_eq_true (by assumption)
 have Aq : AB < (l1.length : Int) := of_decide_eq_true (by assumption)
 obtain ⟨AS, BO, AN, AO⟩ := at_T65 BB.out AB Am Aq
 have AJ := AO
 have AG := AN
 cases BO
 replace AN := (HB.out.cell (World.block_lt_of_cell? w _ AN)).trans AN
 replace AO := (HB.out.cell (World.block_lt_of_cell? w _ AO)).trans AO
 replace Am := eq_true Am
 replace Aq := eq_true Aq
 have An : 0 ≤ (((rd_T65 l1 AB).f1) : Int) := of_decide_eq_true (by assumption)
 have Ak : ((rd_T65 l1 AB).f1) < (AC.length : Int) := of_decide_eq_true (by assumption)
 obtain ⟨AV, BM, AR⟩ := Kd.at_int Aa.out ((rd_T65 l1 AB).f1) An Ak
 have AI := AR
 cases BM
 replace AR := (HB.out.cell (World.block_lt_of_cell? w _ AR)).trans AR
 replace An := eq_true An
 replace Ak := eq_true Ak
 have Ar : 0 ≤ ((AD) : Int) := of_decide_eq_true (by assumption)
 have Al : (AD) < (l1.length : Int) := of_decide_eq_true (by assumption)
 obtain ⟨A5, BQ, AL, AP⟩ := at_T65 BB.out (AD) Ar Al
 have AE := AP
 have AF := AL
 obtain rfl : AS = A5 := (by injection BQ)
 replace AL := (HB.out.cell (World.block_lt_of_cell? w _ AL)).trans AL
 replace AP := (HB.out.cell (World.block_lt_of_cell? w _ AP)).trans AP
 replace Ar := eq_true Ar
 replace Al := eq_true Al
 have As : 0 ≤ (((rd_T65 l1 (AD)).f1) : Int) := of_decide_eq_true (by assumption)
 have Ao : ((rd_T65 l1 (AD)).f1) < (AC.length : Int) := of_decide_eq_true (by assumption)
 obtain ⟨Aw, BP, AM⟩ := Kd.at_int Aa.out ((rd_T65 l1 (AD)).f1) As Ao
 have AH := AM
 obtain rfl : AV = Aw := (by injection BP)
 replace AM := (HB.out.cell (World.block_lt_of_cell? w _ AM)).trans AM
 replace As := eq_true As
 replace Ao := eq_true Ao
 refine start_ (n := 25) (S := fun w' => w'.cell? ⟨AW, 0, none⟩ = some (.int .i16 AQ) ∧ w'.cell? ⟨AW, 1, none⟩ = some (.slice (some AV) AC.length AT) ∧ w'.cell? (AS.add ((AB).toNat * 2)) = some (.int .i16 ((rd_T65 l1 AB).f0)) ∧ w'.cell? ⟨(AS.add ((AB).toNat * 2)).block, (AS.add ((AB).toNat * 2)).off + 1, none⟩ = some (.int .i8 ((rd_T65 l1 AB).f1)) ∧ w'.cell? (AV.add (((rd_T65 l1 AB).f1)).toNat) = some (.int .i16 (rd AC ((rd_T65 l1 AB).f1))) ∧ w'.cell? (AS.add (((AD)).toNat * 2)) = some (.int .i16 ((rd_T65 l1 (AD)).f0)) ∧ w'.cell? ⟨(AS.add (((AD)).toNat * 2)).block, (AS.add (((AD)).toNat * 2)).off + 1, none⟩ = some (.int .i8 ((rd_T65 l1 (AD)).f1)) ∧ w'.cell? (AV.add (((rd_T65 l1 (AD)).f1)).toNat) = some (.int .i16 (rd AC ((rd_T65 l1 (AD)).f1)))) (ds := []) (bA 25 0) (by kernel_rfl) rfl rfl ⟨(blk_cell AA.out 0).trans rfl, (blk_cell AA.out 1).trans rfl, ((HB.out.cell (World.block_lt_of_cell? w _ AG)).trans AG), ((HB.out.cell (World.block_lt_of_cell? w _ AJ)).trans AJ), ((HB.out.cell (World.block_lt_of_cell? w _ AI)).trans AI), ((HB.out.cell (World.block_lt_of_cell? w _ AF)).trans AF), ((HB.out.cell (World.block_lt_of_cell? w _ AE)).trans AE), ((HB.out.cell (World.block_lt_of_cell? w _ AH)).trans AH)⟩ (fun hHeld => ?_); refine with_tabW impl_GapsOf.tab7 impl_GapsOf.bits7 (fun HT_ HW_ => ?_)
 generalize wr.drew = Bj at AY AA HB AN AO AR AL AP AM hHeld ⊢
 refine pU 0 19 (bA 25 1) HT_ ?_
 refine pU 1 20 (bA 25 3) HT_ ?_
 refine pU 3 22 (bA 25 11) HT_ ?_
 refine pU 4 23 (bA 25 27) HT_ ?_
 refine pU 5 24 (bA 25 59) HT_ ?_
 refine pU 6 25 (bA 25 123) HT_ ?_
 refine pU 10 29 (bA 25 1147) HT_ ?_
 refine pU 12 31 (bA 25 5243) HT_ ?_
 refine pU 13 32 (bA 25 13435) HT_ ?_
 refine pU 14 33 (bA 25 29819) HT_ ?_
 refine pU 15 34 (bA 25 62587) HT_ ?_
 refine pU 16 35 (bA 25 128123) HT_ ?_
 refine tK 2 21 (bA 25 128127) HT_ HW_ hHeld ?_
 refine tK 7 26 (bA 25 128255) HT_ HW_ hHeld ?_
 refine pU 8 27 (bA 25 128511) HT_ ?_
 refine tK 9 28 (bA 25 129023) HT_ HW_ hHeld ?_
 refine tK 11 30 (bA 25 131071) HT_ HW_ hHeld ?_
 refine tK 17 36 (bA 25 262143) HT_ HW_ hHeld ?_
 refine pU 18 37 (bA 25 524287) HT_ ?_
 refine tK 19 38 (bA 25 1048575) HT_ HW_ hHeld ?_
 refine pU 20 39 (bA 25 2097151) HT_ ?_
 refine pU 21 40 (bA 25 4194303) HT_ ?_
 refine one_ (i := 22) (N := some 41) (bA 25 8388607) rfl rfl (one_of HT_.out (by kernel_rfl)) (by decide) (fun K hK => ?_)
 refine value_ (w1 := ?_) (v := ?_) (by rfl) rfl ?_ ?_
 rotate_left 2
 {
 go_simp
 constructor
 · rfl
 · rfl
 }
 refine hK.out _ _ ⟨(blk_cell (blk_alloc AA.out _) 0).trans rfl, (blk_cell (blk_alloc AA.out _) 1).trans rfl, (World.cell?_alloc_lt _ _ _ (World.block_lt_of_cell? _ _ (((HB.out.cell (World.block_lt_of_cell? w _ AG)).trans AG)))).trans (((HB.out.cell (World.block_lt_of_cell? w _ AG)).trans AG)), (World.cell?_alloc_lt _ _ _ (World.block_lt_of_cell? _ _ (((HB.out.cell (World.block_lt_of_cell? w _ AJ)).trans AJ)))).trans (((HB.out.cell (World.block_lt_of_cell? w _ AJ)).trans AJ)), (World.cell?_alloc_lt _ _ _ (World.block_lt_of_cell? _ _ (((HB.out.cell (World.block_lt_of_cell? w _ AI)).trans AI)))).trans (((HB.out.cell (World.block_lt_of_cell? w _ AI)).trans AI)), (World.cell?_alloc_lt _ _ _ (World.block_lt_of_cell? _ _ (((HB.out.cell (World.block_lt_of_cell? w _ AF)).trans AF)))).trans (((HB.out.cell (World.block_lt_of_cell? w _ AF)).trans AF)), (World.cell?_alloc_lt _ _ _ (World.block_lt_of_cell? _ _ (((HB.out.cell (World.block_lt_of_cell? w _ AE)).trans AE)))).trans (((HB.out.cell (World.block_lt_of_cell? w _ AE)).trans AE)), (World.cell?_alloc_lt _ _ _ (World.block_lt_of_cell? _ _ (((HB.out.cell (World.block_lt_of_cell? w _ AH)).trans AH)))).trans (((HB.out.cell (World.block_lt_of_cell? w _ AH)).trans AH))⟩ (fun hHeld => ?_)
 clear hK K
 refine norm_ (a' := ?_) ?_ ?_
 rotate_left
 {
 show Act.put _ (some 41) _ = _
 simp only [Act.put, zs, zz, zk, i64_w, i32_w]
 rfl
 }
 refine one_ (i := 23) (N := some 42) (bA 25 16777215) rfl rfl (one_of HT_.out (by kernel_rfl)) (by decide) (fun K hK => ?_)
 refine Kd.R_append_step (Kd.int .i64) (w0 := w) w.heap.size (by rfl) (.tmp 19) (.tmp 41) 66 2 (.int .i64 0) 8 rfl Try.underlying66 info2 rfl (by decide) (by omega) u6 Ab (wrap64 (IntKind.i16.wrap ((rd AC ((rd_T65 l1 AB).f1)) - (rd AC ((rd_T65 l1 (AD)).f1))))) [.int .i64 (wrap64 (IntKind.i16.wrap ((rd AC ((rd_T65 l1 AB).f1)) - (rd AC ((rd_T65 l1 (AD)).f1)))))] (fun _ => True) (fun _ => False) rfl rfl ?aP (fun _ hk => hk.elim) ?aF ?aO ?aB ?aS ?aL ?_
 (case aP => exact rfl)
 (case aB => exact (zBG HB.out AK.out))
 (case aF => exact (fun _ _ => trivial))
 (case aO => exact (zR AY.out))
 (case aS => exact (below_size (zBG HB.out AK.out)))
 (case aL => have := A8.out; omega)
 intro Bf Bl ho hb hg hat
 rw [← Ay.out] at ho
 have Av := ak (ho)
 replace AA := ak (blk_grown (g := AW) (o := .cells #[.int .i16 AQ, .slice (some AV) AC.length AT] 32 (0, 0)) (zK AA.out) hg (Kd.R_ne AY.out AA.out (by decide)))
 replace HB := ak (hb)
 clear AY
 refine hK.out _ _ ⟨(blk_cell AA.out 0).trans rfl, (blk_cell AA.out 1).trans rfl, ((HB.out.cell (World.block_lt_of_cell? w _ AG)).trans AG), ((HB.out.cell (World.block_lt_of_cell? w _ AJ)).trans AJ), ((HB.out.cell (World.block_lt_of_cell? w _ AI)).trans AI), ((HB.out.cell (World.block_lt_of_cell? w _ AF)).trans AF), ((HB.out.cell (World.block_lt_of_cell? w _ AE)).trans AE), ((HB.out.cell (World.block_lt_of_cell? w _ AH)).trans AH)⟩ (fun hHeld => ?_)
 clear hK K
 refine norm_ (a' := ?_) ?_ ?_
 rotate_left
 {
 show Act.put _ (some 42) _ = _
 simp only [Act.put, zs, zz, zk, i64_w, i32_w]
 rfl
 }
 refine pU 24 6 (bA 25 33554431) HT_ ?_
 refine done_ (done_of HT_.out (by kernel_rfl)) ?_
 try go_wp2
 go_roundg k1
 case measure => have := BZ.out; omega
 case rel => exact ⟨(Ax), (wrap64 (AB + 1)), rfl, H', ⟨by have := BZ.out; omega⟩, ⟨(zR Av.out)⟩, ⟨(zK AA.out)⟩, ⟨zBG HB.out AK.out⟩⟩
 }
 · rw [if_neg BL] at H; exact absurd H (by simp)
 }
 · rw [if_neg BD] at H; exact absurd H (by simp)
 }
 · rw [if_neg BG] at H; exact absurd H (by simp)
 }
 · rw [if_neg BF] at H; exact absurd H (by simp)
 }
 · rw [if_neg BC] at H; exact absurd H (by simp)
 }
 · rw [if_neg BE] at H; exact absurd H (by simp)
 }
 · rw [if_neg BA] at H; exact absurd H (by simp)
 }
 · rw [if_neg BK] at H; exact absurd H (by simp)
 }
 {
 rw [if_neg Au] at H
 have A2 : decide (AB < (l1.length : Int)) = false := decide_eq_false Au
 clear Au
 simp only [Option.some.injEq, Prod.mk.injEq] at H
 obtain ⟨rfl, rfl⟩ := H
 go_wp2
 go_ret2
 exact ⟨_, rfl, AY.out, zBG HB.out AK.out⟩
 }
 )
 )
 }
 {
 replace c4 := Bool.eq_false_iff.mpr c4
 subst c4
 rw [if_neg (show ¬ (false = true) by decide)] at H
 simp only [Option.some.injEq, Prod.mk.injEq] at H
 obtain ⟨rfl, rfl⟩ := H
 go_enter Try.func66, Try.ntmps66
 go_wp2_with (first | ((with_reducible refine gate_dst (N := 2) rfl ?_); refine box_event ?hg (N := 2) ?hd (cs := #[.int .i16 AQ, .slice AZ AC.length AT]) (t := 32) ?hr ?_; (case hd => rfl); (case hg => rfl); (case hr => first | (go_simp; done) | (go_simp; rfl)); intro AW hg Bi hbox hb; have AA := ak (hbox); have A4 := gS HB hg; have AK := gS HB hg; replace HB := kB HB hb; clear hb hbox hg; obtain ⟨A9, BI, BH, BJ⟩ := cz2 Bi AA) | ((with_reducible refine gate_callee (f := 87) rfl ?_); refine goesL_ (some 10) rfl rfl Try.func87 (by kernel_rfl) rfl #[.agg #[.int .i16 AQ, .slice AZ AC.length AT], .slice A1 l1.length c1] rfl gl_ ?_; (with_reducible refine (impl_ValidHolds.calls k AQ _ _ AC _ _ l1 false _ ?side1 ?side2 ?side3 ?side4 A3.out).mono ?_); (case side1 => exact sQ (Kd.C_below Aa.out HB.out)); (case side2 => exact Af.out); (case side3 => exact sQ (Kd.C_below BB.out HB.out)); (case side4 => exact BV.out); rintro e Bk ⟨rfl, hb⟩; refine ⟨_, rfl, ?_⟩; replace AA := kK AA hb; replace HB := kB1 HB AK hb; (try clear hb)))
 go_ret2
 exact ⟨_, rfl, by first | exact Kd.R_nil _ _ _ _ _ | exact Kd.N_nil _ _ _ _ _ | exact Kd.V_nil _ _ _ _ _ | exact Kd.Q_nil _ _ _ _ _ | exact Kd.S_nil _ _ _ _ _, zBG HB.out AK.out⟩
 }
end Go.Proofs.Ytooidjdgfoioiaa.P
