-- Printed by wip/print (my turned copy of the kit's print) out of the translation; Lean checks it.
import Derived.Test.YtooidjdgfoioiaaP0
import Derived.Test.YtooidjdgfoioiaaP17
import Derived.Test.YtooidjdgfoioiaaP18
namespace Go.Proofs.Ytooidjdgfoioiaa.P
open Go.RowKit Go.Proofs.YtooidjdgfoioiaaW.PrintWords Go.Proofs.YtooidjdgfoioiaaW.PrintLast Go.Proofs.YtooidjdgfoioiaaW.PrintMore
attribute [local go_sem] max2_int min2_int max_two min_two max_three min_three max_four min_four   -- for this text's walks alone
set_option linter.unusedVariables false
set_option linter.unusedSimpArgs false

/-! ### impl_ValidHolds: function 87 -/
def impl_ValidHolds.l0 : Nat → List (S65) → List (S65) → Int → Int → Int → List Int → Option (Bool)
  | 0, _, _, _, _, _, _ => none
  | k + 1, x1, x7, x8, x9, AA, AB => if x9 < x8 then (if 0 ≤ x9 then (if x9 < (x7.length : Int) then ((impl_Rope_isHold.f AA AB ((rd_T65 x7 x9).f0) ((rd_T65 x7 x9).f1)).bind fun AC => (if AC = true then (if x9 > 0 then (if 0 ≤ (wrap64 (x9 - 1)) then (if (wrap64 (x9 - 1)) < (x1.length : Int) then (if ((rd_T65 x7 x9).f1) ≤ ((rd_T65 x1 (wrap64 (x9 - 1))).f1) then (some false) else (if x9 ≤ (x1.length : Int) then ((slices_ContainsFunc_Hold_at_ValidHolds_1.f k (x1.take (x9 : Int).toNat) ((rd_T65 x7 x9).f0) ((rd_T65 x7 x9).f1)).bind fun AF => (if AF = true then (some false) else (impl_ValidHolds.l0 k x1 x7 x8 (wrap64 (x9 + 1)) AA AB))) else (none))) else (none)) else (none)) else (if x9 ≤ (x1.length : Int) then ((slices_ContainsFunc_Hold_at_ValidHolds_1.f k (x1.take (x9 : Int).toNat) ((rd_T65 x7 x9).f0) ((rd_T65 x7 x9).f1)).bind fun AE => (if AE = true then (some false) else (impl_ValidHolds.l0 k x1 x7 x8 (wrap64 (x9 + 1)) AA AB))) else (none))) else (some false))) else (none)) else (none)) else ((impl_ValidRope.f k AA AB).bind fun AD => (some AD))
def impl_ValidHolds.f (k : Nat) (AB : Int) (AA : List Int) (l1 : List (S65)) : Option (Bool) := impl_ValidHolds.l0 k l1 l1 (l1.length : Int) 0 AB AA
def impl_ValidHolds.T4 : Bool × List (List Nat × List Nat) := (true, [([], []), ([], []), ([0, 1], [0, 1]), ([2], [2]), ([3, 2], [3]), ([4], [4]), ([5, 4], [4, 5]), ([6, 4, 4], [4, 6]), ([7], [7]), ([8, 7], [7, 8]), ([7], [7]), ([7], [7]), ([11, 7], [7, 11]), ([10, 12, 7], [7, 10, 12]), ([13, 7], [7, 13]), ([14, 7], [7, 14]), ([9, 15, 7], [7, 9, 15]), ([7, 16, 4], [4, 7, 16]), ([4, 17], [4, 17]), ([18, 7], [18]), ([19], [19]), ([19], [19]), ([20, 21, 19], [19, 20, 21]), ([19], [19]), ([22, 23, 19, 19], [19, 22, 23]), ([19, 24], [19, 24])])
def impl_ValidHolds.B4 : List Nat := [0, 0, 3, 7, 15, 31, 63, 127, 255, 511, 255, 255, 2303, 7423, 15615, 31999, 65535, 131071, 262143, 524287, 1048575, 1048575, 4194303, 1048575, 16777215, 33554431]
theorem impl_ValidHolds.tab4 : rtab .any (opsOf Try.f87 4) = impl_ValidHolds.T4 := by kernel_rfl
theorem impl_ValidHolds.bits4 : waitsOk impl_ValidHolds.T4.2 impl_ValidHolds.B4 = true := by kernel_rfl
set_option maxHeartbeats 8000000 in
set_option maxRecDepth 100000 in
theorem impl_ValidHolds.calls (k : Nat) (AR : Int) (AU : Option Addr) (AT : Nat) (AN : List Int) (A1 : Option Addr) (c1 : Nat) (l1 : List (S65)) (r : Bool) (w : World) (A8 : Kd.C (Kd.int .i16) w AU AN.length AN) (A5 : AN.length ≤ AT) (Cn : Kd.C k65 w A1 l1.length l1) (Co : l1.length ≤ c1) (h : impl_ValidHolds.f k AR AN l1 = some r) :
    Calls Try.prog 87 #[.agg #[.int .i16 AR, .slice AU AN.length AT], .slice A1 l1.length c1] w fun e w' => e = .returned (.bool r) ∧ Below w.heap.size w w' := by
 have DE := Try.underlying32
 have Cx := Try.underlying65
 have Ab := ak A8
 have Ac := ak A5
 clear A8 A5
 have Aw := ak Cn
 have Bl := ak Co
 clear Cn Co
 have HB := ak (Below.refl w.heap.size w)
 have H := h
 unfold impl_ValidHolds.f at H
 clear h
 have H' := ak H
 clear H
 go_enter Try.func87, Try.ntmps87
 go_wp2_with (first | ((with_reducible refine gate_dst (N := 2) rfl ?_); refine box_event ?hg (N := 2) ?hd (cs := #[.int .i16 AR, .slice AU AN.length AT]) (t := 32) ?hr ?_; (case hd => rfl); (case hg => rfl); (case hr => first | (go_simp; done) | (go_simp; rfl)); intro AQ hg w3 hbox hb; have AA := ak (hbox); have CX := gS HB hg; have AF := gS HB hg; replace HB := kB HB hb; clear hb hbox hg))
 go_loopg [9] k (fun kq v9 w' => ∃ (AC : Int), v9 = .int .i64 AC ∧ Aside0 (impl_ValidHolds.l0 kq l1 l1 (l1.length : Int) AC AR AN = some r) ∧ Aside0 (kq ≤ k) ∧ Aside0 (w'.heap[AQ]? = some (.cells #[.int .i16 AR, (.slice AU AN.length AT)] 32 (0, 0))) ∧ Aside0 (Below w.heap.size w w'))
 case atStart => exact ⟨(0), rfl, H', ⟨Nat.le_refl _⟩, ⟨(zK AA.out)⟩, ⟨zBG HB.out AF.out⟩⟩
 case round => (
 clear H'
 obtain ⟨AC, rfl, HA, B0, AA, HB⟩ := hrel
 cases gk with
 | zero => exact absurd HA.out (by simp [impl_ValidHolds.l0])
 | succ k1 => (
 have H := HA.out
 clear HA
 simp only [impl_ValidHolds.l0] at H
 by_cases c4 : AC < (l1.length : Int)
 {
 rw [if_pos c4] at H
 have CT : decide (AC < (l1.length : Int)) = true := decide_eq_true c4
 clear c4
 by_cases c5 : 0 ≤ AC
 {
 rw [if_pos c5] at H
 have C0 : decide (0 ≤ AC) = true := decide_eq_true c5
 clear c5
 by_cases c6 : AC < (l1.length : Int)
 {
 rw [if_pos c6] at H
 have C4 : decide (AC < (l1.length : Int)) = true := decide_eq_true c6
 clear c6
 replace H := Option.bind_eq_some_iff.mp H
 obtain ⟨CR, Cf, H⟩ := H
 have A7 := ak Cf
 clear Cf
 by_cases c8 : CR = true
 {
 subst c8
 rw [if_pos rfl] at H
 by_cases c9 : AC > 0
 {
 rw [if_pos c9] at H
 have CU : decide (0 < AC) = true := decide_eq_true c9
 clear c9
 obtain ⟨AS, Af⟩ : ∃ j_ : Int, (wrap64 (AC - 1)) = j_ := ⟨_, rfl⟩
 first | rw [Af] at H | simp only [Af] at H
 (try rw [Af] at A7)
 have CV : (IntKind.i64.wrap (AC - 1)) = AS := (i64_w _).trans Af
 by_cases CL : 0 ≤ (AS)
 {
 rw [if_pos CL] at H
 have Cg : decide (0 ≤ (AS)) = true := decide_eq_true CL
 clear CL
 by_cases Bt : (AS) < (l1.length : Int)
 {
 rw [if_pos Bt] at H
 have Ct : decide ((AS) < (l1.length : Int)) = true := decide_eq_true Bt
 clear Bt
 by_cases BU : ((rd_T65 l1 AC).f1) ≤ ((rd_T65 l1 (AS)).f1)
 {
 rw [if_pos BU] at H
 have BX : decide (((rd_T65 l1 AC).f1) ≤ ((rd_T65 l1 (AS)).f1)) = true := decide_eq_true BU
 clear BU
 obtain rfl := Option.some.inj H
 have AV : 0 ≤ (AC : Int) := of_decide_eq_true (by assumption)
 have AW : AC < (l1.length : Int) := of_decide_eq_true (by assumption)
 obtain ⟨AK, Ae, AH, AG⟩ := at_T65 Aw.out AC AV AW
 cases Ae
 replace AH := (HB.out.cell (World.block_lt_of_cell? w _ AH)).trans AH
 replace AG := (HB.out.cell (World.block_lt_of_cell? w _ AG)).trans AG
 replace AV := eq_true AV
 replace AW := eq_true AW
 try go_wp2_with (first | ((with_reducible refine gate_dst (N := 6) rfl ?_); refine box_event ?hg (N := 6) ?hd (cs := #[.int .i16 0, .int .i8 0]) (t := 65) ?hr ?_; (case hd => rfl); (case hg => rfl); (case hr => first | (go_simp; done) | (go_simp; rfl)); intro AD hg BV hbox hb; have AZ := ak (blk_below (g := AQ) (o := .cells #[.int .i16 AR, .slice AU AN.length AT] 32 (0, 0)) (zK AA.out) hb); have AX := ak (below_step (zBG HB.out AF.out) hb); have AY := ak (hbox); have Ak := gS1 HB AF hg; have Ap := gS1 HB AF hg; have Ai := nL AA hg; have Ao := nG AA hg; clear AA HB; have AA := AZ; have HB := AX; have AB := AY; have Al := Ak; have AO := Ap; have AE := Ai; have AP := Ao; clear AZ AX AY Ak Ap Ai Ao; clear hb hbox hg; have Cv := AP.out; have CZ := AE.out; have CM : BV.cell? ⟨AD, 0, none⟩ = some (.int .i16 0) := (blk_cell AB.out 0).trans rfl; have CG : BV.cell? ⟨AD, 1, none⟩ = some (.int .i8 0) := (blk_cell AB.out 1).trans rfl; have CN := blk_frozen AB.out 0; have B3 := blk_frozen AB.out 1))
 have AZ : Aside0 (((BV.setCell ⟨AD, 0, none⟩ (.int .i16 ((rd_T65 l1 AC).f0))).setCell ⟨AD, 1, none⟩ (.int .i8 ((rd_T65 l1 AC).f1))).heap[AQ]? = some (.cells #[.int .i16 AR, .slice AU AN.length AT] 32 (0, 0))) := ⟨by refine blk_far ?_ AE.out _; refine blk_far ?_ AE.out _; exact AA.out⟩
 have AX : Aside0 (((BV.setCell ⟨AD, 0, none⟩ (.int .i16 ((rd_T65 l1 AC).f0))).setCell ⟨AD, 1, none⟩ (.int .i8 ((rd_T65 l1 AC).f1))).heap[AD]? = some (.cells #[.int .i16 ((rd_T65 l1 AC).f0), .int .i8 ((rd_T65 l1 AC).f1)] 65 (0, 0))) := ⟨by refine blk_put (cs := #[.int .i16 ((rd_T65 l1 AC).f0), .int .i8 0]) ?_ 1 _ rfl; refine blk_put (cs := #[.int .i16 0, .int .i8 0]) ?_ 0 _ rfl; exact AB.out⟩
 have AY : Aside0 (Below w.heap.size w ((BV.setCell ⟨AD, 0, none⟩ (.int .i16 ((rd_T65 l1 AC).f0))).setCell ⟨AD, 1, none⟩ (.int .i8 ((rd_T65 l1 AC).f1)))) := ⟨zH2 HB AF AO⟩
 generalize ((BV.setCell ⟨AD, 0, none⟩ (.int .i16 ((rd_T65 l1 AC).f0))).setCell ⟨AD, 1, none⟩ (.int .i8 ((rd_T65 l1 AC).f1))) = C7 at AZ AX AY ⊢
 have AA := AZ
 have AB := AX
 have HB := AY
 clear AZ AX AY
 replace AA := ak (blk_drew AA.out)
 replace AB := ak (blk_drew AB.out)
 replace HB := ak (below_drew1 HB.out)
 have Ad : 0 ≤ ((AS) : Int) := of_decide_eq_true (by assumption)
 have Aa : (AS) < (l1.length : Int) := of_decide_eq_true (by assumption)
 obtain ⟨Am, A0, AL, AM⟩ := at_T65 Aw.out (AS) Ad Aa
 have AI := AM
 have AJ := AL
 obtain rfl : AK = Am := (by injection A0)
 replace AL := (HB.out.cell (World.block_lt_of_cell? w _ AL)).trans AL
 replace AM := (HB.out.cell (World.block_lt_of_cell? w _ AM)).trans AM
 replace Ad := eq_true Ad
 replace Aa := eq_true Aa
 refine start_ (n := 26) (S := fun w' => w'.cell? ⟨AQ, 0, none⟩ = some (.int .i16 AR) ∧ w'.cell? ⟨AQ, 1, none⟩ = some (.slice AU AN.length AT) ∧ w'.cell? ⟨AD, 0, none⟩ = some (.int .i16 ((rd_T65 l1 AC).f0)) ∧ w'.cell? ⟨AD, 1, none⟩ = some (.int .i8 ((rd_T65 l1 AC).f1)) ∧ w'.cell? (AK.add (((AS)).toNat * 2)) = some (.int .i16 ((rd_T65 l1 (AS)).f0)) ∧ w'.cell? ⟨(AK.add (((AS)).toNat * 2)).block, (AK.add (((AS)).toNat * 2)).off + 1, none⟩ = some (.int .i8 ((rd_T65 l1 (AS)).f1))) (ds := []) (bA 26 0) (by kernel_rfl) rfl rfl ⟨(blk_cell AA.out 0).trans rfl, (blk_cell AA.out 1).trans rfl, (blk_cell AB.out 0).trans rfl, (blk_cell AB.out 1).trans rfl, ((HB.out.cell (World.block_lt_of_cell? w _ AJ)).trans AJ), ((HB.out.cell (World.block_lt_of_cell? w _ AI)).trans AI)⟩ (fun hHeld => ?_); refine with_tabW impl_ValidHolds.tab4 impl_ValidHolds.bits4 (fun HT_ HW_ => ?_)
 generalize C7.drew = DR at AA AB HB AL AM hHeld ⊢
 refine tK 0 14 (bA 26 1) HT_ HW_ hHeld ?_
 refine tK 1 15 (bA 26 3) HT_ HW_ hHeld ?_
 refine one_ (i := 2) (N := some 16) (bA 26 7) rfl rfl (one_of HT_.out (by kernel_rfl)) (by decide) (fun K hK => ?_)
 refine goes_ Try.func95 (by kernel_rfl) rfl #[.agg #[.int .i16 AR, .slice AU AN.length AT], .agg #[.int .i16 ((rd_T65 l1 AC).f0), .int .i8 ((rd_T65 l1 AC).f1)]] (by rfl) rfl rfl gl_ ?_
 with_reducible refine (impl_Rope_isHold.calls AR _ _ AN ((rd_T65 l1 AC).f0) ((rd_T65 l1 AC).f1) true _ ?side1 ?side2 A7.out).mono ?_
 (case side1 => exact sQ (Kd.C_below Ab.out HB.out))
 (case side2 => exact Ac.out)
 rintro e DU ⟨rfl, hb⟩
 refine ⟨_, rfl, ?_⟩
 replace AA := kK AA hb
 replace AB := kK AB hb
 replace HB := kB2 HB AF AO hb
 refine hK.out _ _ ⟨(blk_cell AA.out 0).trans rfl, (blk_cell AA.out 1).trans rfl, (blk_cell AB.out 0).trans rfl, (blk_cell AB.out 1).trans rfl, ((HB.out.cell (World.block_lt_of_cell? w _ AJ)).trans AJ), ((HB.out.cell (World.block_lt_of_cell? w _ AI)).trans AI)⟩ (fun hHeld => ?_)
 clear hK K
 refine norm_ (a' := ?_) ?_ ?_
 rotate_left
 {
 show Act.put _ (some 16) _ = _
 simp only [Act.put, zs, zz, zk, i64_w, i32_w]
 rfl
 }
 refine pU 3 17 (bA 26 15) HT_ ?_
 refine pU 4 18 (bA 26 31) HT_ ?_
 refine pU 5 19 (bA 26 63) HT_ ?_
 refine pU 6 20 (bA 26 127) HT_ ?_
 refine pU 7 21 (bA 26 255) HT_ ?_
 refine pU 8 22 (bA 26 511) HT_ ?_
 refine pU 10 24 (bA 26 1535) HT_ ?_
 refine pU 11 25 (bA 26 3583) HT_ ?_
 refine pU 12 26 (bA 26 7679) HT_ ?_
 refine pU 13 27 (bA 26 15871) HT_ ?_
 refine pU 14 28 (bA 26 32255) HT_ ?_
 refine tK 9 23 (bA 26 32767) HT_ HW_ hHeld ?_
 refine tK 15 29 (bA 26 65535) HT_ HW_ hHeld ?_
 refine pU 16 30 (bA 26 131071) HT_ ?_
 refine pU 17 31 (bA 26 262143) HT_ ?_
 refine pU 18 32 (bA 26 524287) HT_ ?_
 refine pU 19 33 (bA 26 1048575) HT_ ?_
 refine pN 20 34 (bA 26 2097151) HT_ ?_
 refine pN 21 35 (bA 26 4194303) HT_ ?_
 refine pN 22 36 (bA 26 8388607) HT_ ?_
 refine pN 23 37 (bA 26 16777215) HT_ ?_
 refine pN 24 38 (bA 26 33554431) HT_ ?_
 refine pU 25 39 (bA 26 67108863) HT_ ?_
 refine done_ (done_of HT_.out (by kernel_rfl)) ?_
 try go_wp2
 go_ret
 exact ⟨by first | rfl | (simp [errW_none, errW_some] <;> rfl) | (simp only [← Af]; first | rfl | (simp [errW_none, errW_some] <;> rfl)) | (simp [*, errW_none, errW_some] <;> rfl), zH2 HB AF AO⟩
 }
 {
 rw [if_neg BU] at H
 have BX : decide (((rd_T65 l1 AC).f1) ≤ ((rd_T65 l1 (AS)).f1)) = false := decide_eq_false BU
 clear BU
 have Cu := eq_true (of_decide_eq_true (by assumption) : 0 ≤ AC)
 by_cases BW : AC ≤ (l1.length : Int)
 {
 rw [if_pos BW] at H
 have Cl := eq_true BW
 have Cj : decide (AC ≤ (l1.length : Int)) = true := decide_eq_true BW
 clear BW
 obtain ⟨Ag, An⟩ : ∃ y_ : List (S65), y_ = (l1.take (AC : Int).toNat) := ⟨_, rfl⟩
 replace H : ((slices_ContainsFunc_Hold_at_ValidHolds_1.f k1 Ag ((rd_T65 l1 AC).f0) ((rd_T65 l1 AC).f1)).bind fun BH => (if BH = true then (some false) else (impl_ValidHolds.l0 k1 l1 l1 (l1.length : Int) (wrap64 (AC + 1)) AR AN))) = some r := by first | (rw [An]; with_reducible exact H) | (have BO := (Option.bind_some _ _).symm.trans H; rw [An]; with_reducible exact BO) | (have BO := (Option.bind_some _ _).symm.trans H; with_reducible exact BO) | with_reducible exact H | (rw [An]; exact H) | exact H
 have Aq := ak An
 clear An
 replace H := Option.bind_eq_some_iff.mp H
 obtain ⟨BH, BZ, H⟩ := H
 have Ca := ak BZ
 clear BZ
 by_cases CI : BH = true
 {
 subst CI
 rw [if_pos rfl] at H
 obtain rfl := Option.some.inj H
 have AV : 0 ≤ (AC : Int) := of_decide_eq_true (by assumption)
 have AW : AC < (l1.length : Int) := of_decide_eq_true (by assumption)
 obtain ⟨AK, Ae, AH, AG⟩ := at_T65 Aw.out AC AV AW
 cases Ae
 replace AH := (HB.out.cell (World.block_lt_of_cell? w _ AH)).trans AH
 replace AG := (HB.out.cell (World.block_lt_of_cell? w _ AG)).trans AG
 replace AV := eq_true AV
 replace AW := eq_true AW
 try go_wp2_with (first | ((with_reducible refine gate_dst (N := 6) rfl ?_); refine box_event ?hg (N := 6) ?hd (cs := #[.int .i16 0, .int .i8 0]) (t := 65) ?hr ?_; (case hd => rfl); (case hg => rfl); (case hr => first | (go_simp; done) | (go_simp; rfl)); intro AD hg BP hbox hb; have AZ := ak (blk_below (g := AQ) (o := .cells #[.int .i16 AR, .slice AU AN.length AT] 32 (0, 0)) (zK AA.out) hb); have AX := ak (below_step (zBG HB.out AF.out) hb); have AY := ak (hbox); have Ak := gS1 HB AF hg; have Ap := gS1 HB AF hg; have Ai := nL AA hg; have Ao := nG AA hg; clear AA HB; have AA := AZ; have HB := AX; have AB := AY; have Al := Ak; have AO := Ap; have AE := Ai; have AP := Ao; clear AZ AX AY Ak Ap Ai Ao; clear hb hbox hg; have CY := AP.out; have Cr := AE.out; have CJ : BP.cell? ⟨AD, 0, none⟩ = some (.int .i16 0) := (blk_cell AB.out 0).trans rfl; have Br : BP.cell? ⟨AD, 1, none⟩ = some (.int .i8 0) := (blk_cell AB.out 1).trans rfl; have CF := blk_frozen AB.out 0; have Bn := blk_frozen AB.out 1))
 have AZ : Aside0 (((BP.setCell ⟨AD, 0, none⟩ (.int .i16 ((rd_T65 l1 AC).f0))).setCell ⟨AD, 1, none⟩ (.int .i8 ((rd_T65 l1 AC).f1))).heap[AQ]? = some (.cells #[.int .i16 AR, .slice AU AN.length AT] 32 (0, 0))) := ⟨by refine blk_far ?_ AE.out _; refine blk_far ?_ AE.out _; exact AA.out⟩
 have AX : Aside0 (((BP.setCell ⟨AD, 0, none⟩ (.int .i16 ((rd_T65 l1 AC).f0))).setCell ⟨AD, 1, none⟩ (.int .i8 ((rd_T65 l1 AC).f1))).heap[AD]? = some (.cells #[.int .i16 ((rd_T65 l1 AC).f0), .int .i8 ((rd_T65 l1 AC).f1)] 65 (0, 0))) := ⟨by refine blk_put (cs := #[.int .i16 ((rd_T65 l1 AC).f0), .int .i8 0]) ?_ 1 _ rfl; refine blk_put (cs := #[.int .i16 0, .int .i8 0]) ?_ 0 _ rfl; exact AB.out⟩
 have AY : Aside0 (Below w.heap.size w ((BP.setCell ⟨AD, 0, none⟩ (.int .i16 ((rd_T65 l1 AC).f0))).setCell ⟨AD, 1, none⟩ (.int .i8 ((rd_T65 l1 AC).f1)))) := ⟨zH2 HB AF AO⟩
 generalize ((BP.setCell ⟨AD, 0, none⟩ (.int .i16 ((rd_T65 l1 AC).f0))).setCell ⟨AD, 1, none⟩ (.int .i8 ((rd_T65 l1 AC).f1))) = DA at AZ AX AY ⊢
 have AA := AZ
 have AB := AX
 have HB := AY
 clear AZ AX AY
 replace AA := ak (blk_drew AA.out)
 replace AB := ak (blk_drew AB.out)
 replace HB := ak (below_drew1 HB.out)
 have Ad : 0 ≤ ((AS) : Int) := of_decide_eq_true (by assumption)
 have Aa : (AS) < (l1.length : Int) := of_decide_eq_true (by assumption)
 obtain ⟨Am, A0, AL, AM⟩ := at_T65 Aw.out (AS) Ad Aa
 have AI := AM
 have AJ := AL
 obtain rfl : AK = Am := (by injection A0)
 replace AL := (HB.out.cell (World.block_lt_of_cell? w _ AL)).trans AL
 replace AM := (HB.out.cell (World.block_lt_of_cell? w _ AM)).trans AM
 replace Ad := eq_true Ad
 replace Aa := eq_true Aa
 refine start_ (n := 26) (S := fun w' => w'.cell? ⟨AQ, 0, none⟩ = some (.int .i16 AR) ∧ w'.cell? ⟨AQ, 1, none⟩ = some (.slice AU AN.length AT) ∧ w'.cell? ⟨AD, 0, none⟩ = some (.int .i16 ((rd_T65 l1 AC).f0)) ∧ w'.cell? ⟨AD, 1, none⟩ = some (.int .i8 ((rd_T65 l1 AC).f1)) ∧ w'.cell? (AK.add (((AS)).toNat * 2)) = some (.int .i16 ((rd_T65 l1 (AS)).f0)) ∧ w'.cell? ⟨(AK.add (((AS)).toNat * 2)).block, (AK.add (((AS)).toNat * 2)).off + 1, none⟩ = some (.int .i8 ((rd_T65 l1 (AS)).f1))) (ds := []) (bA 26 0) (by kernel_rfl) rfl rfl ⟨(blk_cell AA.out 0).trans rfl, (blk_cell AA.out 1).trans rfl, (blk_cell AB.out 0).trans rfl, (blk_cell AB.out 1).trans rfl, ((HB.out.cell (World.block_lt_of_cell? w _ AJ)).trans AJ), ((HB.out.cell (World.block_lt_of_cell? w _ AI)).trans AI)⟩ (fun hHeld => ?_); refine with_tabW impl_ValidHolds.tab4 impl_ValidHolds.bits4 (fun HT_ HW_ => ?_)
 generalize DA.drew = DW at AA AB HB AL AM hHeld ⊢
 refine tK 0 14 (bA 26 1) HT_ HW_ hHeld ?_
 refine tK 1 15 (bA 26 3) HT_ HW_ hHeld ?_
 refine one_ (i := 2) (N := some 16) (bA 26 7) rfl rfl (one_of HT_.out (by kernel_rfl)) (by decide) (fun K hK => ?_)
 refine goes_ Try.func95 (by kernel_rfl) rfl #[.agg #[.int .i16 AR, .slice AU AN.length AT], .agg #[.int .i16 ((rd_T65 l1 AC).f0), .int .i8 ((rd_T65 l1 AC).f1)]] (by rfl) rfl rfl gl_ ?_
 with_reducible refine (impl_Rope_isHold.calls AR _ _ AN ((rd_T65 l1 AC).f0) ((rd_T65 l1 AC).f1) true _ ?side1 ?side2 A7.out).mono ?_
 (case side1 => exact sQ (Kd.C_below Ab.out HB.out))
 (case side2 => exact Ac.out)
 rintro e DO ⟨rfl, hb⟩
 refine ⟨_, rfl, ?_⟩
 replace AA := kK AA hb
 replace AB := kK AB hb
 replace HB := kB2 HB AF AO hb
 have CP : (AC : Int) ≤ ((l1.length : Int) : Int) := of_decide_eq_true (by assumption)
 obtain ⟨DB, A3, _, Be, _⟩ := info_parts info65
 have Av : l1.length ≤ c1 := Bl.out
 have Bb : Kd.C k65 _ (some AK) l1.length l1 := Aw.out
 have BJ := cut_to (P := Try.prog) 51 65 .i64 Try.underlying51 A3 (some AK) l1.length c1 AC (of_decide_eq_true (by assumption)) CP Av
 have BG := Kd.C_take (m := (AC : Int).toNat) Bb (by omega)
 have BB : Ag.length = (AC : Int).toNat := (by rw [Aq.out, List.length_take]; omega)
 rw [← Aq.out] at BG
 rw [← BB] at BJ
 have Ax := ak BG
 have A2 := ak (show Ag.length ≤ c1 from by omega)
 clear BG Bb Av A3 Be
 have DC := ak BB
 clear BB
 replace CP := eq_true CP
 refine hK.out _ _ ⟨(blk_cell AA.out 0).trans rfl, (blk_cell AA.out 1).trans rfl, (blk_cell AB.out 0).trans rfl, (blk_cell AB.out 1).trans rfl, ((HB.out.cell (World.block_lt_of_cell? w _ AJ)).trans AJ), ((HB.out.cell (World.block_lt_of_cell? w _ AI)).trans AI)⟩ (fun hHeld => ?_)
 clear hK K
 refine norm_ (a' := ?_) ?_ ?_
 rotate_left
 {
 show Act.put _ (some 16) _ = _
 simp only [Act.put, zs, zz, zk, i64_w, i32_w]
 rfl
 }
 refine pU 3 17 (bA 26 15) HT_ ?_
 refine pU 4 18 (bA 26 31) HT_ ?_
 refine pU 5 19 (bA 26 63) HT_ ?_
 refine pU 6 20 (bA 26 127) HT_ ?_
 refine pU 7 21 (bA 26 255) HT_ ?_
 refine pU 8 22 (bA 26 511) HT_ ?_
 refine pU 10 24 (bA 26 1535) HT_ ?_
 refine pU 11 25 (bA 26 3583) HT_ ?_
 refine pU 12 26 (bA 26 7679) HT_ ?_
 refine pU 13 27 (bA 26 15871) HT_ ?_
 refine pU 14 28 (bA 26 32255) HT_ ?_
 refine tK 9 23 (bA 26 32767) HT_ HW_ hHeld ?_
 refine tK 15 29 (bA 26 65535) HT_ HW_ hHeld ?_
 refine pU 16 30 (bA 26 131071) HT_ ?_
 refine pU 17 31 (bA 26 262143) HT_ ?_
 refine pU 18 32 (bA 26 524287) HT_ ?_
 refine pU 19 33 (bA 26 1048575) HT_ ?_
 refine pU 20 34 (bA 26 2097151) HT_ ?_
 refine pU 21 35 (bA 26 4194303) HT_ ?_
 refine pU 22 36 (bA 26 8388607) HT_ ?_
 refine pU 23 37 (bA 26 16777215) HT_ ?_
 refine one_ (i := 24) (N := some 38) (bA 26 33554431) rfl rfl (one_of HT_.out (by kernel_rfl)) (by decide) (fun K hK => ?_)
 refine goes_ Try.func96 (by kernel_rfl) rfl #[.slice (some AK) Ag.length c1, .func (.func 97) #[] #[.pointer (some ⟨AD, 0, none⟩)]] (by rfl) rfl rfl gl_ ?_
 with_reducible refine (slices_ContainsFunc_Hold_at_ValidHolds_1.calls k1 _ _ Ag AD ((rd_T65 l1 AC).f0) ((rd_T65 l1 AC).f1) true _ ?side1 ?side2 ?side3 Ca.out).mono ?_
 (case side1 => exact sQ (Kd.C_below Ax.out HB.out))
 (case side2 => exact A2.out)
 (case side3 => exact (zK AB.out))
 rintro e DJ ⟨rfl, hb⟩
 refine ⟨_, rfl, ?_⟩
 replace AA := kK AA hb
 replace AB := kK AB hb
 replace HB := kB2 HB AF AO hb
 refine hK.out _ _ ⟨(blk_cell AA.out 0).trans rfl, (blk_cell AA.out 1).trans rfl, (blk_cell AB.out 0).trans rfl, (blk_cell AB.out 1).trans rfl, ((HB.out.cell (World.block_lt_of_cell? w _ AJ)).trans AJ), ((HB.out.cell (World.block_lt_of_cell? w _ AI)).trans AI)⟩ (fun hHeld => ?_)
 clear hK K
 refine norm_ (a' := ?_) ?_ ?_
 rotate_left
 {
 show Act.put _ (some 38) _ = _
 simp only [Act.put, zs, zz, zk, i64_w, i32_w]
 rfl
 }
 refine pU 25 39 (bA 26 67108863) HT_ ?_
 refine done_ (done_of HT_.out (by kernel_rfl)) ?_
 try go_wp2
 go_ret
 exact ⟨by first | rfl | (simp [errW_none, errW_some] <;> rfl) | (simp only [← Af]; first | rfl | (simp [errW_none, errW_some] <;> rfl)) | (simp [*, errW_none, errW_some] <;> rfl), zH2 HB AF AO⟩
 }
 {
 replace CI := Bool.eq_false_iff.mpr CI
 subst CI
 rw [if_neg (show ¬ (false = true) by decide)] at H
 have H' := ak H
 clear H
 have AV : 0 ≤ (AC : Int) := of_decide_eq_true (by assumption)
 have AW : AC < (l1.length : Int) := of_decide_eq_true (by assumption)
 obtain ⟨AK, Ae, AH, AG⟩ := at_T65 Aw.out AC AV AW
 cases Ae
 replace AH := (HB.out.cell (World.block_lt_of_cell? w _ AH)).trans AH
 replace AG := (HB.out.cell (World.block_lt_of_cell? w _ AG)).trans AG
 replace AV := eq_true AV
 replace AW := eq_true AW
 try go_wp2_with (first | ((with_reducible refine gate_dst (N := 6) rfl ?_); refine box_event ?hg (N := 6) ?hd (cs := #[.int .i16 0, .int .i8 0]) (t := 65) ?hr ?_; (case hd => rfl); (case hg => rfl); (case hr => first | (go_simp; done) | (go_simp; rfl)); intro AD hg BT hbox hb; have AZ := ak (blk_below (g := AQ) (o := .cells #[.int .i16 AR, .slice AU AN.length AT] 32 (0, 0)) (zK AA.out) hb); have AX := ak (below_step (zBG HB.out AF.out) hb); have AY := ak (hbox); have Ak := gS1 HB AF hg; have Ap := gS1 HB AF hg; have Ai := nL AA hg; have Ao := nG AA hg; clear AA HB; have AA := AZ; have HB := AX; have AB := AY; have Al := Ak; have AO := Ap; have AE := Ai; have AP := Ao; clear AZ AX AY Ak Ap Ai Ao; clear hb hbox hg; have Ci := AP.out; have Cb := AE.out; have By : BT.cell? ⟨AD, 0, none⟩ = some (.int .i16 0) := (blk_cell AB.out 0).trans rfl; have B8 : BT.cell? ⟨AD, 1, none⟩ = some (.int .i8 0) := (blk_cell AB.out 1).trans rfl; have Bp := blk_frozen AB.out 0; have CH := blk_frozen AB.out 1))
 have AZ : Aside0 (((BT.setCell ⟨AD, 0, none⟩ (.int .i16 ((rd_T65 l1 AC).f0))).setCell ⟨AD, 1, none⟩ (.int .i8 ((rd_T65 l1 AC).f1))).heap[AQ]? = some (.cells #[.int .i16 AR, .slice AU AN.length AT] 32 (0, 0))) := ⟨by refine blk_far ?_ AE.out _; refine blk_far ?_ AE.out _; exact AA.out⟩
 have AX : Aside0 (((BT.setCell ⟨AD, 0, none⟩ (.int .i16 ((rd_T65 l1 AC).f0))).setCell ⟨AD, 1, none⟩ (.int .i8 ((rd_T65 l1 AC).f1))).heap[AD]? = some (.cells #[.int .i16 ((rd_T65 l1 AC).f0), .int .i8 ((rd_T65 l1 AC).f1)] 65 (0, 0))) := ⟨by refine blk_put (cs := #[.int .i16 ((rd_T65 l1 AC).f0), .int .i8 0]) ?_ 1 _ rfl; refine blk_put (cs := #[.int .i16 0, .int .i8 0]) ?_ 0 _ rfl; exact AB.out⟩
 have AY : Aside0 (Below w.heap.size w ((BT.setCell ⟨AD, 0, none⟩ (.int .i16 ((rd_T65 l1 AC).f0))).setCell ⟨AD, 1, none⟩ (.int .i8 ((rd_T65 l1 AC).f1)))) := ⟨zH2 HB AF AO⟩
 generalize ((BT.setCell ⟨AD, 0, none⟩ (.int .i16 ((rd_T65 l1 AC).f0))).setCell ⟨AD, 1, none⟩ (.int .i8 ((rd_T65 l1 AC).f1))) = DD at AZ AX AY ⊢
 have AA := AZ
 have AB := AX
 have HB := AY
 clear AZ AX AY
 replace AA := ak (blk_drew AA.out)
 replace AB := ak (blk_drew AB.out)
 replace HB := ak (below_drew1 HB.out)
 have Ad : 0 ≤ ((AS) : Int) := of_decide_eq_true (by assumption)
 have Aa : (AS) < (l1.length : Int) := of_decide_eq_true (by assumption)
 obtain ⟨Am, A0, AL, AM⟩ := at_T65 Aw.out (AS) Ad Aa
 have AI := AM
 have AJ := AL
 obtain rfl : AK = Am := (by injection A0)
 replace AL := (HB.out.cell (World.block_lt_of_cell? w _ AL)).trans AL
 replace AM := (HB.out.cell (World.block_lt_of_cell? w _ AM)).trans AM
 replace Ad := eq_true Ad
 replace Aa := eq_true Aa
 refine start_ (n := 26) (S := fun w' => w'.cell? ⟨AQ, 0, none⟩ = some (.int .i16 AR) ∧ w'.cell? ⟨AQ, 1, none⟩ = some (.slice AU AN.length AT) ∧ w'.cell? ⟨AD, 0, none⟩ = some (.int .i16 ((rd_T65 l1 AC).f0)) ∧ w'.cell? ⟨AD, 1, none⟩ = some (.int .i8 ((rd_T65 l1 AC).f1)) ∧ w'.cell? (AK.add (((AS)).toNat * 2)) = some (.int .i16 ((rd_T65 l1 (AS)).f0)) ∧ w'.cell? ⟨(AK.add (((AS)).toNat * 2)).block, (AK.add (((AS)).toNat * 2)).off + 1, none⟩ = some (.int .i8 ((rd_T65 l1 (AS)).f1))) (ds := []) (bA 26 0) (by kernel_rfl) rfl rfl ⟨(blk_cell AA.out 0).trans rfl, (blk_cell AA.out 1).trans rfl, (blk_cell AB.out 0).trans rfl, (blk_cell AB.out 1).trans rfl, ((HB.out.cell (World.block_lt_of_cell? w _ AJ)).trans AJ), ((HB.out.cell (World.block_lt_of_cell? w _ AI)).trans AI)⟩ (fun hHeld => ?_); refine with_tabW impl_ValidHolds.tab4 impl_ValidHolds.bits4 (fun HT_ HW_ => ?_)
 generalize DD.drew = DL at AA AB HB AL AM hHeld ⊢
 refine tK 0 14 (bA 26 1) HT_ HW_ hHeld ?_
 refine tK 1 15 (bA 26 3) HT_ HW_ hHeld ?_
 refine one_ (i := 2) (N := some 16) (bA 26 7) rfl rfl (one_of HT_.out (by kernel_rfl)) (by decide) (fun K hK => ?_)
 refine goes_ Try.func95 (by kernel_rfl) rfl #[.agg #[.int .i16 AR, .slice AU AN.length AT], .agg #[.int .i16 ((rd_T65 l1 AC).f0), .int .i8 ((rd_T65 l1 AC).f1)]] (by rfl) rfl rfl gl_ ?_
 with_reducible refine (impl_Rope_isHold.calls AR _ _ AN ((rd_T65 l1 AC).f0) ((rd_T65 l1 AC).f1) true _ ?side1 ?side2 A7.out).mono ?_
 (case side1 => exact sQ (Kd.C_below Ab.out HB.out))
 (case side2 => exact Ac.out)
 rintro e DH ⟨rfl, hb⟩
 refine ⟨_, rfl, ?_⟩
 replace AA := kK AA hb
 replace AB := kK AB hb
 replace HB := kB2 HB AF AO hb
 have CW : (AC : Int) ≤ ((l1.length : Int) : Int) := of_decide_eq_true (by assumption)
 obtain ⟨C6, A6, _, BY, _⟩ := info_parts info65
 have As : l1.length ≤ c1 := Bl.out
 have Ba : Kd.C k65 _ (some AK) l1.length l1 := Aw.out
 have BD := cut_to (P := Try.prog) 51 65 .i64 Try.underlying51 A6 (some AK) l1.length c1 AC (of_decide_eq_true (by assumption)) CW As
 have BK := Kd.C_take (m := (AC : Int).toNat) Ba (by omega)
 have BE : Ag.length = (AC : Int).toNat := (by rw [Aq.out, List.length_take]; omega)
 rw [← Aq.out] at BK
 rw [← BE] at BD
 have Ax := ak BK
 have A2 := ak (show Ag.length ≤ c1 from by omega)
 clear BK Ba As A6 BY
 have Cz := ak BE
 clear BE
 replace CW := eq_true CW
 refine hK.out _ _ ⟨(blk_cell AA.out 0).trans rfl, (blk_cell AA.out 1).trans rfl, (blk_cell AB.out 0).trans rfl, (blk_cell AB.out 1).trans rfl, ((HB.out.cell (World.block_lt_of_cell? w _ AJ)).trans AJ), ((HB.out.cell (World.block_lt_of_cell? w _ AI)).trans AI)⟩ (fun hHeld => ?_)
 clear hK K
 refine norm_ (a' := ?_) ?_ ?_
 rotate_left
 {
 show Act.put _ (some 16) _ = _
 simp only [Act.put, zs, zz, zk, i64_w, i32_w]
 rfl
 }
 refine pU 3 17 (bA 26 15) HT_ ?_
 refine pU 4 18 (bA 26 31) HT_ ?_
 refine pU 5 19 (bA 26 63) HT_ ?_
 refine pU 6 20 (bA 26 127) HT_ ?_
 refine pU 7 21 (bA 26 255) HT_ ?_
 refine pU 8 22 (bA 26 511) HT_ ?_
 refine pU 10 24 (bA 26 1535) HT_ ?_
 refine pU 11 25 (bA 26 3583) HT_ ?_
 refine pU 12 26 (bA 26 7679) HT_ ?_
 refine pU 13 27 (bA 26 15871) HT_ ?_
 refine pU 14 28 (bA 26 32255) HT_ ?_
 refine tK 9 23 (bA 26 32767) HT_ HW_ hHeld ?_
 refine tK 15 29 (bA 26 65535) HT_ HW_ hHeld ?_
 refine pU 16 30 (bA 26 131071) HT_ ?_
 refine pU 17 31 (bA 26 262143) HT_ ?_
 refine pU 18 32 (bA 26 524287) HT_ ?_
 refine pU 19 33 (bA 26 1048575) HT_ ?_
 refine pU 20 34 (bA 26 2097151) HT_ ?_
 refine pU 21 35 (bA 26 4194303) HT_ ?_
 refine pU 22 36 (bA 26 8388607) HT_ ?_
 refine pU 23 37 (bA 26 16777215) HT_ ?_
 refine one_ (i := 24) (N := some 38) (bA 26 33554431) rfl rfl (one_of HT_.out (by kernel_rfl)) (by decide) (fun K hK => ?_)
 refine goes_ Try.func96 (by kernel_rfl) rfl #[.slice (some AK) Ag.length c1, .func (.func 97) #[] #[.pointer (some ⟨AD, 0, none⟩)]] (by rfl) rfl rfl gl_ ?_
 with_reducible refine (slices_ContainsFunc_Hold_at_ValidHolds_1.calls k1 _ _ Ag AD ((rd_T65 l1 AC).f0) ((rd_T65 l1 AC).f1) false _ ?side1 ?side2 ?side3 Ca.out).mono ?_
 (case side1 => exact sQ (Kd.C_below Ax.out HB.out))
 (case side2 => exact A2.out)
 (case side3 => exact (zK AB.out))
 rintro e DV ⟨rfl, hb⟩
 refine ⟨_, rfl, ?_⟩
 replace AA := kK AA hb
 replace AB := kK AB hb
 replace HB := kB2 HB AF AO hb
 refine hK.out _ _ ⟨(blk_cell AA.out 0).trans rfl, (blk_cell AA.out 1).trans rfl, (blk_cell AB.out 0).trans rfl, (blk_cell AB.out 1).trans rfl, ((HB.out.cell (World.block_lt_of_cell? w _ AJ)).trans AJ), ((HB.out.cell (World.block_lt_of_cell? w _ AI)).trans AI)⟩ (fun hHeld => ?_)
 clear hK K
 refine norm_ (a' := ?_) ?_ ?_
 rotate_left
 {
 show Act.put _ (some 38) _ = _
 simp only [Act.put, zs, zz, zk, i64_w, i32_w]
 rfl
 }
 refine pU 25 39 (bA 26 67108863) HT_ ?_
 refine done_ (done_of HT_.out (by kernel_rfl)) ?_
 try go_wp2
 go_roundg k1
 case measure => have := B0.out; omega
 case rel => exact ⟨(wrap64 (AC + 1)), rfl, H', ⟨by have := B0.out; omega⟩, ⟨(zK AA.out)⟩, ⟨zH2 HB AF AO⟩⟩
 }
 }
 · rw [if_neg BW] at H; exact absurd H (by simp)
 }
 }
 · rw [if_neg Bt] at H; exact absurd H (by simp)
 }
 · rw [if_neg CL] at H; exact absurd H (by simp)
 }
 {
 rw [if_neg c9] at H
 have CU : decide (0 < AC) = false := decide_eq_false c9
 clear c9
 have Cp := eq_true (of_decide_eq_true (by assumption) : 0 ≤ AC)
 by_cases Bc : AC ≤ (l1.length : Int)
 {
 rw [if_pos Bc] at H
 have Cs := eq_true Bc
 have Ch : decide (AC ≤ (l1.length : Int)) = true := decide_eq_true Bc
 clear Bc
 obtain ⟨Ah, Aj⟩ : ∃ y_ : List (S65), y_ = (l1.take (AC : Int).toNat) := ⟨_, rfl⟩
 replace H : ((slices_ContainsFunc_Hold_at_ValidHolds_1.f k1 Ah ((rd_T65 l1 AC).f0) ((rd_T65 l1 AC).f1)).bind fun BC => (if BC = true then (some false) else (impl_ValidHolds.l0 k1 l1 l1 (l1.length : Int) (wrap64 (AC + 1)) AR AN))) = some r := by first | (rw [Aj]; with_reducible exact H) | (have BO := (Option.bind_some _ _).symm.trans H; rw [Aj]; with_reducible exact BO) | (have BO := (Option.bind_some _ _).symm.trans H; with_reducible exact BO) | with_reducible exact H | (rw [Aj]; exact H) | exact H
 have At := ak Aj
 clear Aj
 replace H := Option.bind_eq_some_iff.mp H
 obtain ⟨BC, Bh, H⟩ := H
 have Ck := ak Bh
 clear Bh
 by_cases Bw : BC = true
 {
 subst Bw
 rw [if_pos rfl] at H
 obtain rfl := Option.some.inj H
 have AV : 0 ≤ (AC : Int) := of_decide_eq_true (by assumption)
 have AW : AC < (l1.length : Int) := of_decide_eq_true (by assumption)
 obtain ⟨AK, Ae, AH, AG⟩ := at_T65 Aw.out AC AV AW
 cases Ae
 replace AH := (HB.out.cell (World.block_lt_of_cell? w _ AH)).trans AH
 replace AG := (HB.out.cell (World.block_lt_of_cell? w _ AG)).trans AG
 replace AV := eq_true AV
 replace AW := eq_true AW
 try go_wp2_with (first | ((with_reducible refine gate_dst (N := 6) rfl ?_); refine box_event ?hg (N := 6) ?hd (cs := #[.int .i16 0, .int .i8 0]) (t := 65) ?hr ?_; (case hd => rfl); (case hg => rfl); (case hr => first | (go_simp; done) | (go_simp; rfl)); intro AD hg BQ hbox hb; have AZ := ak (blk_below (g := AQ) (o := .cells #[.int .i16 AR, .slice AU AN.length AT] 32 (0, 0)) (zK AA.out) hb); have AX := ak (below_step (zBG HB.out AF.out) hb); have AY := ak (hbox); have Ak := gS1 HB AF hg; have Ap := gS1 HB AF hg; have Ai := nL AA hg; have Ao := nG AA hg; clear AA HB; have AA := AZ; have HB := AX; have AB := AY; have Al := Ak; have AO := Ap; have AE := Ai; have AP := Ao; clear AZ AX AY Ak Ap Ai Ao; clear hb hbox hg; have Cw := AP.out; have Cq := AE.out; have CB : BQ.cell? ⟨AD, 0, none⟩ = some (.int .i16 0) := (blk_cell AB.out 0).trans rfl; have CE : BQ.cell? ⟨AD, 1, none⟩ = some (.int .i8 0) := (blk_cell AB.out 1).trans rfl; have Bx := blk_frozen AB.out 0; have Bz := blk_frozen AB.out 1))
 have AZ : Aside0 (((BQ.setCell ⟨AD, 0, none⟩ (.int .i16 ((rd_T65 l1 AC).f0))).setCell ⟨AD, 1, none⟩ (.int .i8 ((rd_T65 l1 AC).f1))).heap[AQ]? = some (.cells #[.int .i16 AR, .slice AU AN.length AT] 32 (0, 0))) := ⟨by refine blk_far ?_ AE.out _; refine blk_far ?_ AE.out _; exact AA.out⟩
 have AX : Aside0 (((BQ.setCell ⟨AD, 0, none⟩ (.int .i16 ((rd_T65 l1 AC).f0))).setCell ⟨AD, 1, none⟩ (.int .i8 ((rd_T65 l1 AC).f1))).heap[AD]? = some (.cells #[.int .i16 ((rd_T65 l1 AC).f0), .int .i8 ((rd_T65 l1 AC).f1)] 65 (0, 0))) := ⟨by refine blk_put (cs := #[.int .i16 ((rd_T65 l1 AC).f0), .int .i8 0]) ?_ 1 _ rfl; refine blk_put (cs := #[.int .i16 0, .int .i8 0]) ?_ 0 _ rfl; exact AB.out⟩
 have AY : Aside0 (Below w.heap.size w ((BQ.setCell ⟨AD, 0, none⟩ (.int .i16 ((rd_T65 l1 AC).f0))).setCell ⟨AD, 1, none⟩ (.int .i8 ((rd_T65 l1 AC).f1)))) := ⟨zH2 HB AF AO⟩
 generalize ((BQ.setCell ⟨AD, 0, none⟩ (.int .i16 ((rd_T65 l1 AC).f0))).setCell ⟨AD, 1, none⟩ (.int .i8 ((rd_T65 l1 AC).f1))) = Cy at AZ AX AY ⊢
 have AA := AZ
 have AB := AX
 have HB := AY
 clear AZ AX AY
 replace AA := ak (blk_drew AA.out)
 replace AB := ak (blk_drew AB.out)
 replace HB := ak (below_drew1 HB.out)
 refine start_ (n := 26) (S := fun w' => w'.cell? ⟨AQ, 0, none⟩ = some (.int .i16 AR) ∧ w'.cell? ⟨AQ, 1, none⟩ = some (.slice AU AN.length AT) ∧ w'.cell? ⟨AD, 0, none⟩ = some (.int .i16 ((rd_T65 l1 AC).f0)) ∧ w'.cell? ⟨AD, 1, none⟩ = some (.int .i8 ((rd_T65 l1 AC).f1))) (ds := []) (bA 26 0) (by kernel_rfl) rfl rfl ⟨(blk_cell AA.out 0).trans rfl, (blk_cell AA.out 1).trans rfl, (blk_cell AB.out 0).trans rfl, (blk_cell AB.out 1).trans rfl⟩ (fun hHeld => ?_); refine with_tabW impl_ValidHolds.tab4 impl_ValidHolds.bits4 (fun HT_ HW_ => ?_)
 generalize Cy.drew = DQ at AA AB HB hHeld ⊢
 refine tK 0 14 (bA 26 1) HT_ HW_ hHeld ?_
 refine tK 1 15 (bA 26 3) HT_ HW_ hHeld ?_
 refine one_ (i := 2) (N := some 16) (bA 26 7) rfl rfl (one_of HT_.out (by kernel_rfl)) (by decide) (fun K hK => ?_)
 refine goes_ Try.func95 (by kernel_rfl) rfl #[.agg #[.int .i16 AR, .slice AU AN.length AT], .agg #[.int .i16 ((rd_T65 l1 AC).f0), .int .i8 ((rd_T65 l1 AC).f1)]] (by rfl) rfl rfl gl_ ?_
 with_reducible refine (impl_Rope_isHold.calls AR _ _ AN ((rd_T65 l1 AC).f0) ((rd_T65 l1 AC).f1) true _ ?side1 ?side2 A7.out).mono ?_
 (case side1 => exact sQ (Kd.C_below Ab.out HB.out))
 (case side2 => exact Ac.out)
 rintro e DG ⟨rfl, hb⟩
 refine ⟨_, rfl, ?_⟩
 replace AA := kK AA hb
 replace AB := kK AB hb
 replace HB := kB2 HB AF AO hb
 have CS : (AC : Int) ≤ ((l1.length : Int) : Int) := of_decide_eq_true (by assumption)
 obtain ⟨C9, A4, _, Bj, _⟩ := info_parts info65
 have Au : l1.length ≤ c1 := Bl.out
 have Bi : Kd.C k65 _ (some AK) l1.length l1 := Aw.out
 have BM := cut_to (P := Try.prog) 51 65 .i64 Try.underlying51 A4 (some AK) l1.length c1 AC (of_decide_eq_true (by assumption)) CS Au
 have BL := Kd.C_take (m := (AC : Int).toNat) Bi (by omega)
 have BA : Ah.length = (AC : Int).toNat := (by rw [At.out, List.length_take]; omega)
 rw [← At.out] at BL
 rw [← BA] at BM
 have Az := ak BL
 have Ay := ak (show Ah.length ≤ c1 from by omega)
 clear BL Bi Au A4 Bj
 have C5 := ak BA
 clear BA
 replace CS := eq_true CS
 refine hK.out _ _ ⟨(blk_cell AA.out 0).trans rfl, (blk_cell AA.out 1).trans rfl, (blk_cell AB.out 0).trans rfl, (blk_cell AB.out 1).trans rfl⟩ (fun hHeld => ?_)
 clear hK K
 refine norm_ (a' := ?_) ?_ ?_
 rotate_left
 {
 show Act.put _ (some 16) _ = _
 simp only [Act.put, zs, zz, zk, i64_w, i32_w]
 rfl
 }
 refine pU 3 17 (bA 26 15) HT_ ?_
 refine pU 4 18 (bA 26 31) HT_ ?_
 refine pU 5 19 (bA 26 63) HT_ ?_
 refine pU 6 20 (bA 26 127) HT_ ?_
 refine pU 7 21 (bA 26 255) HT_ ?_
 refine pN 8 22 (bA 26 511) HT_ ?_
 refine pN 9 23 (bA 26 1023) HT_ ?_
 refine pN 10 24 (bA 26 2047) HT_ ?_
 refine pN 11 25 (bA 26 4095) HT_ ?_
 refine pN 12 26 (bA 26 8191) HT_ ?_
 refine pN 13 27 (bA 26 16383) HT_ ?_
 refine pN 14 28 (bA 26 32767) HT_ ?_
 refine pN 15 29 (bA 26 65535) HT_ ?_
 refine pN 16 30 (bA 26 131071) HT_ ?_
 refine pU 17 31 (bA 26 262143) HT_ ?_
 refine pU 18 32 (bA 26 524287) HT_ ?_
 refine pU 19 33 (bA 26 1048575) HT_ ?_
 refine pU 20 34 (bA 26 2097151) HT_ ?_
 refine pU 21 35 (bA 26 4194303) HT_ ?_
 refine pU 22 36 (bA 26 8388607) HT_ ?_
 refine pU 23 37 (bA 26 16777215) HT_ ?_
 refine one_ (i := 24) (N := some 38) (bA 26 33554431) rfl rfl (one_of HT_.out (by kernel_rfl)) (by decide) (fun K hK => ?_)
 refine goes_ Try.func96 (by kernel_rfl) rfl #[.slice (some AK) Ah.length c1, .func (.func 97) #[] #[.pointer (some ⟨AD, 0, none⟩)]] (by rfl) rfl rfl gl_ ?_
 with_reducible refine (slices_ContainsFunc_Hold_at_ValidHolds_1.calls k1 _ _ Ah AD ((rd_T65 l1 AC).f0) ((rd_T65 l1 AC).f1) true _ ?side1 ?side2 ?side3 Ck.out).mono ?_
 (case side1 => exact sQ (Kd.C_below Az.out HB.out))
 (case side2 => exact Ay.out)
 (case side3 => exact (zK AB.out))
 rintro e DT ⟨rfl, hb⟩
 refine ⟨_, rfl, ?_⟩
 replace AA := kK AA hb
 replace AB := kK AB hb
 replace HB := kB2 HB AF AO hb
 refine hK.out _ _ ⟨(blk_cell AA.out 0).trans rfl, (blk_cell AA.out 1).trans rfl, (blk_cell AB.out 0).trans rfl, (blk_cell AB.out 1).trans rfl⟩ (fun hHeld => ?_)
 clear hK K
 refine norm_ (a' := ?_) ?_ ?_
 rotate_left
 {
 show Act.put _ (some 38) _ = _
 simp only [Act.put, zs, zz, zk, i64_w, i32_w]
 rfl
 }
 refine pU 25 39 (bA 26 67108863) HT_ ?_
 refine done_ (done_of HT_.out (by kernel_rfl)) ?_
 try go_wp2
 go_ret
 exact ⟨rfl, zH2 HB AF AO⟩
 }
 {
 replace Bw := Bool.eq_false_iff.mpr Bw
 subst Bw
 rw [if_neg (show ¬ (false = true) by decide)] at H
 have H' := ak H
 clear H
 have AV : 0 ≤ (AC : Int) := of_decide_eq_true (by assumption)
 have AW : AC < (l1.length : Int) := of_decide_eq_true (by assumption)
 obtain ⟨AK, Ae, AH, AG⟩ := at_T65 Aw.out AC AV AW
 cases Ae
 replace AH := (HB.out.cell (World.block_lt_of_cell? w _ AH)).trans AH
 replace AG := (HB.out.cell (World.block_lt_of_cell? w _ AG)).trans AG
 replace AV := eq_true AV
 replace AW := eq_true AW
 try go_wp2_with (first | ((with_reducible refine gate_dst (N := 6) rfl ?_); refine box_event ?hg (N := 6) ?hd (cs := #[.int .i16 0, .int .i8 0]) (t := 65) ?hr ?_; (case hd => rfl); (case hg => rfl); (case hr => first | (go_simp; done) | (go_simp; rfl)); intro AD hg BS hbox hb; have AZ := ak (blk_below (g := AQ) (o := .cells #[.int .i16 AR, .slice AU AN.length AT] 32 (0, 0)) (zK AA.out) hb); have AX := ak (below_step (zBG HB.out AF.out) hb); have AY := ak (hbox); have Ak := gS1 HB AF hg; have Ap := gS1 HB AF hg; have Ai := nL AA hg; have Ao := nG AA hg; clear AA HB; have AA := AZ; have HB := AX; have AB := AY; have Al := Ak; have AO := Ap; have AE := Ai; have AP := Ao; clear AZ AX AY Ak Ap Ai Ao; clear hb hbox hg; have Cm := AP.out; have Cd := AE.out; have CD : BS.cell? ⟨AD, 0, none⟩ = some (.int .i16 0) := (blk_cell AB.out 0).trans rfl; have Bm : BS.cell? ⟨AD, 1, none⟩ = some (.int .i8 0) := (blk_cell AB.out 1).trans rfl; have Bu := blk_frozen AB.out 0; have Bv := blk_frozen AB.out 1))
 have AZ : Aside0 (((BS.setCell ⟨AD, 0, none⟩ (.int .i16 ((rd_T65 l1 AC).f0))).setCell ⟨AD, 1, none⟩ (.int .i8 ((rd_T65 l1 AC).f1))).heap[AQ]? = some (.cells #[.int .i16 AR, .slice AU AN.length AT] 32 (0, 0))) := ⟨by refine blk_far ?_ AE.out _; refine blk_far ?_ AE.out _; exact AA.out⟩
 have AX : Aside0 (((BS.setCell ⟨AD, 0, none⟩ (.int .i16 ((rd_T65 l1 AC).f0))).setCell ⟨AD, 1, none⟩ (.int .i8 ((rd_T65 l1 AC).f1))).heap[AD]? = some (.cells #[.int .i16 ((rd_T65 l1 AC).f0), .int .i8 ((rd_T65 l1 AC).f1)] 65 (0, 0))) := ⟨by refine blk_put (cs := #[.int .i16 ((rd_T65 l1 AC).f0), .int .i8 0]) ?_ 1 _ rfl; refine blk_put (cs := #[.int .i16 0, .int .i8 0]) ?_ 0 _ rfl; exact AB.out⟩
 have AY : Aside0 (Below w.heap.size w ((BS.setCell ⟨AD, 0, none⟩ (.int .i16 ((rd_T65 l1 AC).f0))).setCell ⟨AD, 1, none⟩ (.int .i8 ((rd_T65 l1 AC).f1)))) := ⟨zH2 HB AF AO⟩
 generalize ((BS.setCell ⟨AD, 0, none⟩ (.int .i16 ((rd_T65 l1 AC).f0))).setCell ⟨AD, 1, none⟩ (.int .i8 ((rd_T65 l1 AC).f1))) = C1 at AZ AX AY ⊢
 have AA := AZ
 have AB := AX
 have HB := AY
 clear AZ AX AY
 replace AA := ak (blk_drew AA.out)
 replace AB := ak (blk_drew AB.out)
 replace HB := ak (below_drew1 HB.out)
 refine start_ (n := 26) (S := fun w' => w'.cell? ⟨AQ, 0, none⟩ = some (.int .i16 AR) ∧ w'.cell? ⟨AQ, 1, none⟩ = some (.slice AU AN.length AT) ∧ w'.cell? ⟨AD, 0, none⟩ = some (.int .i16 ((rd_T65 l1 AC).f0)) ∧ w'.cell? ⟨AD, 1, none⟩ = some (.int .i8 ((rd_T65 l1 AC).f1))) (ds := []) (bA 26 0) (by kernel_rfl) rfl rfl ⟨(blk_cell AA.out 0).trans rfl, (blk_cell AA.out 1).trans rfl, (blk_cell AB.out 0).trans rfl, (blk_cell AB.out 1).trans rfl⟩ (fun hHeld => ?_); refine with_tabW impl_ValidHolds.tab4 impl_ValidHolds.bits4 (fun HT_ HW_ => ?_)
 generalize C1.drew = DI at AA AB HB hHeld ⊢
 refine tK 0 14 (bA 26 1) HT_ HW_ hHeld ?_
 refine tK 1 15 (bA 26 3) HT_ HW_ hHeld ?_
 refine one_ (i := 2) (N := some 16) (bA 26 7) rfl rfl (one_of HT_.out (by kernel_rfl)) (by decide) (fun K hK => ?_)
 refine goes_ Try.func95 (by kernel_rfl) rfl #[.agg #[.int .i16 AR, .slice AU AN.length AT], .agg #[.int .i16 ((rd_T65 l1 AC).f0), .int .i8 ((rd_T65 l1 AC).f1)]] (by rfl) rfl rfl gl_ ?_
 with_reducible refine (impl_Rope_isHold.calls AR _ _ AN ((rd_T65 l1 AC).f0) ((rd_T65 l1 AC).f1) true _ ?side1 ?side2 A7.out).mono ?_
 (case side1 => exact sQ (Kd.C_below Ab.out HB.out))
 (case side2 => exact Ac.out)
 rintro e DK ⟨rfl, hb⟩
 refine ⟨_, rfl, ?_⟩
 replace AA := kK AA hb
 replace AB := kK AB hb
 replace HB := kB2 HB AF AO hb
 have CQ : (AC : Int) ≤ ((l1.length : Int) : Int) := of_decide_eq_true (by assumption)
 obtain ⟨C2, A9, _, Bf, _⟩ := info_parts info65
 have Ar : l1.length ≤ c1 := Bl.out
 have Bg : Kd.C k65 _ (some AK) l1.length l1 := Aw.out
 have BI := cut_to (P := Try.prog) 51 65 .i64 Try.underlying51 A9 (some AK) l1.length c1 AC (of_decide_eq_true (by assumption)) CQ Ar
 have BN := Kd.C_take (m := (AC : Int).toNat) Bg (by omega)
 have BF : Ah.length = (AC : Int).toNat := (by rw [At.out, List.length_take]; omega)
 rw [← At.out] at BN
 rw [← BF] at BI
 have Az := ak BN
 have Ay := ak (show Ah.length ≤ c1 from by omega)
 clear BN Bg Ar A9 Bf
 have C3 := ak BF
 clear BF
 replace CQ := eq_true CQ
 refine hK.out _ _ ⟨(blk_cell AA.out 0).trans rfl, (blk_cell AA.out 1).trans rfl, (blk_cell AB.out 0).trans rfl, (blk_cell AB.out 1).trans rfl⟩ (fun hHeld => ?_)
 clear hK K
 refine norm_ (a' := ?_) ?_ ?_
 rotate_left
 {
 show Act.put _ (some 16) _ = _
 simp only [Act.put, zs, zz, zk, i64_w, i32_w]
 rfl
 }
 refine pU 3 17 (bA 26 15) HT_ ?_
 refine pU 4 18 (bA 26 31) HT_ ?_
 refine pU 5 19 (bA 26 63) HT_ ?_
 refine pU 6 20 (bA 26 127) HT_ ?_
 refine pU 7 21 (bA 26 255) HT_ ?_
 refine pN 8 22 (bA 26 511) HT_ ?_
 refine pN 9 23 (bA 26 1023) HT_ ?_
 refine pN 10 24 (bA 26 2047) HT_ ?_
 refine pN 11 25 (bA 26 4095) HT_ ?_
 refine pN 12 26 (bA 26 8191) HT_ ?_
 refine pN 13 27 (bA 26 16383) HT_ ?_
 refine pN 14 28 (bA 26 32767) HT_ ?_
 refine pN 15 29 (bA 26 65535) HT_ ?_
 refine pN 16 30 (bA 26 131071) HT_ ?_
 refine pU 17 31 (bA 26 262143) HT_ ?_
 refine pU 18 32 (bA 26 524287) HT_ ?_
 refine pU 19 33 (bA 26 1048575) HT_ ?_
 refine pU 20 34 (bA 26 2097151) HT_ ?_
 refine pU 21 35 (bA 26 4194303) HT_ ?_
 refine pU 22 36 (bA 26 8388607) HT_ ?_
 refine pU 23 37 (bA 26 16777215) HT_ ?_
 refine one_ (i := 24) (N := some 38) (bA 26 33554431) rfl rfl (one_of HT_.out (by kernel_rfl)) (by decide) (fun K hK => ?_)
 refine goes_ Try.func96 (by kernel_rfl) rfl #[.slice (some AK) Ah.length c1, .func (.func 97) #[] #[.pointer (some ⟨AD, 0, none⟩)]] (by rfl) rfl rfl gl_ ?_
 with_reducible refine (slices_ContainsFunc_Hold_at_ValidHolds_1.calls k1 _ _ Ah AD ((rd_T65 l1 AC).f0) ((rd_T65 l1 AC).f1) false _ ?side1 ?side2 ?side3 Ck.out).mono ?_
 (case side1 => exact sQ (Kd.C_below Az.out HB.out))
 (case side2 => exact Ay.out)
 (case side3 => exact (zK AB.out))
 rintro e DS ⟨rfl, hb⟩
 refine ⟨_, rfl, ?_⟩
 replace AA := kK AA hb
 replace AB := kK AB hb
 replace HB := kB2 HB AF AO hb
 refine hK.out _ _ ⟨(blk_cell AA.out 0).trans rfl, (blk_cell AA.out 1).trans rfl, (blk_cell AB.out 0).trans rfl, (blk_cell AB.out 1).trans rfl⟩ (fun hHeld => ?_)
 clear hK K
 refine norm_ (a' := ?_) ?_ ?_
 rotate_left
 {
 show Act.put _ (some 38) _ = _
 simp only [Act.put, zs, zz, zk, i64_w, i32_w]
 rfl
 }
 refine pU 25 39 (bA 26 67108863) HT_ ?_
 refine done_ (done_of HT_.out (by kernel_rfl)) ?_
 try go_wp2
 go_roundg k1
 case measure => have := B0.out; omega
 case rel => exact ⟨(wrap64 (AC + 1)), rfl, H', ⟨by have := B0.out; omega⟩, ⟨(zK AA.out)⟩, ⟨zH2 HB AF AO⟩⟩
 }
 }
 · rw [if_neg Bc] at H; exact absurd H (by simp)
 }
 }
 {
 replace c8 := Bool.eq_false_iff.mpr c8
 subst c8
 rw [if_neg (show ¬ (false = true) by decide)] at H
 obtain rfl := Option.some.inj H
 have AV : 0 ≤ (AC : Int) := of_decide_eq_true (by assumption)
 have AW : AC < (l1.length : Int) := of_decide_eq_true (by assumption)
 obtain ⟨AK, Ae, AH, AG⟩ := at_T65 Aw.out AC AV AW
 cases Ae
 replace AH := (HB.out.cell (World.block_lt_of_cell? w _ AH)).trans AH
 replace AG := (HB.out.cell (World.block_lt_of_cell? w _ AG)).trans AG
 replace AV := eq_true AV
 replace AW := eq_true AW
 try go_wp2_with (first | ((with_reducible refine gate_dst (N := 6) rfl ?_); refine box_event ?hg (N := 6) ?hd (cs := #[.int .i16 0, .int .i8 0]) (t := 65) ?hr ?_; (case hd => rfl); (case hg => rfl); (case hr => first | (go_simp; done) | (go_simp; rfl)); intro AD hg BR hbox hb; have AZ := ak (blk_below (g := AQ) (o := .cells #[.int .i16 AR, .slice AU AN.length AT] 32 (0, 0)) (zK AA.out) hb); have AX := ak (below_step (zBG HB.out AF.out) hb); have AY := ak (hbox); have Ak := gS1 HB AF hg; have Ap := gS1 HB AF hg; have Ai := nL AA hg; have Ao := nG AA hg; clear AA HB; have AA := AZ; have HB := AX; have AB := AY; have Al := Ak; have AO := Ap; have AE := Ai; have AP := Ao; clear AZ AX AY Ak Ap Ai Ao; clear hb hbox hg; have Ce := AP.out; have Cc := AE.out; have CK : BR.cell? ⟨AD, 0, none⟩ = some (.int .i16 0) := (blk_cell AB.out 0).trans rfl; have CC : BR.cell? ⟨AD, 1, none⟩ = some (.int .i8 0) := (blk_cell AB.out 1).trans rfl; have Bq := blk_frozen AB.out 0; have CA := blk_frozen AB.out 1))
 have AZ : Aside0 (((BR.setCell ⟨AD, 0, none⟩ (.int .i16 ((rd_T65 l1 AC).f0))).setCell ⟨AD, 1, none⟩ (.int .i8 ((rd_T65 l1 AC).f1))).heap[AQ]? = some (.cells #[.int .i16 AR, .slice AU AN.length AT] 32 (0, 0))) := ⟨by refine blk_far ?_ AE.out _; refine blk_far ?_ AE.out _; exact AA.out⟩
 have AX : Aside0 (((BR.setCell ⟨AD, 0, none⟩ (.int .i16 ((rd_T65 l1 AC).f0))).setCell ⟨AD, 1, none⟩ (.int .i8 ((rd_T65 l1 AC).f1))).heap[AD]? = some (.cells #[.int .i16 ((rd_T65 l1 AC).f0), .int .i8 ((rd_T65 l1 AC).f1)] 65 (0, 0))) := ⟨by refine blk_put (cs := #[.int .i16 ((rd_T65 l1 AC).f0), .int .i8 0]) ?_ 1 _ rfl; refine blk_put (cs := #[.int .i16 0, .int .i8 0]) ?_ 0 _ rfl; exact AB.out⟩
 have AY : Aside0 (Below w.heap.size w ((BR.setCell ⟨AD, 0, none⟩ (.int .i16 ((rd_T65 l1 AC).f0))).setCell ⟨AD, 1, none⟩ (.int .i8 ((rd_T65 l1 AC).f1)))) := ⟨zH2 HB AF AO⟩
 generalize ((BR.setCell ⟨AD, 0, none⟩ (.int .i16 ((rd_T65 l1 AC).f0))).setCell ⟨AD, 1, none⟩ (.int .i8 ((rd_T65 l1 AC).f1))) = DF at AZ AX AY ⊢
 have AA := AZ
 have AB := AX
 have HB := AY
 clear AZ AX AY
 replace AA := ak (blk_drew AA.out)
 replace AB := ak (blk_drew AB.out)
 replace HB := ak (below_drew1 HB.out)
 refine start_ (n := 26) (S := fun w' => w'.cell? ⟨AQ, 0, none⟩ = some (.int .i16 AR) ∧ w'.cell? ⟨AQ, 1, none⟩ = some (.slice AU AN.length AT) ∧ w'.cell? ⟨AD, 0, none⟩ = some (.int .i16 ((rd_T65 l1 AC).f0)) ∧ w'.cell? ⟨AD, 1, none⟩ = some (.int .i8 ((rd_T65 l1 AC).f1))) (ds := []) (bA 26 0) (by kernel_rfl) rfl rfl ⟨(blk_cell AA.out 0).trans rfl, (blk_cell AA.out 1).trans rfl, (blk_cell AB.out 0).trans rfl, (blk_cell AB.out 1).trans rfl⟩ (fun hHeld => ?_); refine with_tabW impl_ValidHolds.tab4 impl_ValidHolds.bits4 (fun HT_ HW_ => ?_)
 generalize DF.drew = DN at AA AB HB hHeld ⊢
 refine tK 0 14 (bA 26 1) HT_ HW_ hHeld ?_
 refine tK 1 15 (bA 26 3) HT_ HW_ hHeld ?_
 refine one_ (i := 2) (N := some 16) (bA 26 7) rfl rfl (one_of HT_.out (by kernel_rfl)) (by decide) (fun K hK => ?_)
 refine goes_ Try.func95 (by kernel_rfl) rfl #[.agg #[.int .i16 AR, .slice AU AN.length AT], .agg #[.int .i16 ((rd_T65 l1 AC).f0), .int .i8 ((rd_T65 l1 AC).f1)]] (by rfl) rfl rfl gl_ ?_
 with_reducible refine (impl_Rope_isHold.calls AR _ _ AN ((rd_T65 l1 AC).f0) ((rd_T65 l1 AC).f1) false _ ?side1 ?side2 A7.out).mono ?_
 (case side1 => exact sQ (Kd.C_below Ab.out HB.out))
 (case side2 => exact Ac.out)
 rintro e DP ⟨rfl, hb⟩
 refine ⟨_, rfl, ?_⟩
 replace AA := kK AA hb
 replace AB := kK AB hb
 replace HB := kB2 HB AF AO hb
 refine hK.out _ _ ⟨(blk_cell AA.out 0).trans rfl, (blk_cell AA.out 1).trans rfl, (blk_cell AB.out 0).trans rfl, (blk_cell AB.out 1).trans rfl⟩ (fun hHeld => ?_)
 clear hK K
 refine norm_ (a' := ?_) ?_ ?_
 rotate_left
 {
 show Act.put _ (some 16) _ = _
 simp only [Act.put, zs, zz, zk, i64_w, i32_w]
 rfl
 }
 refine pU 3 17 (bA 26 15) HT_ ?_
 refine pU 4 18 (bA 26 31) HT_ ?_
 refine pN 5 19 (bA 26 63) HT_ ?_
 refine pN 6 20 (bA 26 127) HT_ ?_
 refine pN 7 21 (bA 26 255) HT_ ?_
 refine pN 8 22 (bA 26 511) HT_ ?_
 refine pN 9 23 (bA 26 1023) HT_ ?_
 refine pN 10 24 (bA 26 2047) HT_ ?_
 refine pN 11 25 (bA 26 4095) HT_ ?_
 refine pN 12 26 (bA 26 8191) HT_ ?_
 refine pN 13 27 (bA 26 16383) HT_ ?_
 refine pN 14 28 (bA 26 32767) HT_ ?_
 refine pN 15 29 (bA 26 65535) HT_ ?_
 refine pN 16 30 (bA 26 131071) HT_ ?_
 refine pN 17 31 (bA 26 262143) HT_ ?_
 refine pU 18 32 (bA 26 524287) HT_ ?_
 refine pU 19 33 (bA 26 1048575) HT_ ?_
 refine pN 20 34 (bA 26 2097151) HT_ ?_
 refine pN 21 35 (bA 26 4194303) HT_ ?_
 refine pN 22 36 (bA 26 8388607) HT_ ?_
 refine pN 23 37 (bA 26 16777215) HT_ ?_
 refine pN 24 38 (bA 26 33554431) HT_ ?_
 refine pU 25 39 (bA 26 67108863) HT_ ?_
 refine done_ (done_of HT_.out (by kernel_rfl)) ?_
 try go_wp2
 go_ret
 exact ⟨rfl, zH2 HB AF AO⟩
 }
 }
 · rw [if_neg c6] at H; exact absurd H (by simp)
 }
 · rw [if_neg c5] at H; exact absurd H (by simp)
 }
 {
 rw [if_neg c4] at H
 have CT : decide (AC < (l1.length : Int)) = false := decide_eq_false c4
 clear c4
 replace H := Option.bind_eq_some_iff.mp H
 obtain ⟨CO, Bd, H⟩ := H
 have C8 := ak Bd
 clear Bd
 obtain rfl := Option.some.inj H
 have Bo : wr.cell? ⟨AQ, 0, none⟩ = some (.int .i16 AR) := (blk_cell AA.out 0).trans rfl
 have Bk : wr.cell? ⟨AQ, 1, none⟩ = some (.slice AU AN.length AT) := (blk_cell AA.out 1).trans rfl
 have Bs := blk_frozen AA.out 0
 have B9 := blk_frozen AA.out 1
 go_wp2_with (first | ((with_reducible refine gate_callee (f := 30) rfl ?_); refine goesL_ (some 42) rfl rfl Try.func30 (by kernel_rfl) rfl #[.agg #[.int .i16 AR, .slice AU AN.length AT]] rfl gl_ ?_; (with_reducible refine (impl_ValidRope.calls k1 AR _ _ AN CO _ ?side1 ?side2 C8.out).mono ?_); (case side1 => exact sQ (Kd.C_below Ab.out HB.out)); (case side2 => exact Ac.out); rintro e DM ⟨rfl, hb⟩; refine ⟨_, rfl, ?_⟩; replace AA := kK AA hb; replace HB := kB1 HB AF hb; (try clear hb)))
 go_ret
 exact ⟨rfl, zBG HB.out AF.out⟩
 }
 )
 )
end Go.Proofs.Ytooidjdgfoioiaa.P
