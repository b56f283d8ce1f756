-- Printed by wip/print (my turned copy of the kit's print) out of the translation; Lean checks it.
import Derived.Test.YtlggjfhoecaelaaGreatDoorP0
import Derived.Test.YtlggjfhoecaelaaGreatDoorP3
import Derived.Test.YtlggjfhoecaelaaGreatDoorP7
namespace Go.Proofs.YtlggjfhoecaelaaGreatDoor.P
open Go.RowKit Go.Proofs.YtlggjfhoecaelaaGreatDoorW.PrintWords Go.Proofs.YtlggjfhoecaelaaGreatDoorW.PrintLast Go.Proofs.YtlggjfhoecaelaaGreatDoorW.PrintMore
attribute [local go_sem] max2_int min2_int max_two min_two max_three min_three max_four min_four   -- for this text's walks alone
set_option linter.unusedVariables false
set_option linter.unusedSimpArgs false

/-! ### impl_ValidHolds: function 15 -/
def impl_ValidHolds.l0 : Nat → List (S52) → List (S52) → Int → Int → Int → List Int → Option (Bool)
  | 0, _, _, _, _, _, _ => none
  | k + 1, x1, x7, x8, x9, AA, AB => if x9 < x8 then (if 0 ≤ x9 then (if x9 < (x7.length : Int) then ((impl_Rope_isHold.f AA AB ((rd_T52 x7 x9).f0) ((rd_T52 x7 x9).f1)).bind fun AC => (if AC = true then (if x9 > 0 then (if 0 ≤ (wrap64 (x9 - 1)) then (if (wrap64 (x9 - 1)) < (x1.length : Int) then (if ((rd_T52 x7 x9).f1) ≤ ((rd_T52 x1 (wrap64 (x9 - 1))).f1) then (some false) else (if x9 ≤ (x1.length : Int) then ((slices_ContainsFunc_Hold_at_ValidHolds_1.f k (x1.take (x9 : Int).toNat) ((rd_T52 x7 x9).f0) ((rd_T52 x7 x9).f1)).bind fun AD => (if AD = true then (some false) else (impl_ValidHolds.l0 k x1 x7 x8 (wrap64 (x9 + 1)) AA AB))) else (none))) else (none)) else (none)) else (if x9 ≤ (x1.length : Int) then ((slices_ContainsFunc_Hold_at_ValidHolds_1.f k (x1.take (x9 : Int).toNat) ((rd_T52 x7 x9).f0) ((rd_T52 x7 x9).f1)).bind fun AF => (if AF = true then (some false) else (impl_ValidHolds.l0 k x1 x7 x8 (wrap64 (x9 + 1)) AA AB))) else (none))) else (some false))) else (none)) else (none)) else ((impl_ValidRope.f k AA AB).bind fun AE => (some AE))
def impl_ValidHolds.f (k : Nat) (AA : Int) (AB : List Int) (l1 : List (S52)) : Option (Bool) := impl_ValidHolds.l0 k l1 l1 (l1.length : Int) 0 AA AB
def impl_ValidHolds.T4 : Bool × List (List Nat × List Nat) := (true, [([], []), ([], []), ([0, 1], [0, 1]), ([2], [2]), ([3, 2], [3]), ([4], [4]), ([5, 4], [4, 5]), ([6, 4, 4], [4, 6]), ([7], [7]), ([8, 7], [7, 8]), ([7], [7]), ([7], [7]), ([11, 7], [7, 11]), ([10, 12, 7], [7, 10, 12]), ([13, 7], [7, 13]), ([14, 7], [7, 14]), ([9, 15, 7], [7, 9, 15]), ([7, 16, 4], [4, 7, 16]), ([4, 17], [4, 17]), ([18, 7], [18]), ([19], [19]), ([19], [19]), ([20, 21, 19], [19, 20, 21]), ([19], [19]), ([22, 23, 19, 19], [19, 22, 23]), ([19, 24], [19, 24])])
def impl_ValidHolds.B4 : List Nat := [0, 0, 3, 7, 15, 31, 63, 127, 255, 511, 255, 255, 2303, 7423, 15615, 31999, 65535, 131071, 262143, 524287, 1048575, 1048575, 4194303, 1048575, 16777215, 33554431]
theorem impl_ValidHolds.tab4 : rtab .any (opsOf Tryz.f15 4) = impl_ValidHolds.T4 := by kernel_rfl
theorem impl_ValidHolds.bits4 : waitsOk impl_ValidHolds.T4.2 impl_ValidHolds.B4 = true := by kernel_rfl
set_option maxHeartbeats 8000000 in
set_option maxRecDepth 100000 in
theorem impl_ValidHolds.calls (k : Nat) (AR : Int) (AU : Option Addr) (AT : Nat) (AN : List Int) (A1 : Option Addr) (c1 : Nat) (l1 : List (S52)) (r : Bool) (w : World) (A5 : Kd.C (Kd.int .i16) w AU AN.length AN) (A9 : AN.length ≤ AT) (Cm : Kd.C k52 w A1 l1.length l1) (Cn : l1.length ≤ c1) (h : impl_ValidHolds.f k AR AN l1 = some r) :
    Calls Tryz.prog 15 #[.agg #[.int .i16 AR, .slice AU AN.length AT], .slice A1 l1.length c1] w fun e w' => e = .returned (.bool r) ∧ Below w.heap.size w w' := by
 have C0 := Tryz.underlying27
 have C2 := Tryz.underlying52
 have Ab := ak A5
 have Ae := ak A9
 clear A5 A9
 have Aw := ak Cm
 have CG := ak Cn
 clear Cm Cn
 have HB := ak (Below.refl w.heap.size w)
 have H := h
 unfold impl_ValidHolds.f at H
 clear h
 have H' := ak H
 clear H
 go_enter Tryz.func15, Tryz.ntmps15
 go_wp2_with (first | ((with_reducible refine gate_dst (N := 2) rfl ?_); refine box_event ?hg (N := 2) ?hd (cs := #[.int .i16 AR, .slice AU AN.length AT]) (t := 27) ?hr ?_; (case hd => rfl); (case hg => rfl); (case hr => first | (go_simp; done) | (go_simp; rfl)); intro AP hg w3 hbox hb; have AA := ak (hbox); have Ca := gS HB hg; have AF := gS HB hg; replace HB := kB HB hb; clear hb hbox hg))
 go_loopg [9] k (fun kq v9 w' => ∃ (AC : Int), v9 = .int .i64 AC ∧ Aside0 (impl_ValidHolds.l0 kq l1 l1 (l1.length : Int) AC AR AN = some r) ∧ Aside0 (kq ≤ k) ∧ Aside0 (w'.heap[AP]? = some (.cells #[.int .i16 AR, (.slice AU AN.length AT)] 27 (0, 0))) ∧ Aside0 (Below w.heap.size w w'))
 case atStart => exact ⟨(0), rfl, H', ⟨Nat.le_refl _⟩, ⟨(zK AA.out)⟩, ⟨zBG HB.out AF.out⟩⟩
 case round => (
 clear H'
 obtain ⟨AC, rfl, HA, B1, AA, HB⟩ := hrel
 cases gk with
 | zero => exact absurd HA.out (by simp [impl_ValidHolds.l0])
 | succ k1 => (
 have H := HA.out
 clear HA
 simp only [impl_ValidHolds.l0] at H
 by_cases c4 : AC < (l1.length : Int)
 {
 rw [if_pos c4] at H
 have CN : decide (AC < (l1.length : Int)) = true := decide_eq_true c4
 clear c4
 by_cases c5 : 0 ≤ AC
 {
 rw [if_pos c5] at H
 have C7 : decide (0 ≤ AC) = true := decide_eq_true c5
 clear c5
 by_cases c6 : AC < (l1.length : Int)
 {
 rw [if_pos c6] at H
 have Cz : decide (AC < (l1.length : Int)) = true := decide_eq_true c6
 clear c6
 replace H := Option.bind_eq_some_iff.mp H
 obtain ⟨CO, Ci, H⟩ := H
 have A7 := ak Ci
 clear Ci
 by_cases c8 : CO = true
 {
 subst c8
 rw [if_pos rfl] at H
 by_cases c9 : AC > 0
 {
 rw [if_pos c9] at H
 have CP : decide (0 < AC) = true := decide_eq_true c9
 clear c9
 obtain ⟨AS, Af⟩ : ∃ j_ : Int, (wrap64 (AC - 1)) = j_ := ⟨_, rfl⟩
 first | rw [Af] at H | simp only [Af] at H
 (try rw [Af] at A7)
 have CT : (IntKind.i64.wrap (AC - 1)) = AS := (i64_w _).trans Af
 by_cases Bn : 0 ≤ (AS)
 {
 rw [if_pos Bn] at H
 have CX : decide (0 ≤ (AS)) = true := decide_eq_true Bn
 clear Bn
 by_cases Bk : (AS) < (l1.length : Int)
 {
 rw [if_pos Bk] at H
 have Cq : decide ((AS) < (l1.length : Int)) = true := decide_eq_true Bk
 clear Bk
 by_cases BV : ((rd_T52 l1 AC).f1) ≤ ((rd_T52 l1 (AS)).f1)
 {
 rw [if_pos BV] at H
 have Be : decide (((rd_T52 l1 AC).f1) ≤ ((rd_T52 l1 (AS)).f1)) = true := decide_eq_true BV
 clear BV
 obtain rfl := Option.some.inj H
 have AW : 0 ≤ (AC : Int) := of_decide_eq_true (by assumption)
 have AV : AC < (l1.length : Int) := of_decide_eq_true (by assumption)
 obtain ⟨AL, Aa, AG, AH⟩ := at_T52 Aw.out AC AW AV
 cases Aa
 replace AG := (HB.out.cell (World.block_lt_of_cell? w _ AG)).trans AG
 replace AH := (HB.out.cell (World.block_lt_of_cell? w _ AH)).trans AH
 replace AW := eq_true AW
 replace AV := eq_true AV
 try go_wp2_with (first | ((with_reducible refine gate_dst (N := 6) rfl ?_); refine box_event ?hg (N := 6) ?hd (cs := #[.int .i16 0, .int .i8 0]) (t := 52) ?hr ?_; (case hd => rfl); (case hg => rfl); (case hr => first | (go_simp; done) | (go_simp; rfl)); intro AD hg BT hbox hb; have AX := ak (blk_below (g := AP) (o := .cells #[.int .i16 AR, .slice AU AN.length AT] 27 (0, 0)) (zK AA.out) hb); have AY := ak (below_step (zBG HB.out AF.out) hb); have AZ := ak (hbox); have Am := gS1 HB AF hg; have Ai := gS1 HB AF hg; have An := nL AA hg; have Aj := nG AA hg; clear AA HB; have AA := AX; have HB := AY; have AB := AZ; have Ap := Am; have AQ := Ai; have AE := An; have AO := Aj; clear AX AY AZ Am Ai An Aj; clear hb hbox hg; have Ct := AO.out; have Cd := AE.out; have CA : BT.cell? ⟨AD, 0, none⟩ = some (.int .i16 0) := (blk_cell AB.out 0).trans rfl; have CE : BT.cell? ⟨AD, 1, none⟩ = some (.int .i8 0) := (blk_cell AB.out 1).trans rfl; have B0 := blk_frozen AB.out 0; have B3 := blk_frozen AB.out 1))
 have AX : Aside0 (((BT.setCell ⟨AD, 0, none⟩ (.int .i16 ((rd_T52 l1 AC).f0))).setCell ⟨AD, 1, none⟩ (.int .i8 ((rd_T52 l1 AC).f1))).heap[AP]? = some (.cells #[.int .i16 AR, .slice AU AN.length AT] 27 (0, 0))) := ⟨by refine blk_far ?_ AE.out _; refine blk_far ?_ AE.out _; exact AA.out⟩
 have AY : Aside0 (((BT.setCell ⟨AD, 0, none⟩ (.int .i16 ((rd_T52 l1 AC).f0))).setCell ⟨AD, 1, none⟩ (.int .i8 ((rd_T52 l1 AC).f1))).heap[AD]? = some (.cells #[.int .i16 ((rd_T52 l1 AC).f0), .int .i8 ((rd_T52 l1 AC).f1)] 52 (0, 0))) := ⟨by refine blk_put (cs := #[.int .i16 ((rd_T52 l1 AC).f0), .int .i8 0]) ?_ 1 _ rfl; refine blk_put (cs := #[.int .i16 0, .int .i8 0]) ?_ 0 _ rfl; exact AB.out⟩
 have AZ : Aside0 (Below w.heap.size w ((BT.setCell ⟨AD, 0, none⟩ (.int .i16 ((rd_T52 l1 AC).f0))).setCell ⟨AD, 1, none⟩ (.int .i8 ((rd_T52 l1 AC).f1)))) := ⟨zH2 HB AF AQ⟩
 generalize ((BT.setCell ⟨AD, 0, none⟩ (.int .i16 ((rd_T52 l1 AC).f0))).setCell ⟨AD, 1, none⟩ (.int .i8 ((rd_T52 l1 AC).f1))) = C4 at AX AY AZ ⊢
 have AA := AX
 have AB := AY
 have HB := AZ
 clear AX AY AZ
 replace AA := ak (blk_drew AA.out)
 replace AB := ak (blk_drew AB.out)
 replace HB := ak (below_drew1 HB.out)
 have Ad : 0 ≤ ((AS) : Int) := of_decide_eq_true (by assumption)
 have Ac : (AS) < (l1.length : Int) := of_decide_eq_true (by assumption)
 obtain ⟨Al, A2, AK, AM⟩ := at_T52 Aw.out (AS) Ad Ac
 have AJ := AM
 have AI := AK
 obtain rfl : AL = Al := (by injection A2)
 replace AK := (HB.out.cell (World.block_lt_of_cell? w _ AK)).trans AK
 replace AM := (HB.out.cell (World.block_lt_of_cell? w _ AM)).trans AM
 replace Ad := eq_true Ad
 replace Ac := eq_true Ac
 refine start_ (n := 26) (S := fun w' => w'.cell? ⟨AP, 0, none⟩ = some (.int .i16 AR) ∧ w'.cell? ⟨AP, 1, none⟩ = some (.slice AU AN.length AT) ∧ w'.cell? ⟨AD, 0, none⟩ = some (.int .i16 ((rd_T52 l1 AC).f0)) ∧ w'.cell? ⟨AD, 1, none⟩ = some (.int .i8 ((rd_T52 l1 AC).f1)) ∧ w'.cell? (AL.add (((AS)).toNat * 2)) = some (.int .i16 ((rd_T52 l1 (AS)).f0)) ∧ w'.cell? ⟨(AL.add (((AS)).toNat * 2)).block, (AL.add (((AS)).toNat * 2)).off + 1, none⟩ = some (.int .i8 ((rd_T52 l1 (AS)).f1))) (ds := []) (bA 26 0) (by kernel_rfl) rfl rfl ⟨(blk_cell AA.out 0).trans rfl, (blk_cell AA.out 1).trans rfl, (blk_cell AB.out 0).trans rfl, (blk_cell AB.out 1).trans rfl, ((HB.out.cell (World.block_lt_of_cell? w _ AI)).trans AI), ((HB.out.cell (World.block_lt_of_cell? w _ AJ)).trans AJ)⟩ (fun hHeld => ?_); refine with_tabW impl_ValidHolds.tab4 impl_ValidHolds.bits4 (fun HT_ HW_ => ?_)
 generalize C4.drew = DK at AA AB HB AK AM hHeld ⊢
 refine tK 0 14 (bA 26 1) HT_ HW_ hHeld ?_
 refine tK 1 15 (bA 26 3) HT_ HW_ hHeld ?_
 refine one_ (i := 2) (N := some 16) (bA 26 7) rfl rfl (one_of HT_.out (by kernel_rfl)) (by decide) (fun K hK => ?_)
 refine goes_ Tryz.func44 (by kernel_rfl) rfl #[.agg #[.int .i16 AR, .slice AU AN.length AT], .agg #[.int .i16 ((rd_T52 l1 AC).f0), .int .i8 ((rd_T52 l1 AC).f1)]] (by rfl) rfl rfl gl_ ?_
 with_reducible refine (impl_Rope_isHold.calls AR _ _ AN ((rd_T52 l1 AC).f0) ((rd_T52 l1 AC).f1) true _ ?side1 ?side2 A7.out).mono ?_
 (case side1 => exact sQ (Kd.C_below Ab.out HB.out))
 (case side2 => exact Ae.out)
 rintro e DR ⟨rfl, hb⟩
 refine ⟨_, rfl, ?_⟩
 replace AA := kK AA hb
 replace AB := kK AB hb
 replace HB := kB2 HB AF AQ hb
 refine hK.out _ _ ⟨(blk_cell AA.out 0).trans rfl, (blk_cell AA.out 1).trans rfl, (blk_cell AB.out 0).trans rfl, (blk_cell AB.out 1).trans rfl, ((HB.out.cell (World.block_lt_of_cell? w _ AI)).trans AI), ((HB.out.cell (World.block_lt_of_cell? w _ AJ)).trans AJ)⟩ (fun hHeld => ?_)
 clear hK K
 refine norm_ (a' := ?_) ?_ ?_
 rotate_left
 {
 show Act.put _ (some 16) _ = _
 simp only [Act.put, zs, zz, zk, i64_w, i32_w]
 rfl
 }
 refine pU 3 17 (bA 26 15) HT_ ?_
 refine pU 4 18 (bA 26 31) HT_ ?_
 refine pU 5 19 (bA 26 63) HT_ ?_
 refine pU 6 20 (bA 26 127) HT_ ?_
 refine pU 7 21 (bA 26 255) HT_ ?_
 refine pU 8 22 (bA 26 511) HT_ ?_
 refine pU 10 24 (bA 26 1535) HT_ ?_
 refine pU 11 25 (bA 26 3583) HT_ ?_
 refine pU 12 26 (bA 26 7679) HT_ ?_
 refine pU 13 27 (bA 26 15871) HT_ ?_
 refine pU 14 28 (bA 26 32255) HT_ ?_
 refine tK 9 23 (bA 26 32767) HT_ HW_ hHeld ?_
 refine tK 15 29 (bA 26 65535) HT_ HW_ hHeld ?_
 refine pU 16 30 (bA 26 131071) HT_ ?_
 refine pU 17 31 (bA 26 262143) HT_ ?_
 refine pU 18 32 (bA 26 524287) HT_ ?_
 refine pU 19 33 (bA 26 1048575) HT_ ?_
 refine pN 20 34 (bA 26 2097151) HT_ ?_
 refine pN 21 35 (bA 26 4194303) HT_ ?_
 refine pN 22 36 (bA 26 8388607) HT_ ?_
 refine pN 23 37 (bA 26 16777215) HT_ ?_
 refine pN 24 38 (bA 26 33554431) HT_ ?_
 refine pU 25 39 (bA 26 67108863) HT_ ?_
 refine done_ (done_of HT_.out (by kernel_rfl)) ?_
 try go_wp2
 go_ret
 exact ⟨by first | rfl | (simp [errW_none, errW_some] <;> rfl) | (simp only [← Af]; first | rfl | (simp [errW_none, errW_some] <;> rfl)) | (simp [*, errW_none, errW_some] <;> rfl), zH2 HB AF AQ⟩
 }
 {
 rw [if_neg BV] at H
 have Be : decide (((rd_T52 l1 AC).f1) ≤ ((rd_T52 l1 (AS)).f1)) = false := decide_eq_false BV
 clear BV
 have Cv := eq_true (of_decide_eq_true (by assumption) : 0 ≤ AC)
 by_cases Ba : AC ≤ (l1.length : Int)
 {
 rw [if_pos Ba] at H
 have CZ := eq_true Ba
 have Cr : decide (AC ≤ (l1.length : Int)) = true := decide_eq_true Ba
 clear Ba
 obtain ⟨Ag, Ak⟩ : ∃ y_ : List (S52), y_ = (l1.take (AC : Int).toNat) := ⟨_, rfl⟩
 replace H : ((slices_ContainsFunc_Hold_at_ValidHolds_1.f k1 Ag ((rd_T52 l1 AC).f0) ((rd_T52 l1 AC).f1)).bind fun BK => (if BK = true then (some false) else (impl_ValidHolds.l0 k1 l1 l1 (l1.length : Int) (wrap64 (AC + 1)) AR AN))) = some r := by first | (rw [Ak]; with_reducible exact H) | (have BC := (Option.bind_some _ _).symm.trans H; rw [Ak]; with_reducible exact BC) | (have BC := (Option.bind_some _ _).symm.trans H; with_reducible exact BC) | with_reducible exact H | (rw [Ak]; exact H) | exact H
 have At := ak Ak
 clear Ak
 replace H := Option.bind_eq_some_iff.mp H
 obtain ⟨BK, Bb, H⟩ := H
 have Ck := ak Bb
 clear Bb
 by_cases Bs : BK = true
 {
 subst Bs
 rw [if_pos rfl] at H
 obtain rfl := Option.some.inj H
 have AW : 0 ≤ (AC : Int) := of_decide_eq_true (by assumption)
 have AV : AC < (l1.length : Int) := of_decide_eq_true (by assumption)
 obtain ⟨AL, Aa, AG, AH⟩ := at_T52 Aw.out AC AW AV
 cases Aa
 replace AG := (HB.out.cell (World.block_lt_of_cell? w _ AG)).trans AG
 replace AH := (HB.out.cell (World.block_lt_of_cell? w _ AH)).trans AH
 replace AW := eq_true AW
 replace AV := eq_true AV
 try go_wp2_with (first | ((with_reducible refine gate_dst (N := 6) rfl ?_); refine box_event ?hg (N := 6) ?hd (cs := #[.int .i16 0, .int .i8 0]) (t := 52) ?hr ?_; (case hd => rfl); (case hg => rfl); (case hr => first | (go_simp; done) | (go_simp; rfl)); intro AD hg BQ hbox hb; have AX := ak (blk_below (g := AP) (o := .cells #[.int .i16 AR, .slice AU AN.length AT] 27 (0, 0)) (zK AA.out) hb); have AY := ak (below_step (zBG HB.out AF.out) hb); have AZ := ak (hbox); have Am := gS1 HB AF hg; have Ai := gS1 HB AF hg; have An := nL AA hg; have Aj := nG AA hg; clear AA HB; have AA := AX; have HB := AY; have AB := AZ; have Ap := Am; have AQ := Ai; have AE := An; have AO := Aj; clear AX AY AZ Am Ai An Aj; clear hb hbox hg; have Cl := AO.out; have Co := AE.out; have Bm : BQ.cell? ⟨AD, 0, none⟩ = some (.int .i16 0) := (blk_cell AB.out 0).trans rfl; have CM : BQ.cell? ⟨AD, 1, none⟩ = some (.int .i8 0) := (blk_cell AB.out 1).trans rfl; have By := blk_frozen AB.out 0; have CB := blk_frozen AB.out 1))
 have AX : Aside0 (((BQ.setCell ⟨AD, 0, none⟩ (.int .i16 ((rd_T52 l1 AC).f0))).setCell ⟨AD, 1, none⟩ (.int .i8 ((rd_T52 l1 AC).f1))).heap[AP]? = some (.cells #[.int .i16 AR, .slice AU AN.length AT] 27 (0, 0))) := ⟨by refine blk_far ?_ AE.out _; refine blk_far ?_ AE.out _; exact AA.out⟩
 have AY : Aside0 (((BQ.setCell ⟨AD, 0, none⟩ (.int .i16 ((rd_T52 l1 AC).f0))).setCell ⟨AD, 1, none⟩ (.int .i8 ((rd_T52 l1 AC).f1))).heap[AD]? = some (.cells #[.int .i16 ((rd_T52 l1 AC).f0), .int .i8 ((rd_T52 l1 AC).f1)] 52 (0, 0))) := ⟨by refine blk_put (cs := #[.int .i16 ((rd_T52 l1 AC).f0), .int .i8 0]) ?_ 1 _ rfl; refine blk_put (cs := #[.int .i16 0, .int .i8 0]) ?_ 0 _ rfl; exact AB.out⟩
 have AZ : Aside0 (Below w.heap.size w ((BQ.setCell ⟨AD, 0, none⟩ (.int .i16 ((rd_T52 l1 AC).f0))).setCell ⟨AD, 1, none⟩ (.int .i8 ((rd_T52 l1 AC).f1)))) := ⟨zH2 HB AF AQ⟩
 generalize ((BQ.setCell ⟨AD, 0, none⟩ (.int .i16 ((rd_T52 l1 AC).f0))).setCell ⟨AD, 1, none⟩ (.int .i8 ((rd_T52 l1 AC).f1))) = DA at AX AY AZ ⊢
 have AA := AX
 have AB := AY
 have HB := AZ
 clear AX AY AZ
 replace AA := ak (blk_drew AA.out)
 replace AB := ak (blk_drew AB.out)
 replace HB := ak (below_drew1 HB.out)
 have Ad : 0 ≤ ((AS) : Int) := of_decide_eq_true (by assumption)
 have Ac : (AS) < (l1.length : Int) := of_decide_eq_true (by assumption)
 obtain ⟨Al, A2, AK, AM⟩ := at_T52 Aw.out (AS) Ad Ac
 have AJ := AM
 have AI := AK
 obtain rfl : AL = Al := (by injection A2)
 replace AK := (HB.out.cell (World.block_lt_of_cell? w _ AK)).trans AK
 replace AM := (HB.out.cell (World.block_lt_of_cell? w _ AM)).trans AM
 replace Ad := eq_true Ad
 replace Ac := eq_true Ac
 refine start_ (n := 26) (S := fun w' => w'.cell? ⟨AP, 0, none⟩ = some (.int .i16 AR) ∧ w'.cell? ⟨AP, 1, none⟩ = some (.slice AU AN.length AT) ∧ w'.cell? ⟨AD, 0, none⟩ = some (.int .i16 ((rd_T52 l1 AC).f0)) ∧ w'.cell? ⟨AD, 1, none⟩ = some (.int .i8 ((rd_T52 l1 AC).f1)) ∧ w'.cell? (AL.add (((AS)).toNat * 2)) = some (.int .i16 ((rd_T52 l1 (AS)).f0)) ∧ w'.cell? ⟨(AL.add (((AS)).toNat * 2)).block, (AL.add (((AS)).toNat * 2)).off + 1, none⟩ = some (.int .i8 ((rd_T52 l1 (AS)).f1))) (ds := []) (bA 26 0) (by kernel_rfl) rfl rfl ⟨(blk_cell AA.out 0).trans rfl, (blk_cell AA.out 1).trans rfl, (blk_cell AB.out 0).trans rfl, (blk_cell AB.out 1).trans rfl, ((HB.out.cell (World.block_lt_of_cell? w _ AI)).trans AI), ((HB.out.cell (World.block_lt_of_cell? w _ AJ)).trans AJ)⟩ (fun hHeld => ?_); refine with_tabW impl_ValidHolds.tab4 impl_ValidHolds.bits4 (fun HT_ HW_ => ?_)
 generalize DA.drew = DG at AA AB HB AK AM hHeld ⊢
 refine tK 0 14 (bA 26 1) HT_ HW_ hHeld ?_
 refine tK 1 15 (bA 26 3) HT_ HW_ hHeld ?_
 refine one_ (i := 2) (N := some 16) (bA 26 7) rfl rfl (one_of HT_.out (by kernel_rfl)) (by decide) (fun K hK => ?_)
 refine goes_ Tryz.func44 (by kernel_rfl) rfl #[.agg #[.int .i16 AR, .slice AU AN.length AT], .agg #[.int .i16 ((rd_T52 l1 AC).f0), .int .i8 ((rd_T52 l1 AC).f1)]] (by rfl) rfl rfl gl_ ?_
 with_reducible refine (impl_Rope_isHold.calls AR _ _ AN ((rd_T52 l1 AC).f0) ((rd_T52 l1 AC).f1) true _ ?side1 ?side2 A7.out).mono ?_
 (case side1 => exact sQ (Kd.C_below Ab.out HB.out))
 (case side2 => exact Ae.out)
 rintro e DT ⟨rfl, hb⟩
 refine ⟨_, rfl, ?_⟩
 replace AA := kK AA hb
 replace AB := kK AB hb
 replace HB := kB2 HB AF AQ hb
 have CS : (AC : Int) ≤ ((l1.length : Int) : Int) := of_decide_eq_true (by assumption)
 obtain ⟨DD, A6, _, Bd, _⟩ := info_parts info52
 have Au : l1.length ≤ c1 := CG.out
 have Bi : Kd.C k52 _ (some AL) l1.length l1 := Aw.out
 have BM := cut_to (P := Tryz.prog) 29 52 .i64 Tryz.underlying29 A6 (some AL) l1.length c1 AC (of_decide_eq_true (by assumption)) CS Au
 have BL := Kd.C_take (m := (AC : Int).toNat) Bi (by omega)
 have BJ : Ag.length = (AC : Int).toNat := (by rw [At.out, List.length_take]; omega)
 rw [← At.out] at BL
 rw [← BJ] at BM
 have Ax := ak BL
 have Az := ak (show Ag.length ≤ c1 from by omega)
 clear BL Bi Au A6 Bd
 have DC := ak BJ
 clear BJ
 replace CS := eq_true CS
 refine hK.out _ _ ⟨(blk_cell AA.out 0).trans rfl, (blk_cell AA.out 1).trans rfl, (blk_cell AB.out 0).trans rfl, (blk_cell AB.out 1).trans rfl, ((HB.out.cell (World.block_lt_of_cell? w _ AI)).trans AI), ((HB.out.cell (World.block_lt_of_cell? w _ AJ)).trans AJ)⟩ (fun hHeld => ?_)
 clear hK K
 refine norm_ (a' := ?_) ?_ ?_
 rotate_left
 {
 show Act.put _ (some 16) _ = _
 simp only [Act.put, zs, zz, zk, i64_w, i32_w]
 rfl
 }
 refine pU 3 17 (bA 26 15) HT_ ?_
 refine pU 4 18 (bA 26 31) HT_ ?_
 refine pU 5 19 (bA 26 63) HT_ ?_
 refine pU 6 20 (bA 26 127) HT_ ?_
 refine pU 7 21 (bA 26 255) HT_ ?_
 refine pU 8 22 (bA 26 511) HT_ ?_
 refine pU 10 24 (bA 26 1535) HT_ ?_
 refine pU 11 25 (bA 26 3583) HT_ ?_
 refine pU 12 26 (bA 26 7679) HT_ ?_
 refine pU 13 27 (bA 26 15871) HT_ ?_
 refine pU 14 28 (bA 26 32255) HT_ ?_
 refine tK 9 23 (bA 26 32767) HT_ HW_ hHeld ?_
 refine tK 15 29 (bA 26 65535) HT_ HW_ hHeld ?_
 refine pU 16 30 (bA 26 131071) HT_ ?_
 refine pU 17 31 (bA 26 262143) HT_ ?_
 refine pU 18 32 (bA 26 524287) HT_ ?_
 refine pU 19 33 (bA 26 1048575) HT_ ?_
 refine pU 20 34 (bA 26 2097151) HT_ ?_
 refine pU 21 35 (bA 26 4194303) HT_ ?_
 refine pU 22 36 (bA 26 8388607) HT_ ?_
 refine pU 23 37 (bA 26 16777215) HT_ ?_
 refine one_ (i := 24) (N := some 38) (bA 26 33554431) rfl rfl (one_of HT_.out (by kernel_rfl)) (by decide) (fun K hK => ?_)
 refine goes_ Tryz.func45 (by kernel_rfl) rfl #[.slice (some AL) Ag.length c1, .func (.func 46) #[] #[.pointer (some ⟨AD, 0, none⟩)]] (by rfl) rfl rfl gl_ ?_
 with_reducible refine (slices_ContainsFunc_Hold_at_ValidHolds_1.calls k1 _ _ Ag AD ((rd_T52 l1 AC).f0) ((rd_T52 l1 AC).f1) true _ ?side1 ?side2 ?side3 Ck.out).mono ?_
 (case side1 => exact sQ (Kd.C_below Ax.out HB.out))
 (case side2 => exact Az.out)
 (case side3 => exact (zK AB.out))
 rintro e DQ ⟨rfl, hb⟩
 refine ⟨_, rfl, ?_⟩
 replace AA := kK AA hb
 replace AB := kK AB hb
 replace HB := kB2 HB AF AQ hb
 refine hK.out _ _ ⟨(blk_cell AA.out 0).trans rfl, (blk_cell AA.out 1).trans rfl, (blk_cell AB.out 0).trans rfl, (blk_cell AB.out 1).trans rfl, ((HB.out.cell (World.block_lt_of_cell? w _ AI)).trans AI), ((HB.out.cell (World.block_lt_of_cell? w _ AJ)).trans AJ)⟩ (fun hHeld => ?_)
 clear hK K
 refine norm_ (a' := ?_) ?_ ?_
 rotate_left
 {
 show Act.put _ (some 38) _ = _
 simp only [Act.put, zs, zz, zk, i64_w, i32_w]
 rfl
 }
 refine pU 25 39 (bA 26 67108863) HT_ ?_
 refine done_ (done_of HT_.out (by kernel_rfl)) ?_
 try go_wp2
 go_ret
 exact ⟨by first | rfl | (simp [errW_none, errW_some] <;> rfl) | (simp only [← Af]; first | rfl | (simp [errW_none, errW_some] <;> rfl)) | (simp [*, errW_none, errW_some] <;> rfl), zH2 HB AF AQ⟩
 }
 {
 replace Bs := Bool.eq_false_iff.mpr Bs
 subst Bs
 rw [if_neg (show ¬ (false = true) by decide)] at H
 have H' := ak H
 clear H
 have AW : 0 ≤ (AC : Int) := of_decide_eq_true (by assumption)
 have AV : AC < (l1.length : Int) := of_decide_eq_true (by assumption)
 obtain ⟨AL, Aa, AG, AH⟩ := at_T52 Aw.out AC AW AV
 cases Aa
 replace AG := (HB.out.cell (World.block_lt_of_cell? w _ AG)).trans AG
 replace AH := (HB.out.cell (World.block_lt_of_cell? w _ AH)).trans AH
 replace AW := eq_true AW
 replace AV := eq_true AV
 try go_wp2_with (first | ((with_reducible refine gate_dst (N := 6) rfl ?_); refine box_event ?hg (N := 6) ?hd (cs := #[.int .i16 0, .int .i8 0]) (t := 52) ?hr ?_; (case hd => rfl); (case hg => rfl); (case hr => first | (go_simp; done) | (go_simp; rfl)); intro AD hg BU hbox hb; have AX := ak (blk_below (g := AP) (o := .cells #[.int .i16 AR, .slice AU AN.length AT] 27 (0, 0)) (zK AA.out) hb); have AY := ak (below_step (zBG HB.out AF.out) hb); have AZ := ak (hbox); have Am := gS1 HB AF hg; have Ai := gS1 HB AF hg; have An := nL AA hg; have Aj := nG AA hg; clear AA HB; have AA := AX; have HB := AY; have AB := AZ; have Ap := Am; have AQ := Ai; have AE := An; have AO := Aj; clear AX AY AZ Am Ai An Aj; clear hb hbox hg; have CW := AO.out; have Cg := AE.out; have CF : BU.cell? ⟨AD, 0, none⟩ = some (.int .i16 0) := (blk_cell AB.out 0).trans rfl; have CJ : BU.cell? ⟨AD, 1, none⟩ = some (.int .i8 0) := (blk_cell AB.out 1).trans rfl; have CK := blk_frozen AB.out 0; have Br := blk_frozen AB.out 1))
 have AX : Aside0 (((BU.setCell ⟨AD, 0, none⟩ (.int .i16 ((rd_T52 l1 AC).f0))).setCell ⟨AD, 1, none⟩ (.int .i8 ((rd_T52 l1 AC).f1))).heap[AP]? = some (.cells #[.int .i16 AR, .slice AU AN.length AT] 27 (0, 0))) := ⟨by refine blk_far ?_ AE.out _; refine blk_far ?_ AE.out _; exact AA.out⟩
 have AY : Aside0 (((BU.setCell ⟨AD, 0, none⟩ (.int .i16 ((rd_T52 l1 AC).f0))).setCell ⟨AD, 1, none⟩ (.int .i8 ((rd_T52 l1 AC).f1))).heap[AD]? = some (.cells #[.int .i16 ((rd_T52 l1 AC).f0), .int .i8 ((rd_T52 l1 AC).f1)] 52 (0, 0))) := ⟨by refine blk_put (cs := #[.int .i16 ((rd_T52 l1 AC).f0), .int .i8 0]) ?_ 1 _ rfl; refine blk_put (cs := #[.int .i16 0, .int .i8 0]) ?_ 0 _ rfl; exact AB.out⟩
 have AZ : Aside0 (Below w.heap.size w ((BU.setCell ⟨AD, 0, none⟩ (.int .i16 ((rd_T52 l1 AC).f0))).setCell ⟨AD, 1, none⟩ (.int .i8 ((rd_T52 l1 AC).f1)))) := ⟨zH2 HB AF AQ⟩
 generalize ((BU.setCell ⟨AD, 0, none⟩ (.int .i16 ((rd_T52 l1 AC).f0))).setCell ⟨AD, 1, none⟩ (.int .i8 ((rd_T52 l1 AC).f1))) = DB at AX AY AZ ⊢
 have AA := AX
 have AB := AY
 have HB := AZ
 clear AX AY AZ
 replace AA := ak (blk_drew AA.out)
 replace AB := ak (blk_drew AB.out)
 replace HB := ak (below_drew1 HB.out)
 have Ad : 0 ≤ ((AS) : Int) := of_decide_eq_true (by assumption)
 have Ac : (AS) < (l1.length : Int) := of_decide_eq_true (by assumption)
 obtain ⟨Al, A2, AK, AM⟩ := at_T52 Aw.out (AS) Ad Ac
 have AJ := AM
 have AI := AK
 obtain rfl : AL = Al := (by injection A2)
 replace AK := (HB.out.cell (World.block_lt_of_cell? w _ AK)).trans AK
 replace AM := (HB.out.cell (World.block_lt_of_cell? w _ AM)).trans AM
 replace Ad := eq_true Ad
 replace Ac := eq_true Ac
 refine start_ (n := 26) (S := fun w' => w'.cell? ⟨AP, 0, none⟩ = some (.int .i16 AR) ∧ w'.cell? ⟨AP, 1, none⟩ = some (.slice AU AN.length AT) ∧ w'.cell? ⟨AD, 0, none⟩ = some (.int .i16 ((rd_T52 l1 AC).f0)) ∧ w'.cell? ⟨AD, 1, none⟩ = some (.int .i8 ((rd_T52 l1 AC).f1)) ∧ w'.cell? (AL.add (((AS)).toNat * 2)) = some (.int .i16 ((rd_T52 l1 (AS)).f0)) ∧ w'.cell? ⟨(AL.add (((AS)).toNat * 2)).block, (AL.add (((AS)).toNat * 2)).off + 1, none⟩ = some (.int .i8 ((rd_T52 l1 (AS)).f1))) (ds := []) (bA 26 0) (by kernel_rfl) rfl rfl ⟨(blk_cell AA.out 0).trans rfl, (blk_cell AA.out 1).trans rfl, (blk_cell AB.out 0).trans rfl, (blk_cell AB.out 1).trans rfl, ((HB.out.cell (World.block_lt_of_cell? w _ AI)).trans AI), ((HB.out.cell (World.block_lt_of_cell? w _ AJ)).trans AJ)⟩ (fun hHeld => ?_); refine with_tabW impl_ValidHolds.tab4 impl_ValidHolds.bits4 (fun HT_ HW_ => ?_)
 generalize DB.drew = DS at AA AB HB AK AM hHeld ⊢
 refine tK 0 14 (bA 26 1) HT_ HW_ hHeld ?_
 refine tK 1 15 (bA 26 3) HT_ HW_ hHeld ?_
 refine one_ (i := 2) (N := some 16) (bA 26 7) rfl rfl (one_of HT_.out (by kernel_rfl)) (by decide) (fun K hK => ?_)
 refine goes_ Tryz.func44 (by kernel_rfl) rfl #[.agg #[.int .i16 AR, .slice AU AN.length AT], .agg #[.int .i16 ((rd_T52 l1 AC).f0), .int .i8 ((rd_T52 l1 AC).f1)]] (by rfl) rfl rfl gl_ ?_
 with_reducible refine (impl_Rope_isHold.calls AR _ _ AN ((rd_T52 l1 AC).f0) ((rd_T52 l1 AC).f1) true _ ?side1 ?side2 A7.out).mono ?_
 (case side1 => exact sQ (Kd.C_below Ab.out HB.out))
 (case side2 => exact Ae.out)
 rintro e DL ⟨rfl, hb⟩
 refine ⟨_, rfl, ?_⟩
 replace AA := kK AA hb
 replace AB := kK AB hb
 replace HB := kB2 HB AF AQ hb
 have CR : (AC : Int) ≤ ((l1.length : Int) : Int) := of_decide_eq_true (by assumption)
 obtain ⟨C9, A8, _, Bj, _⟩ := info_parts info52
 have Av : l1.length ≤ c1 := CG.out
 have Bc : Kd.C k52 _ (some AL) l1.length l1 := Aw.out
 have BB := cut_to (P := Tryz.prog) 29 52 .i64 Tryz.underlying29 A8 (some AL) l1.length c1 AC (of_decide_eq_true (by assumption)) CR Av
 have BD := Kd.C_take (m := (AC : Int).toNat) Bc (by omega)
 have BI : Ag.length = (AC : Int).toNat := (by rw [At.out, List.length_take]; omega)
 rw [← At.out] at BD
 rw [← BI] at BB
 have Ax := ak BD
 have Az := ak (show Ag.length ≤ c1 from by omega)
 clear BD Bc Av A8 Bj
 have Cw := ak BI
 clear BI
 replace CR := eq_true CR
 refine hK.out _ _ ⟨(blk_cell AA.out 0).trans rfl, (blk_cell AA.out 1).trans rfl, (blk_cell AB.out 0).trans rfl, (blk_cell AB.out 1).trans rfl, ((HB.out.cell (World.block_lt_of_cell? w _ AI)).trans AI), ((HB.out.cell (World.block_lt_of_cell? w _ AJ)).trans AJ)⟩ (fun hHeld => ?_)
 clear hK K
 refine norm_ (a' := ?_) ?_ ?_
 rotate_left
 {
 show Act.put _ (some 16) _ = _
 simp only [Act.put, zs, zz, zk, i64_w, i32_w]
 rfl
 }
 refine pU 3 17 (bA 26 15) HT_ ?_
 refine pU 4 18 (bA 26 31) HT_ ?_
 refine pU 5 19 (bA 26 63) HT_ ?_
 refine pU 6 20 (bA 26 127) HT_ ?_
 refine pU 7 21 (bA 26 255) HT_ ?_
 refine pU 8 22 (bA 26 511) HT_ ?_
 refine pU 10 24 (bA 26 1535) HT_ ?_
 refine pU 11 25 (bA 26 3583) HT_ ?_
 refine pU 12 26 (bA 26 7679) HT_ ?_
 refine pU 13 27 (bA 26 15871) HT_ ?_
 refine pU 14 28 (bA 26 32255) HT_ ?_
 refine tK 9 23 (bA 26 32767) HT_ HW_ hHeld ?_
 refine tK 15 29 (bA 26 65535) HT_ HW_ hHeld ?_
 refine pU 16 30 (bA 26 131071) HT_ ?_
 refine pU 17 31 (bA 26 262143) HT_ ?_
 refine pU 18 32 (bA 26 524287) HT_ ?_
 refine pU 19 33 (bA 26 1048575) HT_ ?_
 refine pU 20 34 (bA 26 2097151) HT_ ?_
 refine pU 21 35 (bA 26 4194303) HT_ ?_
 refine pU 22 36 (bA 26 8388607) HT_ ?_
 refine pU 23 37 (bA 26 16777215) HT_ ?_
 refine one_ (i := 24) (N := some 38) (bA 26 33554431) rfl rfl (one_of HT_.out (by kernel_rfl)) (by decide) (fun K hK => ?_)
 refine goes_ Tryz.func45 (by kernel_rfl) rfl #[.slice (some AL) Ag.length c1, .func (.func 46) #[] #[.pointer (some ⟨AD, 0, none⟩)]] (by rfl) rfl rfl gl_ ?_
 with_reducible refine (slices_ContainsFunc_Hold_at_ValidHolds_1.calls k1 _ _ Ag AD ((rd_T52 l1 AC).f0) ((rd_T52 l1 AC).f1) false _ ?side1 ?side2 ?side3 Ck.out).mono ?_
 (case side1 => exact sQ (Kd.C_below Ax.out HB.out))
 (case side2 => exact Az.out)
 (case side3 => exact (zK AB.out))
 rintro e DI ⟨rfl, hb⟩
 refine ⟨_, rfl, ?_⟩
 replace AA := kK AA hb
 replace AB := kK AB hb
 replace HB := kB2 HB AF AQ hb
 refine hK.out _ _ ⟨(blk_cell AA.out 0).trans rfl, (blk_cell AA.out 1).trans rfl, (blk_cell AB.out 0).trans rfl, (blk_cell AB.out 1).trans rfl, ((HB.out.cell (World.block_lt_of_cell? w _ AI)).trans AI), ((HB.out.cell (World.block_lt_of_cell? w _ AJ)).trans AJ)⟩ (fun hHeld => ?_)
 clear hK K
 refine norm_ (a' := ?_) ?_ ?_
 rotate_left
 {
 show Act.put _ (some 38) _ = _
 simp only [Act.put, zs, zz, zk, i64_w, i32_w]
 rfl
 }
 refine pU 25 39 (bA 26 67108863) HT_ ?_
 refine done_ (done_of HT_.out (by kernel_rfl)) ?_
 try go_wp2
 go_roundg k1
 case measure => have := B1.out; omega
 case rel => exact ⟨(wrap64 (AC + 1)), rfl, H', ⟨by have := B1.out; omega⟩, ⟨(zK AA.out)⟩, ⟨zH2 HB AF AQ⟩⟩
 }
 }
 · rw [if_neg Ba] at H; exact absurd H (by simp)
 }
 }
 · rw [if_neg Bk] at H; exact absurd H (by simp)
 }
 · rw [if_neg Bn] at H; exact absurd H (by simp)
 }
 {
 rw [if_neg c9] at H
 have CP : decide (0 < AC) = false := decide_eq_false c9
 clear c9
 have Cc := eq_true (of_decide_eq_true (by assumption) : 0 ≤ AC)
 by_cases Bg : AC ≤ (l1.length : Int)
 {
 rw [if_pos Bg] at H
 have Ch := eq_true Bg
 have Ce : decide (AC ≤ (l1.length : Int)) = true := decide_eq_true Bg
 clear Bg
 obtain ⟨Ah, Ao⟩ : ∃ y_ : List (S52), y_ = (l1.take (AC : Int).toNat) := ⟨_, rfl⟩
 replace H : ((slices_ContainsFunc_Hold_at_ValidHolds_1.f k1 Ah ((rd_T52 l1 AC).f0) ((rd_T52 l1 AC).f1)).bind fun BF => (if BF = true then (some false) else (impl_ValidHolds.l0 k1 l1 l1 (l1.length : Int) (wrap64 (AC + 1)) AR AN))) = some r := by first | (rw [Ao]; with_reducible exact H) | (have BC := (Option.bind_some _ _).symm.trans H; rw [Ao]; with_reducible exact BC) | (have BC := (Option.bind_some _ _).symm.trans H; with_reducible exact BC) | with_reducible exact H | (rw [Ao]; exact H) | exact H
 have Aq := ak Ao
 clear Ao
 replace H := Option.bind_eq_some_iff.mp H
 obtain ⟨BF, BW, H⟩ := H
 have Cp := ak BW
 clear BW
 by_cases Bu : BF = true
 {
 subst Bu
 rw [if_pos rfl] at H
 obtain rfl := Option.some.inj H
 have AW : 0 ≤ (AC : Int) := of_decide_eq_true (by assumption)
 have AV : AC < (l1.length : Int) := of_decide_eq_true (by assumption)
 obtain ⟨AL, Aa, AG, AH⟩ := at_T52 Aw.out AC AW AV
 cases Aa
 replace AG := (HB.out.cell (World.block_lt_of_cell? w _ AG)).trans AG
 replace AH := (HB.out.cell (World.block_lt_of_cell? w _ AH)).trans AH
 replace AW := eq_true AW
 replace AV := eq_true AV
 try go_wp2_with (first | ((with_reducible refine gate_dst (N := 6) rfl ?_); refine box_event ?hg (N := 6) ?hd (cs := #[.int .i16 0, .int .i8 0]) (t := 52) ?hr ?_; (case hd => rfl); (case hg => rfl); (case hr => first | (go_simp; done) | (go_simp; rfl)); intro AD hg BR hbox hb; have AX := ak (blk_below (g := AP) (o := .cells #[.int .i16 AR, .slice AU AN.length AT] 27 (0, 0)) (zK AA.out) hb); have AY := ak (below_step (zBG HB.out AF.out) hb); have AZ := ak (hbox); have Am := gS1 HB AF hg; have Ai := gS1 HB AF hg; have An := nL AA hg; have Aj := nG AA hg; clear AA HB; have AA := AX; have HB := AY; have AB := AZ; have Ap := Am; have AQ := Ai; have AE := An; have AO := Aj; clear AX AY AZ Am Ai An Aj; clear hb hbox hg; have Cs := AO.out; have Cf := AE.out; have Bv : BR.cell? ⟨AD, 0, none⟩ = some (.int .i16 0) := (blk_cell AB.out 0).trans rfl; have Bx : BR.cell? ⟨AD, 1, none⟩ = some (.int .i8 0) := (blk_cell AB.out 1).trans rfl; have Bp := blk_frozen AB.out 0; have B6 := blk_frozen AB.out 1))
 have AX : Aside0 (((BR.setCell ⟨AD, 0, none⟩ (.int .i16 ((rd_T52 l1 AC).f0))).setCell ⟨AD, 1, none⟩ (.int .i8 ((rd_T52 l1 AC).f1))).heap[AP]? = some (.cells #[.int .i16 AR, .slice AU AN.length AT] 27 (0, 0))) := ⟨by refine blk_far ?_ AE.out _; refine blk_far ?_ AE.out _; exact AA.out⟩
 have AY : Aside0 (((BR.setCell ⟨AD, 0, none⟩ (.int .i16 ((rd_T52 l1 AC).f0))).setCell ⟨AD, 1, none⟩ (.int .i8 ((rd_T52 l1 AC).f1))).heap[AD]? = some (.cells #[.int .i16 ((rd_T52 l1 AC).f0), .int .i8 ((rd_T52 l1 AC).f1)] 52 (0, 0))) := ⟨by refine blk_put (cs := #[.int .i16 ((rd_T52 l1 AC).f0), .int .i8 0]) ?_ 1 _ rfl; refine blk_put (cs := #[.int .i16 0, .int .i8 0]) ?_ 0 _ rfl; exact AB.out⟩
 have AZ : Aside0 (Below w.heap.size w ((BR.setCell ⟨AD, 0, none⟩ (.int .i16 ((rd_T52 l1 AC).f0))).setCell ⟨AD, 1, none⟩ (.int .i8 ((rd_T52 l1 AC).f1)))) := ⟨zH2 HB AF AQ⟩
 generalize ((BR.setCell ⟨AD, 0, none⟩ (.int .i16 ((rd_T52 l1 AC).f0))).setCell ⟨AD, 1, none⟩ (.int .i8 ((rd_T52 l1 AC).f1))) = C3 at AX AY AZ ⊢
 have AA := AX
 have AB := AY
 have HB := AZ
 clear AX AY AZ
 replace AA := ak (blk_drew AA.out)
 replace AB := ak (blk_drew AB.out)
 replace HB := ak (below_drew1 HB.out)
 refine start_ (n := 26) (S := fun w' => w'.cell? ⟨AP, 0, none⟩ = some (.int .i16 AR) ∧ w'.cell? ⟨AP, 1, none⟩ = some (.slice AU AN.length AT) ∧ w'.cell? ⟨AD, 0, none⟩ = some (.int .i16 ((rd_T52 l1 AC).f0)) ∧ w'.cell? ⟨AD, 1, none⟩ = some (.int .i8 ((rd_T52 l1 AC).f1))) (ds := []) (bA 26 0) (by kernel_rfl) rfl rfl ⟨(blk_cell AA.out 0).trans rfl, (blk_cell AA.out 1).trans rfl, (blk_cell AB.out 0).trans rfl, (blk_cell AB.out 1).trans rfl⟩ (fun hHeld => ?_); refine with_tabW impl_ValidHolds.tab4 impl_ValidHolds.bits4 (fun HT_ HW_ => ?_)
 generalize C3.drew = DO at AA AB HB hHeld ⊢
 refine tK 0 14 (bA 26 1) HT_ HW_ hHeld ?_
 refine tK 1 15 (bA 26 3) HT_ HW_ hHeld ?_
 refine one_ (i := 2) (N := some 16) (bA 26 7) rfl rfl (one_of HT_.out (by kernel_rfl)) (by decide) (fun K hK => ?_)
 refine goes_ Tryz.func44 (by kernel_rfl) rfl #[.agg #[.int .i16 AR, .slice AU AN.length AT], .agg #[.int .i16 ((rd_T52 l1 AC).f0), .int .i8 ((rd_T52 l1 AC).f1)]] (by rfl) rfl rfl gl_ ?_
 with_reducible refine (impl_Rope_isHold.calls AR _ _ AN ((rd_T52 l1 AC).f0) ((rd_T52 l1 AC).f1) true _ ?side1 ?side2 A7.out).mono ?_
 (case side1 => exact sQ (Kd.C_below Ab.out HB.out))
 (case side2 => exact Ae.out)
 rintro e DJ ⟨rfl, hb⟩
 refine ⟨_, rfl, ?_⟩
 replace AA := kK AA hb
 replace AB := kK AB hb
 replace HB := kB2 HB AF AQ hb
 have CQ : (AC : Int) ≤ ((l1.length : Int) : Int) := of_decide_eq_true (by assumption)
 obtain ⟨DE, A4, _, Bf, _⟩ := info_parts info52
 have As : l1.length ≤ c1 := CG.out
 have BX : Kd.C k52 _ (some AL) l1.length l1 := Aw.out
 have BN := cut_to (P := Tryz.prog) 29 52 .i64 Tryz.underlying29 A4 (some AL) l1.length c1 AC (of_decide_eq_true (by assumption)) CQ As
 have BE := Kd.C_take (m := (AC : Int).toNat) BX (by omega)
 have BG : Ah.length = (AC : Int).toNat := (by rw [Aq.out, List.length_take]; omega)
 rw [← Aq.out] at BE
 rw [← BG] at BN
 have A0 := ak BE
 have Ay := ak (show Ah.length ≤ c1 from by omega)
 clear BE BX As A4 Bf
 have C5 := ak BG
 clear BG
 replace CQ := eq_true CQ
 refine hK.out _ _ ⟨(blk_cell AA.out 0).trans rfl, (blk_cell AA.out 1).trans rfl, (blk_cell AB.out 0).trans rfl, (blk_cell AB.out 1).trans rfl⟩ (fun hHeld => ?_)
 clear hK K
 refine norm_ (a' := ?_) ?_ ?_
 rotate_left
 {
 show Act.put _ (some 16) _ = _
 simp only [Act.put, zs, zz, zk, i64_w, i32_w]
 rfl
 }
 refine pU 3 17 (bA 26 15) HT_ ?_
 refine pU 4 18 (bA 26 31) HT_ ?_
 refine pU 5 19 (bA 26 63) HT_ ?_
 refine pU 6 20 (bA 26 127) HT_ ?_
 refine pU 7 21 (bA 26 255) HT_ ?_
 refine pN 8 22 (bA 26 511) HT_ ?_
 refine pN 9 23 (bA 26 1023) HT_ ?_
 refine pN 10 24 (bA 26 2047) HT_ ?_
 refine pN 11 25 (bA 26 4095) HT_ ?_
 refine pN 12 26 (bA 26 8191) HT_ ?_
 refine pN 13 27 (bA 26 16383) HT_ ?_
 refine pN 14 28 (bA 26 32767) HT_ ?_
 refine pN 15 29 (bA 26 65535) HT_ ?_
 refine pN 16 30 (bA 26 131071) HT_ ?_
 refine pU 17 31 (bA 26 262143) HT_ ?_
 refine pU 18 32 (bA 26 524287) HT_ ?_
 refine pU 19 33 (bA 26 1048575) HT_ ?_
 refine pU 20 34 (bA 26 2097151) HT_ ?_
 refine pU 21 35 (bA 26 4194303) HT_ ?_
 refine pU 22 36 (bA 26 8388607) HT_ ?_
 refine pU 23 37 (bA 26 16777215) HT_ ?_
 refine one_ (i := 24) (N := some 38) (bA 26 33554431) rfl rfl (one_of HT_.out (by kernel_rfl)) (by decide) (fun K hK => ?_)
 refine goes_ Tryz.func45 (by kernel_rfl) rfl #[.slice (some AL) Ah.length c1, .func (.func 46) #[] #[.pointer (some ⟨AD, 0, none⟩)]] (by rfl) rfl rfl gl_ ?_
 with_reducible refine (slices_ContainsFunc_Hold_at_ValidHolds_1.calls k1 _ _ Ah AD ((rd_T52 l1 AC).f0) ((rd_T52 l1 AC).f1) true _ ?side1 ?side2 ?side3 Cp.out).mono ?_
 (case side1 => exact sQ (Kd.C_below A0.out HB.out))
 (case side2 => exact Ay.out)
 (case side3 => exact (zK AB.out))
 rintro e DF ⟨rfl, hb⟩
 refine ⟨_, rfl, ?_⟩
 replace AA := kK AA hb
 replace AB := kK AB hb
 replace HB := kB2 HB AF AQ hb
 refine hK.out _ _ ⟨(blk_cell AA.out 0).trans rfl, (blk_cell AA.out 1).trans rfl, (blk_cell AB.out 0).trans rfl, (blk_cell AB.out 1).trans rfl⟩ (fun hHeld => ?_)
 clear hK K
 refine norm_ (a' := ?_) ?_ ?_
 rotate_left
 {
 show Act.put _ (some 38) _ = _
 simp only [Act.put, zs, zz, zk, i64_w, i32_w]
 rfl
 }
 refine pU 25 39 (bA 26 67108863) HT_ ?_
 refine done_ (done_of HT_.out (by kernel_rfl)) ?_
 try go_wp2
 go_ret
 exact ⟨rfl, zH2 HB AF AQ⟩
 }
 {
 replace Bu := Bool.eq_false_iff.mpr Bu
 subst Bu
 rw [if_neg (show ¬ (false = true) by decide)] at H
 have H' := ak H
 clear H
 have AW : 0 ≤ (AC : Int) := of_decide_eq_true (by assumption)
 have AV : AC < (l1.length : Int) := of_decide_eq_true (by assumption)
 obtain ⟨AL, Aa, AG, AH⟩ := at_T52 Aw.out AC AW AV
 cases Aa
 replace AG := (HB.out.cell (World.block_lt_of_cell? w _ AG)).trans AG
 replace AH := (HB.out.cell (World.block_lt_of_cell? w _ AH)).trans AH
 replace AW := eq_true AW
 replace AV := eq_true AV
 try go_wp2_with (first | ((with_reducible refine gate_dst (N := 6) rfl ?_); refine box_event ?hg (N := 6) ?hd (cs := #[.int .i16 0, .int .i8 0]) (t := 52) ?hr ?_; (case hd => rfl); (case hg => rfl); (case hr => first | (go_simp; done) | (go_simp; rfl)); intro AD hg BP hbox hb; have AX := ak (blk_below (g := AP) (o := .cells #[.int .i16 AR, .slice AU AN.length AT] 27 (0, 0)) (zK AA.out) hb); have AY := ak (below_step (zBG HB.out AF.out) hb); have AZ := ak (hbox); have Am := gS1 HB AF hg; have Ai := gS1 HB AF hg; have An := nL AA hg; have Aj := nG AA hg; clear AA HB; have AA := AX; have HB := AY; have AB := AZ; have Ap := Am; have AQ := Ai; have AE := An; have AO := Aj; clear AX AY AZ Am Ai An Aj; clear hb hbox hg; have CY := AO.out; have Cu := AE.out; have Bq : BP.cell? ⟨AD, 0, none⟩ = some (.int .i16 0) := (blk_cell AB.out 0).trans rfl; have Bt : BP.cell? ⟨AD, 1, none⟩ = some (.int .i8 0) := (blk_cell AB.out 1).trans rfl; have CL := blk_frozen AB.out 0; have Bo := blk_frozen AB.out 1))
 have AX : Aside0 (((BP.setCell ⟨AD, 0, none⟩ (.int .i16 ((rd_T52 l1 AC).f0))).setCell ⟨AD, 1, none⟩ (.int .i8 ((rd_T52 l1 AC).f1))).heap[AP]? = some (.cells #[.int .i16 AR, .slice AU AN.length AT] 27 (0, 0))) := ⟨by refine blk_far ?_ AE.out _; refine blk_far ?_ AE.out _; exact AA.out⟩
 have AY : Aside0 (((BP.setCell ⟨AD, 0, none⟩ (.int .i16 ((rd_T52 l1 AC).f0))).setCell ⟨AD, 1, none⟩ (.int .i8 ((rd_T52 l1 AC).f1))).heap[AD]? = some (.cells #[.int .i16 ((rd_T52 l1 AC).f0), .int .i8 ((rd_T52 l1 AC).f1)] 52 (0, 0))) := ⟨by refine blk_put (cs := #[.int .i16 ((rd_T52 l1 AC).f0), .int .i8 0]) ?_ 1 _ rfl; refine blk_put (cs := #[.int .i16 0, .int .i8 0]) ?_ 0 _ rfl; exact AB.out⟩
 have AZ : Aside0 (Below w.heap.size w ((BP.setCell ⟨AD, 0, none⟩ (.int .i16 ((rd_T52 l1 AC).f0))).setCell ⟨AD, 1, none⟩ (.int .i8 ((rd_T52 l1 AC).f1)))) := ⟨zH2 HB AF AQ⟩
 generalize ((BP.setCell ⟨AD, 0, none⟩ (.int .i16 ((rd_T52 l1 AC).f0))).setCell ⟨AD, 1, none⟩ (.int .i8 ((rd_T52 l1 AC).f1))) = Cx at AX AY AZ ⊢
 have AA := AX
 have AB := AY
 have HB := AZ
 clear AX AY AZ
 replace AA := ak (blk_drew AA.out)
 replace AB := ak (blk_drew AB.out)
 replace HB := ak (below_drew1 HB.out)
 refine start_ (n := 26) (S := fun w' => w'.cell? ⟨AP, 0, none⟩ = some (.int .i16 AR) ∧ w'.cell? ⟨AP, 1, none⟩ = some (.slice AU AN.length AT) ∧ w'.cell? ⟨AD, 0, none⟩ = some (.int .i16 ((rd_T52 l1 AC).f0)) ∧ w'.cell? ⟨AD, 1, none⟩ = some (.int .i8 ((rd_T52 l1 AC).f1))) (ds := []) (bA 26 0) (by kernel_rfl) rfl rfl ⟨(blk_cell AA.out 0).trans rfl, (blk_cell AA.out 1).trans rfl, (blk_cell AB.out 0).trans rfl, (blk_cell AB.out 1).trans rfl⟩ (fun hHeld => ?_); refine with_tabW impl_ValidHolds.tab4 impl_ValidHolds.bits4 (fun HT_ HW_ => ?_)
 generalize Cx.drew = DN at AA AB HB hHeld ⊢
 refine tK 0 14 (bA 26 1) HT_ HW_ hHeld ?_
 refine tK 1 15 (bA 26 3) HT_ HW_ hHeld ?_
 refine one_ (i := 2) (N := some 16) (bA 26 7) rfl rfl (one_of HT_.out (by kernel_rfl)) (by decide) (fun K hK => ?_)
 refine goes_ Tryz.func44 (by kernel_rfl) rfl #[.agg #[.int .i16 AR, .slice AU AN.length AT], .agg #[.int .i16 ((rd_T52 l1 AC).f0), .int .i8 ((rd_T52 l1 AC).f1)]] (by rfl) rfl rfl gl_ ?_
 with_reducible refine (impl_Rope_isHold.calls AR _ _ AN ((rd_T52 l1 AC).f0) ((rd_T52 l1 AC).f1) true _ ?side1 ?side2 A7.out).mono ?_
 (case side1 => exact sQ (Kd.C_below Ab.out HB.out))
 (case side2 => exact Ae.out)
 rintro e DM ⟨rfl, hb⟩
 refine ⟨_, rfl, ?_⟩
 replace AA := kK AA hb
 replace AB := kK AB hb
 replace HB := kB2 HB AF AQ hb
 have CU : (AC : Int) ≤ ((l1.length : Int) : Int) := of_decide_eq_true (by assumption)
 obtain ⟨C1, A3, _, Bh, _⟩ := info_parts info52
 have Ar : l1.length ≤ c1 := CG.out
 have BZ : Kd.C k52 _ (some AL) l1.length l1 := Aw.out
 have BH := cut_to (P := Tryz.prog) 29 52 .i64 Tryz.underlying29 A3 (some AL) l1.length c1 AC (of_decide_eq_true (by assumption)) CU Ar
 have BO := Kd.C_take (m := (AC : Int).toNat) BZ (by omega)
 have BA : Ah.length = (AC : Int).toNat := (by rw [Aq.out, List.length_take]; omega)
 rw [← Aq.out] at BO
 rw [← BA] at BH
 have A0 := ak BO
 have Ay := ak (show Ah.length ≤ c1 from by omega)
 clear BO BZ Ar A3 Bh
 have Cy := ak BA
 clear BA
 replace CU := eq_true CU
 refine hK.out _ _ ⟨(blk_cell AA.out 0).trans rfl, (blk_cell AA.out 1).trans rfl, (blk_cell AB.out 0).trans rfl, (blk_cell AB.out 1).trans rfl⟩ (fun hHeld => ?_)
 clear hK K
 refine norm_ (a' := ?_) ?_ ?_
 rotate_left
 {
 show Act.put _ (some 16) _ = _
 simp only [Act.put, zs, zz, zk, i64_w, i32_w]
 rfl
 }
 refine pU 3 17 (bA 26 15) HT_ ?_
 refine pU 4 18 (bA 26 31) HT_ ?_
 refine pU 5 19 (bA 26 63) HT_ ?_
 refine pU 6 20 (bA 26 127) HT_ ?_
 refine pU 7 21 (bA 26 255) HT_ ?_
 refine pN 8 22 (bA 26 511) HT_ ?_
 refine pN 9 23 (bA 26 1023) HT_ ?_
 refine pN 10 24 (bA 26 2047) HT_ ?_
 refine pN 11 25 (bA 26 4095) HT_ ?_
 refine pN 12 26 (bA 26 8191) HT_ ?_
 refine pN 13 27 (bA 26 16383) HT_ ?_
 refine pN 14 28 (bA 26 32767) HT_ ?_
 refine pN 15 29 (bA 26 65535) HT_ ?_
 refine pN 16 30 (bA 26 131071) HT_ ?_
 refine pU 17 31 (bA 26 262143) HT_ ?_
 refine pU 18 32 (bA 26 524287) HT_ ?_
 refine pU 19 33 (bA 26 1048575) HT_ ?_
 refine pU 20 34 (bA 26 2097151) HT_ ?_
 refine pU 21 35 (bA 26 4194303) HT_ ?_
 refine pU 22 36 (bA 26 8388607) HT_ ?_
 refine pU 23 37 (bA 26 16777215) HT_ ?_
 refine one_ (i := 24) (N := some 38) (bA 26 33554431) rfl rfl (one_of HT_.out (by kernel_rfl)) (by decide) (fun K hK => ?_)
 refine goes_ Tryz.func45 (by kernel_rfl) rfl #[.slice (some AL) Ah.length c1, .func (.func 46) #[] #[.pointer (some ⟨AD, 0, none⟩)]] (by rfl) rfl rfl gl_ ?_
 with_reducible refine (slices_ContainsFunc_Hold_at_ValidHolds_1.calls k1 _ _ Ah AD ((rd_T52 l1 AC).f0) ((rd_T52 l1 AC).f1) false _ ?side1 ?side2 ?side3 Cp.out).mono ?_
 (case side1 => exact sQ (Kd.C_below A0.out HB.out))
 (case side2 => exact Ay.out)
 (case side3 => exact (zK AB.out))
 rintro e DH ⟨rfl, hb⟩
 refine ⟨_, rfl, ?_⟩
 replace AA := kK AA hb
 replace AB := kK AB hb
 replace HB := kB2 HB AF AQ hb
 refine hK.out _ _ ⟨(blk_cell AA.out 0).trans rfl, (blk_cell AA.out 1).trans rfl, (blk_cell AB.out 0).trans rfl, (blk_cell AB.out 1).trans rfl⟩ (fun hHeld => ?_)
 clear hK K
 refine norm_ (a' := ?_) ?_ ?_
 rotate_left
 {
 show Act.put _ (some 38) _ = _
 simp only [Act.put, zs, zz, zk, i64_w, i32_w]
 rfl
 }
 refine pU 25 39 (bA 26 67108863) HT_ ?_
 refine done_ (done_of HT_.out (by kernel_rfl)) ?_
 try go_wp2
 go_roundg k1
 case measure => have := B1.out; omega
 case rel => exact ⟨(wrap64 (AC + 1)), rfl, H', ⟨by have := B1.out; omega⟩, ⟨(zK AA.out)⟩, ⟨zH2 HB AF AQ⟩⟩
 }
 }
 · rw [if_neg Bg] at H; exact absurd H (by simp)
 }
 }
 {
 replace c8 := Bool.eq_false_iff.mpr c8
 subst c8
 rw [if_neg (show ¬ (false = true) by decide)] at H
 obtain rfl := Option.some.inj H
 have AW : 0 ≤ (AC : Int) := of_decide_eq_true (by assumption)
 have AV : AC < (l1.length : Int) := of_decide_eq_true (by assumption)
 obtain ⟨AL, Aa, AG, AH⟩ := at_T52 Aw.out AC AW AV
 cases Aa
 replace AG := (HB.out.cell (World.block_lt_of_cell? w _ AG)).trans AG
 replace AH := (HB.out.cell (World.block_lt_of_cell? w _ AH)).trans AH
 replace AW := eq_true AW
 replace AV := eq_true AV
 try go_wp2_with (first | ((with_reducible refine gate_dst (N := 6) rfl ?_); refine box_event ?hg (N := 6) ?hd (cs := #[.int .i16 0, .int .i8 0]) (t := 52) ?hr ?_; (case hd => rfl); (case hg => rfl); (case hr => first | (go_simp; done) | (go_simp; rfl)); intro AD hg BS hbox hb; have AX := ak (blk_below (g := AP) (o := .cells #[.int .i16 AR, .slice AU AN.length AT] 27 (0, 0)) (zK AA.out) hb); have AY := ak (below_step (zBG HB.out AF.out) hb); have AZ := ak (hbox); have Am := gS1 HB AF hg; have Ai := gS1 HB AF hg; have An := nL AA hg; have Aj := nG AA hg; clear AA HB; have AA := AX; have HB := AY; have AB := AZ; have Ap := Am; have AQ := Ai; have AE := An; have AO := Aj; clear AX AY AZ Am Ai An Aj; clear hb hbox hg; have Cb := AO.out; have Cj := AE.out; have CD : BS.cell? ⟨AD, 0, none⟩ = some (.int .i16 0) := (blk_cell AB.out 0).trans rfl; have Bz : BS.cell? ⟨AD, 1, none⟩ = some (.int .i8 0) := (blk_cell AB.out 1).trans rfl; have B8 := blk_frozen AB.out 0; have Bw := blk_frozen AB.out 1))
 have AX : Aside0 (((BS.setCell ⟨AD, 0, none⟩ (.int .i16 ((rd_T52 l1 AC).f0))).setCell ⟨AD, 1, none⟩ (.int .i8 ((rd_T52 l1 AC).f1))).heap[AP]? = some (.cells #[.int .i16 AR, .slice AU AN.length AT] 27 (0, 0))) := ⟨by refine blk_far ?_ AE.out _; refine blk_far ?_ AE.out _; exact AA.out⟩
 have AY : Aside0 (((BS.setCell ⟨AD, 0, none⟩ (.int .i16 ((rd_T52 l1 AC).f0))).setCell ⟨AD, 1, none⟩ (.int .i8 ((rd_T52 l1 AC).f1))).heap[AD]? = some (.cells #[.int .i16 ((rd_T52 l1 AC).f0), .int .i8 ((rd_T52 l1 AC).f1)] 52 (0, 0))) := ⟨by refine blk_put (cs := #[.int .i16 ((rd_T52 l1 AC).f0), .int .i8 0]) ?_ 1 _ rfl; refine blk_put (cs := #[.int .i16 0, .int .i8 0]) ?_ 0 _ rfl; exact AB.out⟩
 have AZ : Aside0 (Below w.heap.size w ((BS.setCell ⟨AD, 0, none⟩ (.int .i16 ((rd_T52 l1 AC).f0))).setCell ⟨AD, 1, none⟩ (.int .i8 ((rd_T52 l1 AC).f1)))) := ⟨zH2 HB AF AQ⟩
 generalize ((BS.setCell ⟨AD, 0, none⟩ (.int .i16 ((rd_T52 l1 AC).f0))).setCell ⟨AD, 1, none⟩ (.int .i8 ((rd_T52 l1 AC).f1))) = C8 at AX AY AZ ⊢
 have AA := AX
 have AB := AY
 have HB := AZ
 clear AX AY AZ
 replace AA := ak (blk_drew AA.out)
 replace AB := ak (blk_drew AB.out)
 replace HB := ak (below_drew1 HB.out)
 refine start_ (n := 26) (S := fun w' => w'.cell? ⟨AP, 0, none⟩ = some (.int .i16 AR) ∧ w'.cell? ⟨AP, 1, none⟩ = some (.slice AU AN.length AT) ∧ w'.cell? ⟨AD, 0, none⟩ = some (.int .i16 ((rd_T52 l1 AC).f0)) ∧ w'.cell? ⟨AD, 1, none⟩ = some (.int .i8 ((rd_T52 l1 AC).f1))) (ds := []) (bA 26 0) (by kernel_rfl) rfl rfl ⟨(blk_cell AA.out 0).trans rfl, (blk_cell AA.out 1).trans rfl, (blk_cell AB.out 0).trans rfl, (blk_cell AB.out 1).trans rfl⟩ (fun hHeld => ?_); refine with_tabW impl_ValidHolds.tab4 impl_ValidHolds.bits4 (fun HT_ HW_ => ?_)
 generalize C8.drew = DU at AA AB HB hHeld ⊢
 refine tK 0 14 (bA 26 1) HT_ HW_ hHeld ?_
 refine tK 1 15 (bA 26 3) HT_ HW_ hHeld ?_
 refine one_ (i := 2) (N := some 16) (bA 26 7) rfl rfl (one_of HT_.out (by kernel_rfl)) (by decide) (fun K hK => ?_)
 refine goes_ Tryz.func44 (by kernel_rfl) rfl #[.agg #[.int .i16 AR, .slice AU AN.length AT], .agg #[.int .i16 ((rd_T52 l1 AC).f0), .int .i8 ((rd_T52 l1 AC).f1)]] (by rfl) rfl rfl gl_ ?_
 with_reducible refine (impl_Rope_isHold.calls AR _ _ AN ((rd_T52 l1 AC).f0) ((rd_T52 l1 AC).f1) false _ ?side1 ?side2 A7.out).mono ?_
 (case side1 => exact sQ (Kd.C_below Ab.out HB.out))
 (case side2 => exact Ae.out)
 rintro e DV ⟨rfl, hb⟩
 refine ⟨_, rfl, ?_⟩
 replace AA := kK AA hb
 replace AB := kK AB hb
 replace HB := kB2 HB AF AQ hb
 refine hK.out _ _ ⟨(blk_cell AA.out 0).trans rfl, (blk_cell AA.out 1).trans rfl, (blk_cell AB.out 0).trans rfl, (blk_cell AB.out 1).trans rfl⟩ (fun hHeld => ?_)
 clear hK K
 refine norm_ (a' := ?_) ?_ ?_
 rotate_left
 {
 show Act.put _ (some 16) _ = _
 simp only [Act.put, zs, zz, zk, i64_w, i32_w]
 rfl
 }
 refine pU 3 17 (bA 26 15) HT_ ?_
 refine pU 4 18 (bA 26 31) HT_ ?_
 refine pN 5 19 (bA 26 63) HT_ ?_
 refine pN 6 20 (bA 26 127) HT_ ?_
 refine pN 7 21 (bA 26 255) HT_ ?_
 refine pN 8 22 (bA 26 511) HT_ ?_
 refine pN 9 23 (bA 26 1023) HT_ ?_
 refine pN 10 24 (bA 26 2047) HT_ ?_
 refine pN 11 25 (bA 26 4095) HT_ ?_
 refine pN 12 26 (bA 26 8191) HT_ ?_
 refine pN 13 27 (bA 26 16383) HT_ ?_
 refine pN 14 28 (bA 26 32767) HT_ ?_
 refine pN 15 29 (bA 26 65535) HT_ ?_
 refine pN 16 30 (bA 26 131071) HT_ ?_
 refine pN 17 31 (bA 26 262143) HT_ ?_
 refine pU 18 32 (bA 26 524287) HT_ ?_
 refine pU 19 33 (bA 26 1048575) HT_ ?_
 refine pN 20 34 (bA 26 2097151) HT_ ?_
 refine pN 21 35 (bA 26 4194303) HT_ ?_
 refine pN 22 36 (bA 26 8388607) HT_ ?_
 refine pN 23 37 (bA 26 16777215) HT_ ?_
 refine pN 24 38 (bA 26 33554431) HT_ ?_
 refine pU 25 39 (bA 26 67108863) HT_ ?_
 refine done_ (done_of HT_.out (by kernel_rfl)) ?_
 try go_wp2
 go_ret
 exact ⟨rfl, zH2 HB AF AQ⟩
 }
 }
 · rw [if_neg c6] at H; exact absurd H (by simp)
 }
 · rw [if_neg c5] at H; exact absurd H (by simp)
 }
 {
 rw [if_neg c4] at H
 have CN : decide (AC < (l1.length : Int)) = false := decide_eq_false c4
 clear c4
 replace H := Option.bind_eq_some_iff.mp H
 obtain ⟨CV, BY, H⟩ := H
 have C6 := ak BY
 clear BY
 obtain rfl := Option.some.inj H
 have CI : wr.cell? ⟨AP, 0, none⟩ = some (.int .i16 AR) := (blk_cell AA.out 0).trans rfl
 have CH : wr.cell? ⟨AP, 1, none⟩ = some (.slice AU AN.length AT) := (blk_cell AA.out 1).trans rfl
 have Bl := blk_frozen AA.out 0
 have CC := blk_frozen AA.out 1
 go_wp2_with (first | ((with_reducible refine gate_callee (f := 13) rfl ?_); refine goesL_ (some 42) rfl rfl Tryz.func13 (by kernel_rfl) rfl #[.agg #[.int .i16 AR, .slice AU AN.length AT]] rfl gl_ ?_; (with_reducible refine (impl_ValidRope.calls k1 AR _ _ AN CV _ ?side1 ?side2 C6.out).mono ?_); (case side1 => exact sQ (Kd.C_below Ab.out HB.out)); (case side2 => exact Ae.out); rintro e DP ⟨rfl, hb⟩; refine ⟨_, rfl, ?_⟩; replace AA := kK AA hb; replace HB := kB1 HB AF hb; (try clear hb)))
 go_ret
 exact ⟨rfl, zBG HB.out AF.out⟩
 }
 )
 )
end Go.Proofs.YtlggjfhoecaelaaGreatDoor.P
