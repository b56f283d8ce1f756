-- Printed by wip/print (my turned copy of the kit's print) out of the translation; Lean checks it.
import Derived.Test.YtooidjdgfoioiaaP0
import Derived.Test.YtooidjdgfoioiaaP10
namespace Go.Proofs.Ytooidjdgfoioiaa.P
open Go.RowKit Go.Proofs.YtooidjdgfoioiaaW.PrintWords Go.Proofs.YtooidjdgfoioiaaW.PrintLast Go.Proofs.YtooidjdgfoioiaaW.PrintMore
attribute [local go_sem] max2_int min2_int max_two min_two max_three min_three max_four min_four   -- for this text's walks alone
set_option linter.unusedVariables false
set_option linter.unusedSimpArgs false

/-! ### impl_stepsAlong: function 47 -/
def impl_stepsAlong.l0 : Nat → List (S62) → List Int → Int → Int → Int → Int → Int → Int → Int → Int → Int → Int → Int → Int → Int → Option (List Int × Int)
  | 0, _, _, _, _, _, _, _, _, _, _, _, _, _, _, _ => none
  | k + 1, x1, x6, x7, AL, AE, AC, AB, AH, AF, AA, AK, AD, AG, AI, AJ => if x7 < (x1.length : Int) then (if 0 ≤ (wrap64 (x7 - 1)) then (if (wrap64 (x7 - 1)) < (x1.length : Int) then (if 0 ≤ x7 then ((impl_StepsBetween.f k AL AE AC AB AH AF AA AK AD AG AI AJ ((rd_T62 x1 (wrap64 (x7 - 1))).f0) ((rd_T62 x1 (wrap64 (x7 - 1))).f1) ((rd_T62 x1 x7).f0) ((rd_T62 x1 x7).f1)).bind fun AM => (if AM.2 = 0 then (if x6.length < 17592186044416 then (impl_stepsAlong.l0 k x1 (x6 ++ [AM.1]) (wrap64 (x7 + 1)) AL AE AC AB AH AF AA AK AD AG AI AJ) else (none)) else (some (([] : List Int), AM.2)))) else (none)) else (none)) else (none)) else (some (x6, 0))
def impl_stepsAlong.f (k : Nat) (AG : Int) (AI : Int) (AL : Int) (AE : Int) (AF : Int) (AD : Int) (AJ : Int) (AH : Int) (AK : Int) (AC : Int) (AB : Int) (AA : Int) (l1 : List (S62)) : Option (List Int × Int) := impl_stepsAlong.l0 k l1 (([] : List Int)) 1 AG AI AL AE AF AD AJ AH AK AC AB AA
def impl_stepsAlong.T5 : Bool × List (List Nat × List Nat) := (true, [([], []), ([], []), ([], []), ([2], [2]), ([1, 3], [1, 3]), ([4], [4]), ([], []), ([], []), ([6, 7], [6, 7]), ([8], [8]), ([0, 5, 9], [0, 5, 9]), ([10], [10]), ([11], [11]), ([11], [11]), ([12, 10, 0, 1, 2, 3, 4, 5, 6, 7, 8, 9, 10, 11, 12], [12]), ([13, 14, 0, 1, 2, 3, 4, 5, 6, 7, 8, 9, 10, 11, 12, 13, 14], [13])])
def impl_stepsAlong.B5 : List Nat := [0, 0, 0, 4, 14, 30, 0, 0, 192, 448, 1023, 2047, 4095, 4095, 8191, 32767]
theorem impl_stepsAlong.tab5 : rtab .any (opsOf Try.f47 5) = impl_stepsAlong.T5 := by kernel_rfl
theorem impl_stepsAlong.bits5 : waitsOk impl_stepsAlong.T5.2 impl_stepsAlong.B5 = true := by kernel_rfl
set_option maxHeartbeats 8000000 in
set_option maxRecDepth 100000 in
theorem impl_stepsAlong.calls (k : Nat) (AT : Int) (AU : Int) (AR : Int) (AP : Int) (AW : Int) (Aa : Int) (AZ : Int) (AV : Int) (AS : Int) (AQ : Int) (AM : Int) (AN : Int) (A1 : Option Addr) (c1 : Nat) (l1 : List (S62)) (r1 : List Int) (r2 : Int) (w : World) (BC : Kd.C k62 w A1 l1.length l1) (BD : l1.length ≤ c1) (h : impl_stepsAlong.f k AT AU AR AP AW Aa AZ AV AS AQ AM AN l1 = some (r1, r2)) :
    Calls Try.prog 47 #[.agg #[.int .i8 AT, .int .i8 AU, .int .u16 AR, .int .u16 AP, .int .u16 AW, .int .u16 Aa, .int .u16 AZ, .int .u16 AV, .int .u16 AS, .int .u16 AQ, .int .u16 AM, .int .u16 AN], .slice A1 l1.length c1] w fun e w' => ∃ v0_ : Value, e = .returned (.tuple #[v0_, .int .i64 r2]) ∧ Kd.R (Kd.int .i64) 2 w' w.heap.size (fun _ => True) v0_ r1 ∧ Below w.heap.size w w' := by
 have BK := Try.underlying35
 have BL := Try.underlying62
 have A4 := ak BC
 have BP := ak BD
 clear BC BD
 have HB := ak (Below.refl w.heap.size w)
 have H := h
 unfold impl_stepsAlong.f at H
 clear h
 obtain ⟨A0, Ac⟩ : ∃ y_ : List Int, y_ = (([] : List Int)) := ⟨_, rfl⟩
 replace H : (impl_stepsAlong.l0 k l1 A0 1 AT AU AR AP AW Aa AZ AV AS AQ AM AN) = some (r1, r2) := by first | (rw [Ac]; with_reducible exact H) | (have Ao := (Option.bind_some _ _).symm.trans H; rw [Ac]; with_reducible exact Ao) | (have Ao := (Option.bind_some _ _).symm.trans H; with_reducible exact Ao) | with_reducible exact H | (rw [Ac]; exact H) | exact H
 have Am := ak Ac
 clear Ac
 have H' := ak H
 clear H
 go_enter Try.func47, Try.ntmps47
 go_wp2_with (first | ((with_reducible refine gate_dst (N := 2) rfl ?_); refine box_event ?hg (N := 2) ?hd (cs := #[.int .i8 AT, .int .i8 AU, .int .u16 AR, .int .u16 AP, .int .u16 AW, .int .u16 Aa, .int .u16 AZ, .int .u16 AV, .int .u16 AS, .int .u16 AQ, .int .u16 AM, .int .u16 AN]) (t := 35) ?hr ?_; (case hd => rfl); (case hg => rfl); (case hr => first | (go_simp; done) | (go_simp; rfl)); intro AB hg w3 hbox hb; have AA := ak (hbox); have BE := gS HB hg; have AO := gS HB hg; replace HB := kB HB hb; clear hb hbox hg) | ((with_reducible refine gate_dst (N := 10) rfl ?_); refine Kd.R_lit (Kd.int .i64) _ 2 ?hg (N := 10) ?hd (xs := ([] : List Int)) (inner := []) (ok := fun _ => True) (okp := fun _ => True) ?hr ?hp (fun _ hk => hk) trivial (Below.refl _ _) (Nat.le_refl _) (by simp) ?_; (case hd => rfl); (case hg => rfl); (case hr => first | (go_simp; done) | (go_simp; rfl)); (case hp => exact (Reps.none _ _)); intro BN w4 Av hb BI At; clear BI At; (first | rw [← Am.out] at Av | (simp only [Int.reduceToNat] at Av; rw [← Am.out] at Av)); have Az := ak (Kd.R_lower Av (below_size (zBG HB.out AO.out))); replace AA := kK AA hb; replace HB := kB1 HB AO hb; clear hb Av))
 go_loopg [6, 7] k (fun kq v6 v7 w' => ∃ (Ai : List Int) (AC : Int), v7 = .int .i64 AC ∧ Aside0 (impl_stepsAlong.l0 kq l1 Ai AC AT AU AR AP AW Aa AZ AV AS AQ AM AN = some (r1, r2)) ∧ Aside0 (kq ≤ k) ∧ Aside0 (Kd.R (Kd.int .i64) 2 w' w.heap.size (fun _ => True) v6 Ai) ∧ Aside0 (w'.heap[AB]? = some (.cells #[.int .i8 AT, .int .i8 AU, .int .u16 AR, .int .u16 AP, .int .u16 AW, .int .u16 Aa, .int .u16 AZ, .int .u16 AV, .int .u16 AS, .int .u16 AQ, .int .u16 AM, .int .u16 AN] 35 (0, 0))) ∧ Aside0 (Below w.heap.size w w'))
 case atStart => exact ⟨(A0), (1), rfl, H', ⟨Nat.le_refl _⟩, ⟨(zR Az.out)⟩, ⟨(zK AA.out)⟩, ⟨zBG HB.out AO.out⟩⟩
 case round => (
 clear H'
 obtain ⟨Ai, AC, rfl, HA, BG, AY, AA, HB⟩ := hrel
 cases gk with
 | zero => exact absurd HA.out (by simp [impl_stepsAlong.l0])
 | succ k1 => (
 have H := HA.out
 clear HA
 simp only [impl_stepsAlong.l0] at H
 by_cases c6 : AC < (l1.length : Int)
 {
 rw [if_pos c6] at H
 have A6 : decide (AC < (l1.length : Int)) = true := decide_eq_true c6
 clear c6
 obtain ⟨AX, Aj⟩ : ∃ j_ : Int, (wrap64 (AC - 1)) = j_ := ⟨_, rfl⟩
 first | rw [Aj] at H | simp only [Aj] at H
 have A9 : (IntKind.i64.wrap (AC - 1)) = AX := (i64_w _).trans Aj
 by_cases c8 : 0 ≤ (AX)
 {
 rw [if_pos c8] at H
 have BH : decide (0 ≤ (AX)) = true := decide_eq_true c8
 clear c8
 by_cases c9 : (AX) < (l1.length : Int)
 {
 rw [if_pos c9] at H
 have BM : decide ((AX) < (l1.length : Int)) = true := decide_eq_true c9
 clear c9
 by_cases A5 : 0 ≤ AC
 {
 rw [if_pos A5] at H
 have BA : decide (0 ≤ AC) = true := decide_eq_true A5
 clear A5
 replace H := Option.bind_eq_some_iff.mp H
 obtain ⟨⟨Al, Ah⟩, As, H⟩ := H
 have BF := ak As
 clear As
 by_cases Ap : Ah = 0
 {
 rw [if_pos Ap] at H
 have A2 : (Ah == 0) = true := beq_iff_eq.mpr Ap
 have Aw : (Ah != 0) = false := bne_eq_false_iff_eq.mpr Ap
 clear Ap
 by_cases A3 : Ai.length < 17592186044416
 {
 rw [if_pos A3] at H
 have Au := ak A3
 clear A3
 obtain ⟨Ar, Ab⟩ : ∃ y_ : List Int, y_ = (Ai ++ [Al]) := ⟨_, rfl⟩
 replace H : (impl_stepsAlong.l0 k1 l1 Ar (wrap64 (AC + 1)) AT AU AR AP AW Aa AZ AV AS AQ AM AN) = some (r1, r2) := by first | (rw [Ab]; with_reducible exact H) | (have Ao := (Option.bind_some _ _).symm.trans H; rw [Ab]; with_reducible exact Ao) | (have Ao := (Option.bind_some _ _).symm.trans H; with_reducible exact Ao) | with_reducible exact H | (rw [Ab]; exact H) | exact H
 have Ay := ak Ab
 clear Ab
 have H' := ak H
 clear H
 try go_wp2
 replace AY := ak (Kd.R_drew AY.out)
 replace AA := ak (blk_drew AA.out)
 replace HB := ak (below_drew1 HB.out)
 have Af : 0 ≤ ((AX) : Int) := of_decide_eq_true (by assumption)
 have Ad : (AX) < (l1.length : Int) := of_decide_eq_true (by assumption)
 obtain ⟨AL, Aq, AG, AF⟩ := at_T62 A4.out (AX) Af Ad
 have AH := AF
 have AK := AG
 cases Aq
 replace AG := (HB.out.cell (World.block_lt_of_cell? w _ AG)).trans AG
 replace AF := (HB.out.cell (World.block_lt_of_cell? w _ AF)).trans AF
 replace Af := eq_true Af
 replace Ad := eq_true Ad
 have Ae : 0 ≤ (AC : Int) := of_decide_eq_true (by assumption)
 have Ag : AC < (l1.length : Int) := of_decide_eq_true (by assumption)
 obtain ⟨Ak, An, AD, AE⟩ := at_T62 A4.out AC Ae Ag
 have AJ := AE
 have AI := AD
 obtain rfl : AL = Ak := (by injection An)
 replace AD := (HB.out.cell (World.block_lt_of_cell? w _ AD)).trans AD
 replace AE := (HB.out.cell (World.block_lt_of_cell? w _ AE)).trans AE
 replace Ae := eq_true Ae
 replace Ag := eq_true Ag
 refine start_ (n := 16) (S := fun w' => w'.cell? ⟨AB, 0, none⟩ = some (.int .i8 AT) ∧ w'.cell? ⟨AB, 1, none⟩ = some (.int .i8 AU) ∧ w'.cell? ⟨AB, 2, none⟩ = some (.int .u16 AR) ∧ w'.cell? ⟨AB, 3, none⟩ = some (.int .u16 AP) ∧ w'.cell? ⟨AB, 4, none⟩ = some (.int .u16 AW) ∧ w'.cell? ⟨AB, 5, none⟩ = some (.int .u16 Aa) ∧ w'.cell? ⟨AB, 6, none⟩ = some (.int .u16 AZ) ∧ w'.cell? ⟨AB, 7, none⟩ = some (.int .u16 AV) ∧ w'.cell? ⟨AB, 8, none⟩ = some (.int .u16 AS) ∧ w'.cell? ⟨AB, 9, none⟩ = some (.int .u16 AQ) ∧ w'.cell? ⟨AB, 10, none⟩ = some (.int .u16 AM) ∧ w'.cell? ⟨AB, 11, none⟩ = some (.int .u16 AN) ∧ w'.cell? (AL.add (((AX)).toNat * 2)) = some (.int .i8 ((rd_T62 l1 (AX)).f0)) ∧ w'.cell? ⟨(AL.add (((AX)).toNat * 2)).block, (AL.add (((AX)).toNat * 2)).off + 1, none⟩ = some (.int .i8 ((rd_T62 l1 (AX)).f1)) ∧ w'.cell? (AL.add ((AC).toNat * 2)) = some (.int .i8 ((rd_T62 l1 AC).f0)) ∧ w'.cell? ⟨(AL.add ((AC).toNat * 2)).block, (AL.add ((AC).toNat * 2)).off + 1, none⟩ = some (.int .i8 ((rd_T62 l1 AC).f1))) (ds := []) (bA 16 0) (by kernel_rfl) rfl rfl ⟨(blk_cell AA.out 0).trans rfl, (blk_cell AA.out 1).trans rfl, (blk_cell AA.out 2).trans rfl, (blk_cell AA.out 3).trans rfl, (blk_cell AA.out 4).trans rfl, (blk_cell AA.out 5).trans rfl, (blk_cell AA.out 6).trans rfl, (blk_cell AA.out 7).trans rfl, (blk_cell AA.out 8).trans rfl, (blk_cell AA.out 9).trans rfl, (blk_cell AA.out 10).trans rfl, (blk_cell AA.out 11).trans rfl, ((HB.out.cell (World.block_lt_of_cell? w _ AK)).trans AK), ((HB.out.cell (World.block_lt_of_cell? w _ AH)).trans AH), ((HB.out.cell (World.block_lt_of_cell? w _ AI)).trans AI), ((HB.out.cell (World.block_lt_of_cell? w _ AJ)).trans AJ)⟩ (fun hHeld => ?_); refine with_tabW impl_stepsAlong.tab5 impl_stepsAlong.bits5 (fun HT_ HW_ => ?_)
 generalize wr.drew = BS at AY AA HB AG AF AD AE hHeld ⊢
 refine pU 1 19 (bA 16 2) HT_ ?_
 refine pU 2 20 (bA 16 6) HT_ ?_
 refine pU 3 21 (bA 16 14) HT_ ?_
 refine pU 4 22 (bA 16 30) HT_ ?_
 refine pU 6 24 (bA 16 94) HT_ ?_
 refine pU 7 25 (bA 16 222) HT_ ?_
 refine pU 8 26 (bA 16 478) HT_ ?_
 refine tK 0 18 (bA 16 479) HT_ HW_ hHeld ?_
 refine tK 5 23 (bA 16 511) HT_ HW_ hHeld ?_
 refine tK 9 27 (bA 16 1023) HT_ HW_ hHeld ?_
 refine one_ (i := 10) (N := some 28) (bA 16 2047) rfl rfl (one_of HT_.out (by kernel_rfl)) (by decide) (fun K hK => ?_)
 refine goes_ Try.func79 (by kernel_rfl) rfl #[.agg #[.int .i8 AT, .int .i8 AU, .int .u16 AR, .int .u16 AP, .int .u16 AW, .int .u16 Aa, .int .u16 AZ, .int .u16 AV, .int .u16 AS, .int .u16 AQ, .int .u16 AM, .int .u16 AN], .agg #[.int .i8 ((rd_T62 l1 (AX)).f0), .int .i8 ((rd_T62 l1 (AX)).f1)], .agg #[.int .i8 ((rd_T62 l1 AC).f0), .int .i8 ((rd_T62 l1 AC).f1)]] (by rfl) rfl rfl (by (try simp only [List.map_toArray, List.map_cons, List.map_nil]); first | done | (simp only [Aj]; rfl) | rfl | (simp only [List.length_drop, List.length_take]; rfl)) ?_
 with_reducible refine (impl_StepsBetween.calls k1 AT AU AR AP AW Aa AZ AV AS AQ AM AN ((rd_T62 l1 (AX)).f0) ((rd_T62 l1 (AX)).f1) ((rd_T62 l1 AC).f0) ((rd_T62 l1 AC).f1) Al Ah _ BF.out).mono ?_
 rintro e BR ⟨rfl, hb⟩
 refine ⟨_, rfl, ?_⟩
 replace AY := kR AY hb
 replace AA := kK AA hb
 replace HB := kB1 HB AO hb
 refine hK.out _ _ ⟨(blk_cell AA.out 0).trans rfl, (blk_cell AA.out 1).trans rfl, (blk_cell AA.out 2).trans rfl, (blk_cell AA.out 3).trans rfl, (blk_cell AA.out 4).trans rfl, (blk_cell AA.out 5).trans rfl, (blk_cell AA.out 6).trans rfl, (blk_cell AA.out 7).trans rfl, (blk_cell AA.out 8).trans rfl, (blk_cell AA.out 9).trans rfl, (blk_cell AA.out 10).trans rfl, (blk_cell AA.out 11).trans rfl, ((HB.out.cell (World.block_lt_of_cell? w _ AK)).trans AK), ((HB.out.cell (World.block_lt_of_cell? w _ AH)).trans AH), ((HB.out.cell (World.block_lt_of_cell? w _ AI)).trans AI), ((HB.out.cell (World.block_lt_of_cell? w _ AJ)).trans AJ)⟩ (fun hHeld => ?_)
 clear hK K
 refine norm_ (a' := ?_) ?_ ?_
 rotate_left
 {
 show Act.put _ (some 28) _ = _
 simp only [Act.put, zs, zz, zk, i64_w, i32_w]
 rfl
 }
 refine pU 11 17 (bA 16 4095) HT_ ?_
 refine pU 12 29 (bA 16 8191) HT_ ?_
 refine pU 13 30 (bA 16 16383) HT_ ?_
 refine pU 14 8 (bA 16 32767) HT_ ?_
 refine pU 15 9 (bA 16 65535) HT_ ?_
 refine done_ (done_of HT_.out (by kernel_rfl)) ?_
 try go_wp2_with (first | ((with_reducible refine gate_builtin (b := .append) (xs := #[.tmp 34, .tmp 36]) rfl ?_); at_builtin; refine Kd.R_append (Kd.int .i64) (w0 := w) w.heap.size rfl (.tmp 34) (.tmp 36) 66 2 (.int .i64 0) 8 rfl Try.underlying66 info2 rfl (by decide) (by omega) u6 Ai Al [.int .i64 Al] (fun _ => True) (fun _ => False) rfl rfl ?aP (fun _ hk => hk.elim) ?aF ?aO ?aB ?aS ?aL ?_; (case aP => exact rfl); (case aB => exact (zBG HB.out AO.out)); (case aF => exact (fun _ _ => trivial)); (case aO => exact (zR AY.out)); (case aS => exact (below_size (zBG HB.out AO.out))); (case aL => have := Au.out; omega); intro BJ BT ho hb hg hat; rw [← Ay.out] at ho; have BB := ak (blk_grown (g := AB) (o := .cells #[.int .i8 AT, .int .i8 AU, .int .u16 AR, .int .u16 AP, .int .u16 AW, .int .u16 Aa, .int .u16 AZ, .int .u16 AV, .int .u16 AS, .int .u16 AQ, .int .u16 AM, .int .u16 AN] 35 (0, 0)) (zK AA.out) hg (Kd.R_ne AY.out AA.out (by decide))); have A8 := ak (hb); have A7 := ak (ho); clear AA HB AY; have AA := BB; have HB := A8; have Ax := A7; clear BB A8 A7; clear ho hb hg hat))
 go_roundg k1
 case measure => have := BG.out; omega
 case rel => exact ⟨(Ar), (wrap64 (AC + 1)), rfl, H', ⟨by have := BG.out; omega⟩, ⟨(zR Ax.out)⟩, ⟨(zK AA.out)⟩, ⟨zBG HB.out AO.out⟩⟩
 }
 · rw [if_neg A3] at H; exact absurd H (by simp)
 }
 {
 rw [if_neg Ap] at H
 have A2 : (Ah == 0) = false := beq_eq_false_iff_ne.mpr Ap
 have Aw : (Ah != 0) = true := bne_iff_ne.mpr Ap
 simp only [Option.some.injEq, Prod.mk.injEq] at H
 obtain ⟨rfl, rfl⟩ := H
 try go_wp2
 replace AY := ak (Kd.R_drew AY.out)
 replace AA := ak (blk_drew AA.out)
 replace HB := ak (below_drew1 HB.out)
 have Af : 0 ≤ ((AX) : Int) := of_decide_eq_true (by assumption)
 have Ad : (AX) < (l1.length : Int) := of_decide_eq_true (by assumption)
 obtain ⟨AL, Aq, AG, AF⟩ := at_T62 A4.out (AX) Af Ad
 have AH := AF
 have AK := AG
 cases Aq
 replace AG := (HB.out.cell (World.block_lt_of_cell? w _ AG)).trans AG
 replace AF := (HB.out.cell (World.block_lt_of_cell? w _ AF)).trans AF
 replace Af := eq_true Af
 replace Ad := eq_true Ad
 have Ae : 0 ≤ (AC : Int) := of_decide_eq_true (by assumption)
 have Ag : AC < (l1.length : Int) := of_decide_eq_true (by assumption)
 obtain ⟨Ak, An, AD, AE⟩ := at_T62 A4.out AC Ae Ag
 have AJ := AE
 have AI := AD
 obtain rfl : AL = Ak := (by injection An)
 replace AD := (HB.out.cell (World.block_lt_of_cell? w _ AD)).trans AD
 replace AE := (HB.out.cell (World.block_lt_of_cell? w _ AE)).trans AE
 replace Ae := eq_true Ae
 replace Ag := eq_true Ag
 refine start_ (n := 16) (S := fun w' => w'.cell? ⟨AB, 0, none⟩ = some (.int .i8 AT) ∧ w'.cell? ⟨AB, 1, none⟩ = some (.int .i8 AU) ∧ w'.cell? ⟨AB, 2, none⟩ = some (.int .u16 AR) ∧ w'.cell? ⟨AB, 3, none⟩ = some (.int .u16 AP) ∧ w'.cell? ⟨AB, 4, none⟩ = some (.int .u16 AW) ∧ w'.cell? ⟨AB, 5, none⟩ = some (.int .u16 Aa) ∧ w'.cell? ⟨AB, 6, none⟩ = some (.int .u16 AZ) ∧ w'.cell? ⟨AB, 7, none⟩ = some (.int .u16 AV) ∧ w'.cell? ⟨AB, 8, none⟩ = some (.int .u16 AS) ∧ w'.cell? ⟨AB, 9, none⟩ = some (.int .u16 AQ) ∧ w'.cell? ⟨AB, 10, none⟩ = some (.int .u16 AM) ∧ w'.cell? ⟨AB, 11, none⟩ = some (.int .u16 AN) ∧ w'.cell? (AL.add (((AX)).toNat * 2)) = some (.int .i8 ((rd_T62 l1 (AX)).f0)) ∧ w'.cell? ⟨(AL.add (((AX)).toNat * 2)).block, (AL.add (((AX)).toNat * 2)).off + 1, none⟩ = some (.int .i8 ((rd_T62 l1 (AX)).f1)) ∧ w'.cell? (AL.add ((AC).toNat * 2)) = some (.int .i8 ((rd_T62 l1 AC).f0)) ∧ w'.cell? ⟨(AL.add ((AC).toNat * 2)).block, (AL.add ((AC).toNat * 2)).off + 1, none⟩ = some (.int .i8 ((rd_T62 l1 AC).f1))) (ds := []) (bA 16 0) (by kernel_rfl) rfl rfl ⟨(blk_cell AA.out 0).trans rfl, (blk_cell AA.out 1).trans rfl, (blk_cell AA.out 2).trans rfl, (blk_cell AA.out 3).trans rfl, (blk_cell AA.out 4).trans rfl, (blk_cell AA.out 5).trans rfl, (blk_cell AA.out 6).trans rfl, (blk_cell AA.out 7).trans rfl, (blk_cell AA.out 8).trans rfl, (blk_cell AA.out 9).trans rfl, (blk_cell AA.out 10).trans rfl, (blk_cell AA.out 11).trans rfl, ((HB.out.cell (World.block_lt_of_cell? w _ AK)).trans AK), ((HB.out.cell (World.block_lt_of_cell? w _ AH)).trans AH), ((HB.out.cell (World.block_lt_of_cell? w _ AI)).trans AI), ((HB.out.cell (World.block_lt_of_cell? w _ AJ)).trans AJ)⟩ (fun hHeld => ?_); refine with_tabW impl_stepsAlong.tab5 impl_stepsAlong.bits5 (fun HT_ HW_ => ?_)
 generalize wr.drew = BO at AY AA HB AG AF AD AE hHeld ⊢
 refine pU 1 19 (bA 16 2) HT_ ?_
 refine pU 2 20 (bA 16 6) HT_ ?_
 refine pU 3 21 (bA 16 14) HT_ ?_
 refine pU 4 22 (bA 16 30) HT_ ?_
 refine pU 6 24 (bA 16 94) HT_ ?_
 refine pU 7 25 (bA 16 222) HT_ ?_
 refine pU 8 26 (bA 16 478) HT_ ?_
 refine tK 0 18 (bA 16 479) HT_ HW_ hHeld ?_
 refine tK 5 23 (bA 16 511) HT_ HW_ hHeld ?_
 refine tK 9 27 (bA 16 1023) HT_ HW_ hHeld ?_
 refine one_ (i := 10) (N := some 28) (bA 16 2047) rfl rfl (one_of HT_.out (by kernel_rfl)) (by decide) (fun K hK => ?_)
 refine goes_ Try.func79 (by kernel_rfl) rfl #[.agg #[.int .i8 AT, .int .i8 AU, .int .u16 AR, .int .u16 AP, .int .u16 AW, .int .u16 Aa, .int .u16 AZ, .int .u16 AV, .int .u16 AS, .int .u16 AQ, .int .u16 AM, .int .u16 AN], .agg #[.int .i8 ((rd_T62 l1 (AX)).f0), .int .i8 ((rd_T62 l1 (AX)).f1)], .agg #[.int .i8 ((rd_T62 l1 AC).f0), .int .i8 ((rd_T62 l1 AC).f1)]] (by rfl) rfl rfl (by (try simp only [List.map_toArray, List.map_cons, List.map_nil]); first | done | (simp only [Aj]; rfl) | rfl | (simp only [List.length_drop, List.length_take]; rfl)) ?_
 with_reducible refine (impl_StepsBetween.calls k1 AT AU AR AP AW Aa AZ AV AS AQ AM AN ((rd_T62 l1 (AX)).f0) ((rd_T62 l1 (AX)).f1) ((rd_T62 l1 AC).f0) ((rd_T62 l1 AC).f1) Al Ah _ BF.out).mono ?_
 rintro e BQ ⟨rfl, hb⟩
 refine ⟨_, rfl, ?_⟩
 replace AY := kR AY hb
 replace AA := kK AA hb
 replace HB := kB1 HB AO hb
 refine hK.out _ _ ⟨(blk_cell AA.out 0).trans rfl, (blk_cell AA.out 1).trans rfl, (blk_cell AA.out 2).trans rfl, (blk_cell AA.out 3).trans rfl, (blk_cell AA.out 4).trans rfl, (blk_cell AA.out 5).trans rfl, (blk_cell AA.out 6).trans rfl, (blk_cell AA.out 7).trans rfl, (blk_cell AA.out 8).trans rfl, (blk_cell AA.out 9).trans rfl, (blk_cell AA.out 10).trans rfl, (blk_cell AA.out 11).trans rfl, ((HB.out.cell (World.block_lt_of_cell? w _ AK)).trans AK), ((HB.out.cell (World.block_lt_of_cell? w _ AH)).trans AH), ((HB.out.cell (World.block_lt_of_cell? w _ AI)).trans AI), ((HB.out.cell (World.block_lt_of_cell? w _ AJ)).trans AJ)⟩ (fun hHeld => ?_)
 clear hK K
 refine norm_ (a' := ?_) ?_ ?_
 rotate_left
 {
 show Act.put _ (some 28) _ = _
 simp only [Act.put, zs, zz, zk, i64_w, i32_w]
 rfl
 }
 refine pU 11 17 (bA 16 4095) HT_ ?_
 refine pU 12 29 (bA 16 8191) HT_ ?_
 refine pU 13 30 (bA 16 16383) HT_ ?_
 refine pU 14 8 (bA 16 32767) HT_ ?_
 refine pU 15 9 (bA 16 65535) HT_ ?_
 refine done_ (done_of HT_.out (by kernel_rfl)) ?_
 try go_wp2
 go_ret2
 exact ⟨_, by first | rfl | (simp [errW_none, errW_some] <;> rfl) | (simp only [← Aj]; first | rfl | (simp [errW_none, errW_some] <;> rfl)) | (simp [*, errW_none, errW_some] <;> rfl), by first | exact Kd.R_nil _ _ _ _ _ | exact Kd.N_nil _ _ _ _ _ | exact Kd.V_nil _ _ _ _ _ | exact Kd.Q_nil _ _ _ _ _ | exact Kd.S_nil _ _ _ _ _, zBG HB.out AO.out⟩
 }
 }
 · rw [if_neg A5] at H; exact absurd H (by simp)
 }
 · rw [if_neg c9] at H; exact absurd H (by simp)
 }
 · rw [if_neg c8] at H; exact absurd H (by simp)
 }
 {
 rw [if_neg c6] at H
 have A6 : decide (AC < (l1.length : Int)) = false := decide_eq_false c6
 clear c6
 simp only [Option.some.injEq, Prod.mk.injEq] at H
 obtain ⟨rfl, rfl⟩ := H
 go_wp2
 go_ret2
 exact ⟨_, rfl, AY.out, zBG HB.out AO.out⟩
 }
 )
 )
end Go.Proofs.Ytooidjdgfoioiaa.P
