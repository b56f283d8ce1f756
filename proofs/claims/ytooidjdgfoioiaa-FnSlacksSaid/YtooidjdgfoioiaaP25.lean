-- Printed by wip/print (my turned copy of the kit's print) out of the translation; Lean checks it.
import Derived.Test.YtooidjdgfoioiaaP0
import Derived.Test.YtooidjdgfoioiaaP2
import Derived.Test.YtooidjdgfoioiaaP3
import Derived.Test.YtooidjdgfoioiaaP6
namespace Go.Proofs.Ytooidjdgfoioiaa.P
open Go.RowKit Go.Proofs.YtooidjdgfoioiaaW.PrintWords Go.Proofs.YtooidjdgfoioiaaW.PrintLast Go.Proofs.YtooidjdgfoioiaaW.PrintMore
attribute [local go_sem] max2_int min2_int max_two min_two max_three min_three max_four min_four   -- for this text's walks alone
set_option linter.unusedVariables false
set_option linter.unusedSimpArgs false

/-! ### spec_RopeFor: function 8 -/
mutual
def spec_RopeFor.j0 : Nat → List (S62) → Bool → Int → Int → Int → Int → Int → Int → Int → Int → Int → Int → Int → Int → Option (Int × List Int × Int)
  | 0, _, _, _, _, _, _, _, _, _, _, _, _, _, _ => none
  | k + 1, x1, AM, AE, AK, AG, AD, AH, AF, AA, AJ, AI, AL, AB, AC => if AM = true then (some (0, ([] : List Int), 2)) else (spec_RopeFor.l0 k x1 false 0 (([0] : List Int)) 1 AE AK AG AD AH AF AA AJ AI AL AB AC)
def spec_RopeFor.l0 : Nat → List (S62) → Bool → Int → List Int → Int → Int → Int → Int → Int → Int → Int → Int → Int → Int → Int → Int → Int → Option (Int × List Int × Int)
  | 0, _, _, _, _, _, _, _, _, _, _, _, _, _, _, _, _, _ => none
  | k + 1, x1, x6, x7, x8, x9, AC, AK, AD, AI, AE, AM, AG, AH, AF, AL, AB, AJ => if x9 < (x1.length : Int) then (if 0 ≤ (wrap64 (x9 - 1)) then (if (wrap64 (x9 - 1)) < (x1.length : Int) then (if 0 ≤ x9 then ((spec_StepsBetween.f k AC AK AD AI AE AM AG AH AF AL AB AJ ((rd_T62 x1 (wrap64 (x9 - 1))).f0) ((rd_T62 x1 (wrap64 (x9 - 1))).f1) ((rd_T62 x1 x9).f0) ((rd_T62 x1 x9).f1)).bind fun AA => (if AA.2 = 0 then (if x6 = true then (if x8.length < 17592186044416 then (spec_RopeFor.l0 k x1 true (wrap64 (x7 + AA.1)) (x8 ++ [wrap64 (x7 + AA.1)]) (wrap64 (x9 + 1)) AC AK AD AI AE AM AG AH AF AL AB AJ) else (none)) else (if x8.length < 17592186044416 then (spec_RopeFor.l0 k x1 (AA.1 == 0) (wrap64 (x7 + AA.1)) (x8 ++ [wrap64 (x7 + AA.1)]) (wrap64 (x9 + 1)) AC AK AD AI AE AM AG AH AF AL AB AJ) else (none))) else (some (0, ([] : List Int), AA.2)))) else (none)) else (none)) else (none)) else (if x6 = true then (some (0, ([] : List Int), 4)) else (if x7 > 400 then (some (0, ([] : List Int), 3)) else (spec_RopeFor.l1 k x8 0 (IntKind.i16.wrap (x7)) ([] : List Int))))
def spec_RopeFor.l1 : Nat → List Int → Int → Int → List Int → Option (Int × List Int × Int)
  | 0, _, _, _, _ => none
  | k + 1, x8, AC, AB, AA => if AC < (x8.length : Int) then (if 0 ≤ AC then (if AA.length < 70368744177664 then (spec_RopeFor.l1 k x8 (wrap64 (AC + 1)) AB (AA ++ [IntKind.i16.wrap (rd x8 AC)])) else (none)) else (none)) else (some (AB, AA, 0))
end
def spec_RopeFor.f (k : Nat) (AH : Int) (AJ : Int) (AD : Int) (AE : Int) (AG : Int) (AF : Int) (AK : Int) (AI : Int) (AL : Int) (AC : Int) (AB : Int) (AA : Int) (l1 : List (S62)) : Option (Int × List Int × Int) := (spec_l01Ok.f k AH AJ AD AE AG AF AK AI AL AC AB AA).bind fun AM => (if AM = true then (if (l1.length : Int) > 40 then (some (0, ([] : List Int), 3)) else (if (l1.length : Int) < 2 then (spec_RopeFor.j0 k l1 true AH AJ AD AE AG AF AK AI AL AC AB AA) else ((spec_l03Cells.f k AH AJ AD AE AG AF AK AI AL AC AB AA l1).bind fun AN => (spec_RopeFor.j0 k l1 (!AN) AH AJ AD AE AG AF AK AI AL AC AB AA)))) else (some (0, ([] : List Int), 1)))
def spec_RopeFor.T13 : Bool × List (List Nat × List Nat) := (true, [([], []), ([], []), ([], []), ([2], [2]), ([1, 3], [1, 3]), ([4], [4]), ([], []), ([], []), ([6, 7], [6, 7]), ([8], [8]), ([0, 5, 9], [0, 5, 9]), ([10], [10]), ([11], [11]), ([11], [11]), ([12, 10, 0, 1, 2, 3, 4, 5, 6, 7, 8, 9, 10, 11, 12], [12]), ([13, 14, 0, 1, 2, 3, 4, 5, 6, 7, 8, 9, 10, 11, 12, 13, 14], [13])])
def spec_RopeFor.B13 : List Nat := [0, 0, 0, 4, 14, 30, 0, 0, 192, 448, 1023, 2047, 4095, 4095, 8191, 32767]
theorem spec_RopeFor.tab13 : rtab .any (opsOf Try.f8 13) = spec_RopeFor.T13 := by kernel_rfl
theorem spec_RopeFor.bits13 : waitsOk spec_RopeFor.T13.2 spec_RopeFor.B13 = true := by kernel_rfl
def spec_RopeFor.T27 : Bool × List (List Nat × List Nat) := (true, [([], []), ([0], [0]), ([], []), ([], []), ([2, 3], [2, 3]), ([4], [4]), ([5], [5]), ([6], [6]), ([1, 7], [1, 7]), ([0, 1, 2, 3, 4, 5, 6, 7, 8], []), ([9, 8, 8, 0, 1, 2, 3, 4, 5, 6, 7, 8], [8, 9])])
def spec_RopeFor.B27 : List Nat := [0, 1, 0, 0, 12, 28, 60, 124, 255, 511, 1023]
theorem spec_RopeFor.tab27 : rtab .any (opsOf Try.f8 27) = spec_RopeFor.T27 := by kernel_rfl
theorem spec_RopeFor.bits27 : waitsOk spec_RopeFor.T27.2 spec_RopeFor.B27 = true := by kernel_rfl
set_option maxHeartbeats 8000000 in
set_option maxRecDepth 100000 in
theorem spec_RopeFor.calls (k : Nat) (A6 : Int) (Az : Int) (Av : Int) (Au : Int) (A0 : Int) (A2 : Int) (Aw : Int) (A7 : Int) (Ay : Int) (A4 : Int) (As : Int) (Ap : Int) (A1 : Option Addr) (c1 : Nat) (l1 : List (S62)) (r1 : Int) (r2 : List Int) (r3 : Int) (w : World) (DV : Kd.C k62 w A1 l1.length l1) (Di : l1.length ≤ c1) (h : spec_RopeFor.f k A6 Az Av Au A0 A2 Aw A7 Ay A4 As Ap l1 = some (r1, r2, r3)) :
    Calls Try.prog 8 #[.agg #[.int .i8 A6, .int .i8 Az, .int .u16 Av, .int .u16 Au, .int .u16 A0, .int .u16 A2, .int .u16 Aw, .int .u16 A7, .int .u16 Ay, .int .u16 A4, .int .u16 As, .int .u16 Ap], .slice A1 l1.length c1] w fun e w' => ∃ v1_ : Value, e = .returned (.tuple #[.agg #[.int .i16 r1, v1_], .int .i64 r3]) ∧ Kd.R (Kd.int .i16) 29 w' w.heap.size (fun _ => True) v1_ r2 ∧ Below w.heap.size w w' := by
 have D9 := Try.underlying35
 have EA := Try.underlying32
 have Dz := Try.underlying62
 have Bo := ak DV
 have D1 := ak Di
 clear DV Di
 have HB := ak (Below.refl w.heap.size w)
 have H := h
 unfold spec_RopeFor.f at H
 clear h
 replace H := Option.bind_eq_some_iff.mp H
 obtain ⟨DI, Dd, H⟩ := H
 have A3 := ak Dd
 clear Dd
 by_cases c4 : DI = true
 {
 subst c4
 rw [if_pos rfl] at H
 by_cases c5 : (l1.length : Int) > 40
 {
 rw [if_pos c5] at H
 have Bn : decide (40 < (l1.length : Int)) = true := decide_eq_true c5
 have Bs : decide (40 < l1.length) = true := decide_eq_true (by omega)
 clear c5
 simp only [Option.some.injEq, Prod.mk.injEq] at H
 obtain ⟨rfl, rfl, rfl⟩ := H
 go_enter Try.func8, Try.ntmps8
 go_wp2_with (first | ((with_reducible refine gate_dst (N := 2) rfl ?_); refine box_event ?hg (N := 2) ?hd (cs := #[.int .i8 A6, .int .i8 Az, .int .u16 Av, .int .u16 Au, .int .u16 A0, .int .u16 A2, .int .u16 Aw, .int .u16 A7, .int .u16 Ay, .int .u16 A4, .int .u16 As, .int .u16 Ap]) (t := 35) ?hr ?_; (case hd => rfl); (case hg => rfl); (case hr => first | (go_simp; done) | (go_simp; rfl)); intro AC hg w6 hbox hb; have AA := ak (hbox); have Bc := gS HB hg; have AP := gS HB hg; replace HB := kB HB hb; clear hb hbox hg) | ((with_reducible refine gate_dst (N := 4) rfl ?_); refine box_event ?hg (N := 4) ?hd (cs := #[.int .i16 0, .slice none 0 0]) (t := 32) ?hr ?_; (case hd => rfl); (case hg => rfl); (case hr => first | (go_simp; done) | (go_simp; rfl)); intro AT hg w7 hbox hb; have AB := ak (hbox); have Bf := gS1 HB AP hg; have AS := gS1 HB AP hg; have Ai := nL AA hg; have Ah := nG AA hg; replace AA := kK AA hb; replace HB := kB1 HB AP hb; clear hb hbox hg) | ((with_reducible refine gate_callee (f := 40) rfl ?_); refine goesL_ (some 14) rfl rfl Try.func40 (by kernel_rfl) rfl #[.pointer (some ⟨AC, 0, none⟩)] rfl gl_ ?_; (with_reducible refine (spec_l01Ok.calls k AC A6 Az Av Au A0 A2 Aw A7 Ay A4 As Ap true _ ?side1 A3.out).mono ?_); (case side1 => exact (zK AA.out)); rintro e w' ⟨rfl, ⟨nd, rfl⟩⟩; refine ⟨_, rfl, ?_⟩; (try (rw [drewN_self w7]; generalize BX : World.drewN w7 _ = w7; have BS : Aside0 (w7.heap[AC]? = some (.cells #[.int .i8 A6, .int .i8 Az, .int .u16 Av, .int .u16 Au, .int .u16 A0, .int .u16 A2, .int .u16 Aw, .int .u16 A7, .int .u16 Ay, .int .u16 A4, .int .u16 As, .int .u16 Ap] 35 (0, 0))) := ⟨by rw [← BX]; exact (zK AA.out)⟩; have BP : Aside0 (w7.heap[AT]? = some (.cells #[.int .i16 0, .slice none 0 0] 32 (0, 0))) := ⟨by rw [← BX]; exact (zK AB.out)⟩; have BR : Aside0 (Below w.heap.size w w7) := ⟨by rw [← BX]; exact (zH2 HB AP AS)⟩; clear AA AB HB BX; have AA := BS; have AB := BP; have HB := BR; clear BS BP BR)); have D0 := Ah.out; have Dp := Ai.out; obtain ⟨DF, DB, DC, DD⟩ := cz2 w7 AB))
 refine bodyPost_ret (results_ct rfl _ _ AT 32 #[.int .i16 0, .slice none 0 0] (0, 0) _ rfl (by refine blk_put (cs := #[.int .i16 0, .slice none 0 0]) ?_ 1 _ rfl; refine blk_put (cs := #[.int .i16 0, .slice none 0 0]) ?_ 0 _ rfl; exact AB.out) Try.underlying32 rfl (by kernel_rfl)) rfl ?_
 exact ⟨_, rfl, by first | exact Kd.R_nil _ _ _ _ _ | exact Kd.N_nil _ _ _ _ _ | exact Kd.V_nil _ _ _ _ _ | exact Kd.Q_nil _ _ _ _ _ | exact Kd.S_nil _ _ _ _ _, zH2 HB AP AS⟩
 }
 {
 rw [if_neg c5] at H
 have Bn : decide (40 < (l1.length : Int)) = false := decide_eq_false c5
 have Bs : decide (40 < l1.length) = false := decide_eq_false (by omega)
 clear c5
 have Bj := ak H
 clear H
 go_enter Try.func8, Try.ntmps8
 go_upto_region 5 with (first | ((with_reducible refine gate_dst (N := 2) rfl ?_); refine box_event ?hg (N := 2) ?hd (cs := #[.int .i8 A6, .int .i8 Az, .int .u16 Av, .int .u16 Au, .int .u16 A0, .int .u16 A2, .int .u16 Aw, .int .u16 A7, .int .u16 Ay, .int .u16 A4, .int .u16 As, .int .u16 Ap]) (t := 35) ?hr ?_; (case hd => rfl); (case hg => rfl); (case hr => first | (go_simp; done) | (go_simp; rfl)); intro AC hg EC hbox hb; have AA := ak (hbox); have Bc := gS HB hg; have AP := gS HB hg; replace HB := kB HB hb; clear hb hbox hg) | ((with_reducible refine gate_dst (N := 4) rfl ?_); refine box_event ?hg (N := 4) ?hd (cs := #[.int .i16 0, .slice none 0 0]) (t := 32) ?hr ?_; (case hd => rfl); (case hg => rfl); (case hr => first | (go_simp; done) | (go_simp; rfl)); intro AT hg EJ hbox hb; have AB := ak (hbox); have Bf := gS1 HB AP hg; have AS := gS1 HB AP hg; have Ai := nL AA hg; have Ah := nG AA hg; replace AA := kK AA hb; replace HB := kB1 HB AP hb; clear hb hbox hg) | ((with_reducible refine gate_callee (f := 40) rfl ?_); refine goesL_ (some 14) rfl rfl Try.func40 (by kernel_rfl) rfl #[.pointer (some ⟨AC, 0, none⟩)] rfl gl_ ?_; (with_reducible refine (spec_l01Ok.calls k AC A6 Az Av Au A0 A2 Aw A7 Ay A4 As Ap true _ ?side1 A3.out).mono ?_); (case side1 => exact (zK AA.out)); rintro e w' ⟨rfl, ⟨nd, rfl⟩⟩; refine ⟨_, rfl, ?_⟩))
 (try simp only [Act.put, zs, zz, zk])
 go_cut [28] (fun D3 wc => ∃ (kq : Nat) (BN : Bool) (AK : Int) (AI : Int) (AJ : Int) (AL : Int) (AF : Int) (AE : Int) (AD : Int) (AN : Int) (AH : Int) (AO : Int) (AG : Int) (AM : Int), D3 = .bool BN ∧ Aside0 (spec_RopeFor.j0 kq l1 BN AK AI AJ AL AF AE AD AN AH AO AG AM = some (r1, r2, r3)) ∧ Aside0 (kq ≤ k) ∧ Aside0 (wc.heap[AC]? = some (.cells #[.int .i8 AK, .int .i8 AI, .int .u16 AJ, .int .u16 AL, .int .u16 AF, .int .u16 AE, .int .u16 AD, .int .u16 AN, .int .u16 AH, .int .u16 AO, .int .u16 AG, .int .u16 AM] 35 (0, 0))) ∧ Aside0 (wc.heap[AT]? = some (.cells #[.int .i16 0, (.slice none 0 0)] 32 (0, 0))) ∧ Aside0 (Below w.heap.size w wc))
 case first => (
 have H := Bj.out
 clear Bj
 by_cases Bw : (l1.length : Int) < 2
 {
 rw [if_pos Bw] at H
 have BD : decide ((l1.length : Int) < 2) = true := decide_eq_true Bw
 have CA : decide (l1.length < 2) = true := decide_eq_true (by omega)
 clear Bw
 (first | rw [BD] | (simp only [i64_w, i32_w]; rw [BD]) | skip)
 have H' := ak H
 clear H
 go_wp2
 go_meet
 case rel => exact ⟨_, (true), (A6), (Az), (Av), (Au), (A0), (A2), (Aw), (A7), (Ay), (A4), (As), (Ap), rfl, H', ⟨by omega⟩, ⟨(zK AA.out)⟩, ⟨(zK AB.out)⟩, ⟨zH2 HB AP AS⟩⟩
 }
 {
 rw [if_neg Bw] at H
 have BD : decide ((l1.length : Int) < 2) = false := decide_eq_false Bw
 have CA : decide (l1.length < 2) = false := decide_eq_false (by omega)
 clear Bw
 (first | rw [BD] | (simp only [i64_w, i32_w]; rw [BD]) | skip)
 replace H := Option.bind_eq_some_iff.mp H
 obtain ⟨CB, CN, H⟩ := H
 have Ds := ak CN
 clear CN
 have H' := ak H
 clear H
 go_wp2_with (first | (go_at_call 41; (with_reducible refine (spec_l03Cells.calls k AC A6 Az Av Au A0 A2 Aw A7 Ay A4 As Ap _ _ l1 CB _ ?side1 ?side2 ?side3 Ds.out).mono ?_); (case side1 => exact sQ (Kd.C_below Bo.out HB.out)); (case side2 => exact D1.out); (case side3 => exact (zK AA.out)); rintro e EF ⟨rfl, hb⟩; replace AA := kK AA hb; replace AB := kK AB hb; replace HB := kB2 HB AP AS hb; (try clear hb)))
 go_meet
 case rel => exact ⟨_, (!CB), (A6), (Az), (Av), (Au), (A0), (A2), (Aw), (A7), (Ay), (A4), (As), (Ap), rfl, H', ⟨by omega⟩, ⟨(zK AA.out)⟩, ⟨(zK AB.out)⟩, ⟨zH2 HB AP AS⟩⟩
 }
 )
 case rest => (
 clear Bj
 obtain ⟨kq, BN, AK, AI, AJ, AL, AF, AE, AD, AN, AH, AO, AG, AM, rfl, HA, Bu, AA, AB, HB⟩ := hcut
 cases kq with
 | zero => exact absurd HA.out (by simp [spec_RopeFor.j0])
 | succ DJ => (
 have H := HA.out
 clear HA
 simp only [spec_RopeFor.j0] at H
 by_cases CS : BN = true
 {
 subst CS
 rw [if_pos rfl] at H
 simp only [Option.some.injEq, Prod.mk.injEq] at H
 obtain ⟨rfl, rfl, rfl⟩ := H
 have DY := Ah.out
 have DZ := Ai.out
 have Ce : wc.cell? ⟨AT, 0, none⟩ = some (.int .i16 0) := (blk_cell AB.out 0).trans rfl
 have C4 : wc.cell? ⟨AT, 1, none⟩ = some (.slice none 0 0) := (blk_cell AB.out 1).trans rfl
 have Cz := blk_frozen AB.out 0
 have Ct := blk_frozen AB.out 1
 go_wp2
 refine bodyPost_ret (results_ct rfl _ _ AT 32 #[.int .i16 0, .slice none 0 0] (0, 0) _ rfl (by refine blk_put (cs := #[.int .i16 0, .slice none 0 0]) ?_ 1 _ rfl; refine blk_put (cs := #[.int .i16 0, .slice none 0 0]) ?_ 0 _ rfl; exact AB.out) Try.underlying32 rfl (by kernel_rfl)) rfl ?_
 exact ⟨_, rfl, by first | exact Kd.R_nil _ _ _ _ _ | exact Kd.N_nil _ _ _ _ _ | exact Kd.V_nil _ _ _ _ _ | exact Kd.Q_nil _ _ _ _ _ | exact Kd.S_nil _ _ _ _ _, zH2 HB AP AS⟩
 }
 {
 replace CS := Bool.eq_false_iff.mpr CS
 subst CS
 rw [if_neg (show ¬ (false = true) by decide)] at H
 obtain ⟨CO, BF⟩ : ∃ y_ : List Int, y_ = (([0] : List Int)) := ⟨_, rfl⟩
 replace H : (spec_RopeFor.l0 DJ l1 false 0 CO 1 AK AI AJ AL AF AE AD AN AH AO AG AM) = some (r1, r2, r3) := by first | (rw [BF]; with_reducible exact H) | (have BL := (Option.bind_some _ _).symm.trans H; rw [BF]; with_reducible exact BL) | (have BL := (Option.bind_some _ _).symm.trans H; with_reducible exact BL) | with_reducible exact H | (rw [BF]; exact H) | exact H
 have Bg := ak BF
 clear BF
 have H' := ak H
 clear H
 go_wp2_with (first | ((with_reducible refine gate_dst (N := 30) rfl ?_); refine Kd.R_lit (Kd.int .i64) _ 2 ?hg (N := 30) ?hd (xs := ([0] : List Int)) (inner := [.int .i64 0]) (ok := fun _ => True) (okp := fun _ => True) ?hr ?hp (fun _ hk => hk) trivial (Below.refl _ _) (Nat.le_refl _) (by simp) ?_; (case hd => rfl); (case hg => rfl); (case hr => first | (go_simp; done) | (go_simp; rfl)); (case hp => exact (Reps.one (show Kd.M (Kd.int .i64) _ _ _ 0 [.int .i64 0] from rfl) (Reps.none _ _))); intro D7 EN BT hb D6 CC; clear D6 CC; (first | rw [← Bg.out] at BT | (simp only [Int.reduceToNat] at BT; rw [← Bg.out] at BT)); have CR := ak (Kd.R_lower BT (below_size (zH2 HB AP AS))); replace AA := kK AA hb; replace AB := kK AB hb; replace HB := kB2 HB AP AS hb; clear hb BT))
 go_loopg [6, 7, 8, 9] DJ (fun kq v6 v7 v8 v9 w' => ∃ (BU : Bool) (Ak : Int) (Ar : List Int) (AR : Int) (AQ : Int), v6 = .bool BU ∧ v7 = .int .i64 Ak ∧ v9 = .int .i64 AR ∧ Aside0 (spec_RopeFor.l0 kq l1 BU Ak Ar AR AK AI AJ AL AF AE AD AN AH AO AG AM = some (r1, r2, r3)) ∧ Aside0 (kq ≤ DJ) ∧ Aside0 (Kd.R (Kd.int .i64) 2 w' w.heap.size (fun _ => True) v8 Ar) ∧ Aside0 (w'.heap[AC]? = some (.cells #[.int .i8 AK, .int .i8 AI, .int .u16 AJ, .int .u16 AL, .int .u16 AF, .int .u16 AE, .int .u16 AD, .int .u16 AN, .int .u16 AH, .int .u16 AO, .int .u16 AG, .int .u16 AM] 35 (0, 0))) ∧ Aside0 (w'.heap[AT]? = some (.cells #[.int .i16 AQ, (.slice none 0 0)] 32 (0, 0))) ∧ Aside0 (Below w.heap.size w w'))
 case atStart => exact ⟨(false), (0), (CO), (1), (0), rfl, rfl, rfl, H', ⟨Nat.le_refl _⟩, ⟨(zR CR.out)⟩, ⟨(zK AA.out)⟩, ⟨(zK AB.out)⟩, ⟨zH2 HB AP AS⟩⟩
 case round => (
 clear H'
 obtain ⟨BU, Ak, Ar, AR, AQ, rfl, rfl, rfl, HA, Bv, Ae, AA, AB, HB⟩ := hrel
 cases gk with
 | zero => exact absurd HA.out (by simp [spec_RopeFor.l0])
 | succ k2 => (
 have H := HA.out
 clear HA
 simp only [spec_RopeFor.l0] at H
 by_cases Bk : AR < (l1.length : Int)
 {
 rw [if_pos Bk] at H
 have Bd : decide (AR < (l1.length : Int)) = true := decide_eq_true Bk
 clear Bk
 obtain ⟨AY, BC⟩ : ∃ j_ : Int, (wrap64 (AR - 1)) = j_ := ⟨_, rfl⟩
 first | rw [BC] at H | simp only [BC] at H
 have DA : (IntKind.i64.wrap (AR - 1)) = AY := (i64_w _).trans BC
 by_cases C6 : 0 ≤ (AY)
 {
 rw [if_pos C6] at H
 have DM : decide (0 ≤ (AY)) = true := decide_eq_true C6
 clear C6
 by_cases Cl : (AY) < (l1.length : Int)
 {
 rw [if_pos Cl] at H
 have De : decide ((AY) < (l1.length : Int)) = true := decide_eq_true Cl
 clear Cl
 by_cases Ck : 0 ≤ AR
 {
 rw [if_pos Ck] at H
 have DS : decide (0 ≤ AR) = true := decide_eq_true Ck
 clear Ck
 replace H := Option.bind_eq_some_iff.mp H
 obtain ⟨⟨At, BG⟩, CD, H⟩ := H
 have DG := ak CD
 clear CD
 by_cases Bh : BG = 0
 {
 rw [if_pos Bh] at H
 have CG : (BG == 0) = true := beq_iff_eq.mpr Bh
 have B8 : (BG != 0) = false := bne_eq_false_iff_eq.mpr Bh
 clear Bh
 by_cases Cb : BU = true
 {
 subst Cb
 rw [if_pos rfl] at H
 by_cases CU : Ar.length < 17592186044416
 {
 rw [if_pos CU] at H
 have CQ := ak CU
 clear CU
 obtain ⟨CK, BK⟩ : ∃ y_ : List Int, y_ = (Ar ++ [wrap64 (Ak + At)]) := ⟨_, rfl⟩
 replace H : (spec_RopeFor.l0 k2 l1 true (wrap64 (Ak + At)) CK (wrap64 (AR + 1)) AK AI AJ AL AF AE AD AN AH AO AG AM) = some (r1, r2, r3) := by first | (rw [BK]; with_reducible exact H) | (have BL := (Option.bind_some _ _).symm.trans H; rw [BK]; with_reducible exact BL) | (have BL := (Option.bind_some _ _).symm.trans H; with_reducible exact BL) | with_reducible exact H | (rw [BK]; exact H) | exact H
 have B3 := ak BK
 clear BK
 have H' := ak H
 clear H
 try go_wp2
 replace Ae := ak (Kd.R_drew Ae.out)
 replace AA := ak (blk_drew AA.out)
 replace AB := ak (blk_drew AB.out)
 replace HB := ak (below_drew1 HB.out)
 have BA : 0 ≤ ((AY) : Int) := of_decide_eq_true (by assumption)
 have A8 : (AY) < (l1.length : Int) := of_decide_eq_true (by assumption)
 obtain ⟨Ag, BO, AX, AV⟩ := at_T62 Bo.out (AY) BA A8
 have Ab := AV
 have Aa := AX
 cases BO
 replace AX := (HB.out.cell (World.block_lt_of_cell? w _ AX)).trans AX
 replace AV := (HB.out.cell (World.block_lt_of_cell? w _ AV)).trans AV
 replace BA := eq_true BA
 replace A8 := eq_true A8
 have BB : 0 ≤ (AR : Int) := of_decide_eq_true (by assumption)
 have A9 : AR < (l1.length : Int) := of_decide_eq_true (by assumption)
 obtain ⟨BI, BQ, AU, AW⟩ := at_T62 Bo.out AR BB A9
 have Ac := AW
 have Ad := AU
 obtain rfl : Ag = BI := (by injection BQ)
 replace AU := (HB.out.cell (World.block_lt_of_cell? w _ AU)).trans AU
 replace AW := (HB.out.cell (World.block_lt_of_cell? w _ AW)).trans AW
 replace BB := eq_true BB
 replace A9 := eq_true A9
 refine start_ (n := 16) (S := fun w' => w'.cell? ⟨AC, 0, none⟩ = some (.int .i8 AK) ∧ w'.cell? ⟨AC, 1, none⟩ = some (.int .i8 AI) ∧ w'.cell? ⟨AC, 2, none⟩ = some (.int .u16 AJ) ∧ w'.cell? ⟨AC, 3, none⟩ = some (.int .u16 AL) ∧ w'.cell? ⟨AC, 4, none⟩ = some (.int .u16 AF) ∧ w'.cell? ⟨AC, 5, none⟩ = some (.int .u16 AE) ∧ w'.cell? ⟨AC, 6, none⟩ = some (.int .u16 AD) ∧ w'.cell? ⟨AC, 7, none⟩ = some (.int .u16 AN) ∧ w'.cell? ⟨AC, 8, none⟩ = some (.int .u16 AH) ∧ w'.cell? ⟨AC, 9, none⟩ = some (.int .u16 AO) ∧ w'.cell? ⟨AC, 10, none⟩ = some (.int .u16 AG) ∧ w'.cell? ⟨AC, 11, none⟩ = some (.int .u16 AM) ∧ w'.cell? (Ag.add (((AY)).toNat * 2)) = some (.int .i8 ((rd_T62 l1 (AY)).f0)) ∧ w'.cell? ⟨(Ag.add (((AY)).toNat * 2)).block, (Ag.add (((AY)).toNat * 2)).off + 1, none⟩ = some (.int .i8 ((rd_T62 l1 (AY)).f1)) ∧ w'.cell? (Ag.add ((AR).toNat * 2)) = some (.int .i8 ((rd_T62 l1 AR).f0)) ∧ w'.cell? ⟨(Ag.add ((AR).toNat * 2)).block, (Ag.add ((AR).toNat * 2)).off + 1, none⟩ = some (.int .i8 ((rd_T62 l1 AR).f1))) (ds := []) (bA 16 0) (by kernel_rfl) rfl rfl ⟨(blk_cell AA.out 0).trans rfl, (blk_cell AA.out 1).trans rfl, (blk_cell AA.out 2).trans rfl, (blk_cell AA.out 3).trans rfl, (blk_cell AA.out 4).trans rfl, (blk_cell AA.out 5).trans rfl, (blk_cell AA.out 6).trans rfl, (blk_cell AA.out 7).trans rfl, (blk_cell AA.out 8).trans rfl, (blk_cell AA.out 9).trans rfl, (blk_cell AA.out 10).trans rfl, (blk_cell AA.out 11).trans rfl, ((HB.out.cell (World.block_lt_of_cell? w _ Aa)).trans Aa), ((HB.out.cell (World.block_lt_of_cell? w _ Ab)).trans Ab), ((HB.out.cell (World.block_lt_of_cell? w _ Ad)).trans Ad), ((HB.out.cell (World.block_lt_of_cell? w _ Ac)).trans Ac)⟩ (fun hHeld => ?_); refine with_tabW spec_RopeFor.tab13 spec_RopeFor.bits13 (fun HT_ HW_ => ?_)
 generalize wr.drew = EG at Ae AA AB HB AX AV AU AW hHeld ⊢
 refine pU 1 39 (bA 16 2) HT_ ?_
 refine pU 2 40 (bA 16 6) HT_ ?_
 refine pU 3 41 (bA 16 14) HT_ ?_
 refine pU 4 42 (bA 16 30) HT_ ?_
 refine pU 6 44 (bA 16 94) HT_ ?_
 refine pU 7 45 (bA 16 222) HT_ ?_
 refine pU 8 46 (bA 16 478) HT_ ?_
 refine tK 0 38 (bA 16 479) HT_ HW_ hHeld ?_
 refine tK 5 43 (bA 16 511) HT_ HW_ hHeld ?_
 refine tK 9 47 (bA 16 1023) HT_ HW_ hHeld ?_
 refine one_ (i := 10) (N := some 48) (bA 16 2047) rfl rfl (one_of HT_.out (by kernel_rfl)) (by decide) (fun K hK => ?_)
 refine goes_ Try.func42 (by kernel_rfl) rfl #[.agg #[.int .i8 AK, .int .i8 AI, .int .u16 AJ, .int .u16 AL, .int .u16 AF, .int .u16 AE, .int .u16 AD, .int .u16 AN, .int .u16 AH, .int .u16 AO, .int .u16 AG, .int .u16 AM], .agg #[.int .i8 ((rd_T62 l1 (AY)).f0), .int .i8 ((rd_T62 l1 (AY)).f1)], .agg #[.int .i8 ((rd_T62 l1 AR).f0), .int .i8 ((rd_T62 l1 AR).f1)]] (by rfl) rfl rfl (by (try simp only [List.map_toArray, List.map_cons, List.map_nil]); first | done | (simp only [BC]; rfl) | rfl | (simp only [List.length_drop, List.length_take]; rfl)) ?_
 with_reducible refine (spec_StepsBetween.calls k2 AK AI AJ AL AF AE AD AN AH AO AG AM ((rd_T62 l1 (AY)).f0) ((rd_T62 l1 (AY)).f1) ((rd_T62 l1 AR).f0) ((rd_T62 l1 AR).f1) At BG _ DG.out).mono ?_
 rintro e ED ⟨rfl, hb⟩
 refine ⟨_, rfl, ?_⟩
 replace Ae := kR Ae hb
 replace AA := kK AA hb
 replace AB := kK AB hb
 replace HB := kB2 HB AP AS hb
 refine hK.out _ _ ⟨(blk_cell AA.out 0).trans rfl, (blk_cell AA.out 1).trans rfl, (blk_cell AA.out 2).trans rfl, (blk_cell AA.out 3).trans rfl, (blk_cell AA.out 4).trans rfl, (blk_cell AA.out 5).trans rfl, (blk_cell AA.out 6).trans rfl, (blk_cell AA.out 7).trans rfl, (blk_cell AA.out 8).trans rfl, (blk_cell AA.out 9).trans rfl, (blk_cell AA.out 10).trans rfl, (blk_cell AA.out 11).trans rfl, ((HB.out.cell (World.block_lt_of_cell? w _ Aa)).trans Aa), ((HB.out.cell (World.block_lt_of_cell? w _ Ab)).trans Ab), ((HB.out.cell (World.block_lt_of_cell? w _ Ad)).trans Ad), ((HB.out.cell (World.block_lt_of_cell? w _ Ac)).trans Ac)⟩ (fun hHeld => ?_)
 clear hK K
 refine norm_ (a' := ?_) ?_ ?_
 rotate_left
 {
 show Act.put _ (some 48) _ = _
 simp only [Act.put, zs, zz, zk, i64_w, i32_w]
 rfl
 }
 refine pU 11 37 (bA 16 4095) HT_ ?_
 refine pU 12 49 (bA 16 8191) HT_ ?_
 refine pU 13 50 (bA 16 16383) HT_ ?_
 refine pU 14 10 (bA 16 32767) HT_ ?_
 refine pU 15 11 (bA 16 65535) HT_ ?_
 refine done_ (done_of HT_.out (by kernel_rfl)) ?_
 try go_wp2_with (first | ((with_reducible refine gate_builtin (b := .append) (xs := #[.tmp 63, .tmp 65]) rfl ?_); at_builtin; refine Kd.R_append (Kd.int .i64) (w0 := w) w.heap.size rfl (.tmp 63) (.tmp 65) 66 2 (.int .i64 0) 8 rfl Try.underlying66 info2 rfl (by decide) (by omega) u8 Ar (wrap64 (Ak + At)) [.int .i64 (wrap64 (Ak + At))] (fun _ => True) (fun _ => False) rfl rfl ?aP (fun _ hk => hk.elim) ?aF ?aO ?aB ?aS ?aL ?_; (case aP => exact rfl); (case aB => exact (zH2 HB AP AS)); (case aF => exact (fun _ _ => trivial)); (case aO => exact (zR Ae.out)); (case aS => exact (below_size (zH2 HB AP AS))); (case aL => have := CQ.out; omega); intro EB EM ho hb hg hat; rw [← B3.out] at ho; have BS := ak (blk_grown (g := AC) (o := .cells #[.int .i8 AK, .int .i8 AI, .int .u16 AJ, .int .u16 AL, .int .u16 AF, .int .u16 AE, .int .u16 AD, .int .u16 AN, .int .u16 AH, .int .u16 AO, .int .u16 AG, .int .u16 AM] 35 (0, 0)) (zK AA.out) hg (Kd.R_ne Ae.out AA.out (by decide))); have BP := ak (blk_grown (g := AT) (o := .cells #[.int .i16 AQ, .slice none 0 0] 32 (0, 0)) (zK AB.out) hg (Kd.R_ne Ae.out AB.out (by decide))); have BR := ak (hb); have CP := ak (ho); clear AA AB HB Ae; have AA := BS; have AB := BP; have HB := BR; have CH := CP; clear BS BP BR CP; clear ho hb hg hat))
 go_roundg k2
 case measure => have := Bu.out; have := Bv.out; omega
 case rel => exact ⟨(true), (wrap64 (Ak + At)), (CK), (wrap64 (AR + 1)), (AQ), rfl, rfl, rfl, H', ⟨by have := Bu.out; have := Bv.out; omega⟩, ⟨(zR CH.out)⟩, ⟨(zK AA.out)⟩, ⟨(zK AB.out)⟩, ⟨zH2 HB AP AS⟩⟩
 }
 · rw [if_neg CU] at H; exact absurd H (by simp)
 }
 {
 replace Cb := Bool.eq_false_iff.mpr Cb
 subst Cb
 rw [if_neg (show ¬ (false = true) by decide)] at H
 by_cases Cm : Ar.length < 17592186044416
 {
 rw [if_pos Cm] at H
 have CE := ak Cm
 clear Cm
 obtain ⟨CI, BJ⟩ : ∃ y_ : List Int, y_ = (Ar ++ [wrap64 (Ak + At)]) := ⟨_, rfl⟩
 replace H : (spec_RopeFor.l0 k2 l1 (At == 0) (wrap64 (Ak + At)) CI (wrap64 (AR + 1)) AK AI AJ AL AF AE AD AN AH AO AG AM) = some (r1, r2, r3) := by first | (rw [BJ]; with_reducible exact H) | (have BL := (Option.bind_some _ _).symm.trans H; rw [BJ]; with_reducible exact BL) | (have BL := (Option.bind_some _ _).symm.trans H; with_reducible exact BL) | with_reducible exact H | (rw [BJ]; exact H) | exact H
 have B9 := ak BJ
 clear BJ
 have H' := ak H
 clear H
 try go_wp2
 replace Ae := ak (Kd.R_drew Ae.out)
 replace AA := ak (blk_drew AA.out)
 replace AB := ak (blk_drew AB.out)
 replace HB := ak (below_drew1 HB.out)
 have BA : 0 ≤ ((AY) : Int) := of_decide_eq_true (by assumption)
 have A8 : (AY) < (l1.length : Int) := of_decide_eq_true (by assumption)
 obtain ⟨Ag, BO, AX, AV⟩ := at_T62 Bo.out (AY) BA A8
 have Ab := AV
 have Aa := AX
 cases BO
 replace AX := (HB.out.cell (World.block_lt_of_cell? w _ AX)).trans AX
 replace AV := (HB.out.cell (World.block_lt_of_cell? w _ AV)).trans AV
 replace BA := eq_true BA
 replace A8 := eq_true A8
 have BB : 0 ≤ (AR : Int) := of_decide_eq_true (by assumption)
 have A9 : AR < (l1.length : Int) := of_decide_eq_true (by assumption)
 obtain ⟨BI, BQ, AU, AW⟩ := at_T62 Bo.out AR BB A9
 have Ac := AW
 have Ad := AU
 obtain rfl : Ag = BI := (by injection BQ)
 replace AU := (HB.out.cell (World.block_lt_of_cell? w _ AU)).trans AU
 replace AW := (HB.out.cell (World.block_lt_of_cell? w _ AW)).trans AW
 replace BB := eq_true BB
 replace A9 := eq_true A9
 refine start_ (n := 16) (S := fun w' => w'.cell? ⟨AC, 0, none⟩ = some (.int .i8 AK) ∧ w'.cell? ⟨AC, 1, none⟩ = some (.int .i8 AI) ∧ w'.cell? ⟨AC, 2, none⟩ = some (.int .u16 AJ) ∧ w'.cell? ⟨AC, 3, none⟩ = some (.int .u16 AL) ∧ w'.cell? ⟨AC, 4, none⟩ = some (.int .u16 AF) ∧ w'.cell? ⟨AC, 5, none⟩ = some (.int .u16 AE) ∧ w'.cell? ⟨AC, 6, none⟩ = some (.int .u16 AD) ∧ w'.cell? ⟨AC, 7, none⟩ = some (.int .u16 AN) ∧ w'.cell? ⟨AC, 8, none⟩ = some (.int .u16 AH) ∧ w'.cell? ⟨AC, 9, none⟩ = some (.int .u16 AO) ∧ w'.cell? ⟨AC, 10, none⟩ = some (.int .u16 AG) ∧ w'.cell? ⟨AC, 11, none⟩ = some (.int .u16 AM) ∧ w'.cell? (Ag.add (((AY)).toNat * 2)) = some (.int .i8 ((rd_T62 l1 (AY)).f0)) ∧ w'.cell? ⟨(Ag.add (((AY)).toNat * 2)).block, (Ag.add (((AY)).toNat * 2)).off + 1, none⟩ = some (.int .i8 ((rd_T62 l1 (AY)).f1)) ∧ w'.cell? (Ag.add ((AR).toNat * 2)) = some (.int .i8 ((rd_T62 l1 AR).f0)) ∧ w'.cell? ⟨(Ag.add ((AR).toNat * 2)).block, (Ag.add ((AR).toNat * 2)).off + 1, none⟩ = some (.int .i8 ((rd_T62 l1 AR).f1))) (ds := []) (bA 16 0) (by kernel_rfl) rfl rfl ⟨(blk_cell AA.out 0).trans rfl, (blk_cell AA.out 1).trans rfl, (blk_cell AA.out 2).trans rfl, (blk_cell AA.out 3).trans rfl, (blk_cell AA.out 4).trans rfl, (blk_cell AA.out 5).trans rfl, (blk_cell AA.out 6).trans rfl, (blk_cell AA.out 7).trans rfl, (blk_cell AA.out 8).trans rfl, (blk_cell AA.out 9).trans rfl, (blk_cell AA.out 10).trans rfl, (blk_cell AA.out 11).trans rfl, ((HB.out.cell (World.block_lt_of_cell? w _ Aa)).trans Aa), ((HB.out.cell (World.block_lt_of_cell? w _ Ab)).trans Ab), ((HB.out.cell (World.block_lt_of_cell? w _ Ad)).trans Ad), ((HB.out.cell (World.block_lt_of_cell? w _ Ac)).trans Ac)⟩ (fun hHeld => ?_); refine with_tabW spec_RopeFor.tab13 spec_RopeFor.bits13 (fun HT_ HW_ => ?_)
 generalize wr.drew = EH at Ae AA AB HB AX AV AU AW hHeld ⊢
 refine pU 1 39 (bA 16 2) HT_ ?_
 refine pU 2 40 (bA 16 6) HT_ ?_
 refine pU 3 41 (bA 16 14) HT_ ?_
 refine pU 4 42 (bA 16 30) HT_ ?_
 refine pU 6 44 (bA 16 94) HT_ ?_
 refine pU 7 45 (bA 16 222) HT_ ?_
 refine pU 8 46 (bA 16 478) HT_ ?_
 refine tK 0 38 (bA 16 479) HT_ HW_ hHeld ?_
 refine tK 5 43 (bA 16 511) HT_ HW_ hHeld ?_
 refine tK 9 47 (bA 16 1023) HT_ HW_ hHeld ?_
 refine one_ (i := 10) (N := some 48) (bA 16 2047) rfl rfl (one_of HT_.out (by kernel_rfl)) (by decide) (fun K hK => ?_)
 refine goes_ Try.func42 (by kernel_rfl) rfl #[.agg #[.int .i8 AK, .int .i8 AI, .int .u16 AJ, .int .u16 AL, .int .u16 AF, .int .u16 AE, .int .u16 AD, .int .u16 AN, .int .u16 AH, .int .u16 AO, .int .u16 AG, .int .u16 AM], .agg #[.int .i8 ((rd_T62 l1 (AY)).f0), .int .i8 ((rd_T62 l1 (AY)).f1)], .agg #[.int .i8 ((rd_T62 l1 AR).f0), .int .i8 ((rd_T62 l1 AR).f1)]] (by rfl) rfl rfl (by (try simp only [List.map_toArray, List.map_cons, List.map_nil]); first | done | (simp only [BC]; rfl) | rfl | (simp only [List.length_drop, List.length_take]; rfl)) ?_
 with_reducible refine (spec_StepsBetween.calls k2 AK AI AJ AL AF AE AD AN AH AO AG AM ((rd_T62 l1 (AY)).f0) ((rd_T62 l1 (AY)).f1) ((rd_T62 l1 AR).f0) ((rd_T62 l1 AR).f1) At BG _ DG.out).mono ?_
 rintro e EO ⟨rfl, hb⟩
 refine ⟨_, rfl, ?_⟩
 replace Ae := kR Ae hb
 replace AA := kK AA hb
 replace AB := kK AB hb
 replace HB := kB2 HB AP AS hb
 refine hK.out _ _ ⟨(blk_cell AA.out 0).trans rfl, (blk_cell AA.out 1).trans rfl, (blk_cell AA.out 2).trans rfl, (blk_cell AA.out 3).trans rfl, (blk_cell AA.out 4).trans rfl, (blk_cell AA.out 5).trans rfl, (blk_cell AA.out 6).trans rfl, (blk_cell AA.out 7).trans rfl, (blk_cell AA.out 8).trans rfl, (blk_cell AA.out 9).trans rfl, (blk_cell AA.out 10).trans rfl, (blk_cell AA.out 11).trans rfl, ((HB.out.cell (World.block_lt_of_cell? w _ Aa)).trans Aa), ((HB.out.cell (World.block_lt_of_cell? w _ Ab)).trans Ab), ((HB.out.cell (World.block_lt_of_cell? w _ Ad)).trans Ad), ((HB.out.cell (World.block_lt_of_cell? w _ Ac)).trans Ac)⟩ (fun hHeld => ?_)
 clear hK K
 refine norm_ (a' := ?_) ?_ ?_
 rotate_left
 {
 show Act.put _ (some 48) _ = _
 simp only [Act.put, zs, zz, zk, i64_w, i32_w]
 rfl
 }
 refine pU 11 37 (bA 16 4095) HT_ ?_
 refine pU 12 49 (bA 16 8191) HT_ ?_
 refine pU 13 50 (bA 16 16383) HT_ ?_
 refine pU 14 10 (bA 16 32767) HT_ ?_
 refine pU 15 11 (bA 16 65535) HT_ ?_
 refine done_ (done_of HT_.out (by kernel_rfl)) ?_
 try go_wp2_with (first | ((with_reducible refine gate_builtin (b := .append) (xs := #[.tmp 63, .tmp 65]) rfl ?_); at_builtin; refine Kd.R_append (Kd.int .i64) (w0 := w) w.heap.size rfl (.tmp 63) (.tmp 65) 66 2 (.int .i64 0) 8 rfl Try.underlying66 info2 rfl (by decide) (by omega) u8 Ar (wrap64 (Ak + At)) [.int .i64 (wrap64 (Ak + At))] (fun _ => True) (fun _ => False) rfl rfl ?aP (fun _ hk => hk.elim) ?aF ?aO ?aB ?aS ?aL ?_; (case aP => exact rfl); (case aB => exact (zH2 HB AP AS)); (case aF => exact (fun _ _ => trivial)); (case aO => exact (zR Ae.out)); (case aS => exact (below_size (zH2 HB AP AS))); (case aL => have := CE.out; omega); intro Dy EL ho hb hg hat; rw [← B9.out] at ho; have BS := ak (blk_grown (g := AC) (o := .cells #[.int .i8 AK, .int .i8 AI, .int .u16 AJ, .int .u16 AL, .int .u16 AF, .int .u16 AE, .int .u16 AD, .int .u16 AN, .int .u16 AH, .int .u16 AO, .int .u16 AG, .int .u16 AM] 35 (0, 0)) (zK AA.out) hg (Kd.R_ne Ae.out AA.out (by decide))); have BP := ak (blk_grown (g := AT) (o := .cells #[.int .i16 AQ, .slice none 0 0] 32 (0, 0)) (zK AB.out) hg (Kd.R_ne Ae.out AB.out (by decide))); have BR := ak (hb); have CP := ak (ho); clear AA AB HB Ae; have AA := BS; have AB := BP; have HB := BR; have CM := CP; clear BS BP BR CP; clear ho hb hg hat))
 go_roundg k2
 case measure => have := Bu.out; have := Bv.out; omega
 case rel => exact ⟨((At == 0)), (wrap64 (Ak + At)), (CI), (wrap64 (AR + 1)), (AQ), rfl, rfl, rfl, H', ⟨by have := Bu.out; have := Bv.out; omega⟩, ⟨(zR CM.out)⟩, ⟨(zK AA.out)⟩, ⟨(zK AB.out)⟩, ⟨zH2 HB AP AS⟩⟩
 }
 · rw [if_neg Cm] at H; exact absurd H (by simp)
 }
 }
 {
 rw [if_neg Bh] at H
 have CG : (BG == 0) = false := beq_eq_false_iff_ne.mpr Bh
 have B8 : (BG != 0) = true := bne_iff_ne.mpr Bh
 simp only [Option.some.injEq, Prod.mk.injEq] at H
 obtain ⟨rfl, rfl, rfl⟩ := H
 try go_wp2
 replace Ae := ak (Kd.R_drew Ae.out)
 replace AA := ak (blk_drew AA.out)
 replace AB := ak (blk_drew AB.out)
 replace HB := ak (below_drew1 HB.out)
 have BA : 0 ≤ ((AY) : Int) := of_decide_eq_true (by assumption)
 have A8 : (AY) < (l1.length : Int) := of_decide_eq_true (by assumption)
 obtain ⟨Ag, BO, AX, AV⟩ := at_T62 Bo.out (AY) BA A8
 have Ab := AV
 have Aa := AX
 cases BO
 replace AX := (HB.out.cell (World.block_lt_of_cell? w _ AX)).trans AX
 replace AV := (HB.out.cell (World.block_lt_of_cell? w _ AV)).trans AV
 replace BA := eq_true BA
 replace A8 := eq_true A8
 have BB : 0 ≤ (AR : Int) := of_decide_eq_true (by assumption)
 have A9 : AR < (l1.length : Int) := of_decide_eq_true (by assumption)
 obtain ⟨BI, BQ, AU, AW⟩ := at_T62 Bo.out AR BB A9
 have Ac := AW
 have Ad := AU
 obtain rfl : Ag = BI := (by injection BQ)
 replace AU := (HB.out.cell (World.block_lt_of_cell? w _ AU)).trans AU
 replace AW := (HB.out.cell (World.block_lt_of_cell? w _ AW)).trans AW
 replace BB := eq_true BB
 replace A9 := eq_true A9
 refine start_ (n := 16) (S := fun w' => w'.cell? ⟨AC, 0, none⟩ = some (.int .i8 AK) ∧ w'.cell? ⟨AC, 1, none⟩ = some (.int .i8 AI) ∧ w'.cell? ⟨AC, 2, none⟩ = some (.int .u16 AJ) ∧ w'.cell? ⟨AC, 3, none⟩ = some (.int .u16 AL) ∧ w'.cell? ⟨AC, 4, none⟩ = some (.int .u16 AF) ∧ w'.cell? ⟨AC, 5, none⟩ = some (.int .u16 AE) ∧ w'.cell? ⟨AC, 6, none⟩ = some (.int .u16 AD) ∧ w'.cell? ⟨AC, 7, none⟩ = some (.int .u16 AN) ∧ w'.cell? ⟨AC, 8, none⟩ = some (.int .u16 AH) ∧ w'.cell? ⟨AC, 9, none⟩ = some (.int .u16 AO) ∧ w'.cell? ⟨AC, 10, none⟩ = some (.int .u16 AG) ∧ w'.cell? ⟨AC, 11, none⟩ = some (.int .u16 AM) ∧ w'.cell? (Ag.add (((AY)).toNat * 2)) = some (.int .i8 ((rd_T62 l1 (AY)).f0)) ∧ w'.cell? ⟨(Ag.add (((AY)).toNat * 2)).block, (Ag.add (((AY)).toNat * 2)).off + 1, none⟩ = some (.int .i8 ((rd_T62 l1 (AY)).f1)) ∧ w'.cell? (Ag.add ((AR).toNat * 2)) = some (.int .i8 ((rd_T62 l1 AR).f0)) ∧ w'.cell? ⟨(Ag.add ((AR).toNat * 2)).block, (Ag.add ((AR).toNat * 2)).off + 1, none⟩ = some (.int .i8 ((rd_T62 l1 AR).f1))) (ds := []) (bA 16 0) (by kernel_rfl) rfl rfl ⟨(blk_cell AA.out 0).trans rfl, (blk_cell AA.out 1).trans rfl, (blk_cell AA.out 2).trans rfl, (blk_cell AA.out 3).trans rfl, (blk_cell AA.out 4).trans rfl, (blk_cell AA.out 5).trans rfl, (blk_cell AA.out 6).trans rfl, (blk_cell AA.out 7).trans rfl, (blk_cell AA.out 8).trans rfl, (blk_cell AA.out 9).trans rfl, (blk_cell AA.out 10).trans rfl, (blk_cell AA.out 11).trans rfl, ((HB.out.cell (World.block_lt_of_cell? w _ Aa)).trans Aa), ((HB.out.cell (World.block_lt_of_cell? w _ Ab)).trans Ab), ((HB.out.cell (World.block_lt_of_cell? w _ Ad)).trans Ad), ((HB.out.cell (World.block_lt_of_cell? w _ Ac)).trans Ac)⟩ (fun hHeld => ?_); refine with_tabW spec_RopeFor.tab13 spec_RopeFor.bits13 (fun HT_ HW_ => ?_)
 generalize wr.drew = EK at Ae AA AB HB AX AV AU AW hHeld ⊢
 refine pU 1 39 (bA 16 2) HT_ ?_
 refine pU 2 40 (bA 16 6) HT_ ?_
 refine pU 3 41 (bA 16 14) HT_ ?_
 refine pU 4 42 (bA 16 30) HT_ ?_
 refine pU 6 44 (bA 16 94) HT_ ?_
 refine pU 7 45 (bA 16 222) HT_ ?_
 refine pU 8 46 (bA 16 478) HT_ ?_
 refine tK 0 38 (bA 16 479) HT_ HW_ hHeld ?_
 refine tK 5 43 (bA 16 511) HT_ HW_ hHeld ?_
 refine tK 9 47 (bA 16 1023) HT_ HW_ hHeld ?_
 refine one_ (i := 10) (N := some 48) (bA 16 2047) rfl rfl (one_of HT_.out (by kernel_rfl)) (by decide) (fun K hK => ?_)
 refine goes_ Try.func42 (by kernel_rfl) rfl #[.agg #[.int .i8 AK, .int .i8 AI, .int .u16 AJ, .int .u16 AL, .int .u16 AF, .int .u16 AE, .int .u16 AD, .int .u16 AN, .int .u16 AH, .int .u16 AO, .int .u16 AG, .int .u16 AM], .agg #[.int .i8 ((rd_T62 l1 (AY)).f0), .int .i8 ((rd_T62 l1 (AY)).f1)], .agg #[.int .i8 ((rd_T62 l1 AR).f0), .int .i8 ((rd_T62 l1 AR).f1)]] (by rfl) rfl rfl (by (try simp only [List.map_toArray, List.map_cons, List.map_nil]); first | done | (simp only [BC]; rfl) | rfl | (simp only [List.length_drop, List.length_take]; rfl)) ?_
 with_reducible refine (spec_StepsBetween.calls k2 AK AI AJ AL AF AE AD AN AH AO AG AM ((rd_T62 l1 (AY)).f0) ((rd_T62 l1 (AY)).f1) ((rd_T62 l1 AR).f0) ((rd_T62 l1 AR).f1) At BG _ DG.out).mono ?_
 rintro e DT ⟨rfl, hb⟩
 refine ⟨_, rfl, ?_⟩
 replace Ae := kR Ae hb
 replace AA := kK AA hb
 replace AB := kK AB hb
 replace HB := kB2 HB AP AS hb
 refine hK.out _ _ ⟨(blk_cell AA.out 0).trans rfl, (blk_cell AA.out 1).trans rfl, (blk_cell AA.out 2).trans rfl, (blk_cell AA.out 3).trans rfl, (blk_cell AA.out 4).trans rfl, (blk_cell AA.out 5).trans rfl, (blk_cell AA.out 6).trans rfl, (blk_cell AA.out 7).trans rfl, (blk_cell AA.out 8).trans rfl, (blk_cell AA.out 9).trans rfl, (blk_cell AA.out 10).trans rfl, (blk_cell AA.out 11).trans rfl, ((HB.out.cell (World.block_lt_of_cell? w _ Aa)).trans Aa), ((HB.out.cell (World.block_lt_of_cell? w _ Ab)).trans Ab), ((HB.out.cell (World.block_lt_of_cell? w _ Ad)).trans Ad), ((HB.out.cell (World.block_lt_of_cell? w _ Ac)).trans Ac)⟩ (fun hHeld => ?_)
 clear hK K
 refine norm_ (a' := ?_) ?_ ?_
 rotate_left
 {
 show Act.put _ (some 48) _ = _
 simp only [Act.put, zs, zz, zk, i64_w, i32_w]
 rfl
 }
 refine pU 11 37 (bA 16 4095) HT_ ?_
 refine pU 12 49 (bA 16 8191) HT_ ?_
 refine pU 13 50 (bA 16 16383) HT_ ?_
 refine pU 14 10 (bA 16 32767) HT_ ?_
 refine pU 15 11 (bA 16 65535) HT_ ?_
 refine done_ (done_of HT_.out (by kernel_rfl)) ?_
 have DX := Ah.out
 have DO := Ai.out
 have C5 : DT.cell? ⟨AT, 0, none⟩ = some (.int .i16 AQ) := (blk_cell AB.out 0).trans rfl
 have Ca : DT.cell? ⟨AT, 1, none⟩ = some (.slice none 0 0) := (blk_cell AB.out 1).trans rfl
 have Cx := blk_frozen AB.out 0
 have Cv := blk_frozen AB.out 1
 try go_wp2
 refine bodyPost_ret (results_ct rfl _ _ AT 32 #[.int .i16 0, .slice none 0 0] (0, 0) _ rfl (by refine blk_put (cs := #[.int .i16 0, .slice none 0 0]) ?_ 1 _ rfl; refine blk_put (cs := #[.int .i16 AQ, .slice none 0 0]) ?_ 0 _ rfl; exact AB.out) Try.underlying32 rfl (by kernel_rfl)) rfl ?_
 exact ⟨_, by first | rfl | (simp [errW_none, errW_some] <;> rfl) | (simp only [← BC]; first | rfl | (simp [errW_none, errW_some] <;> rfl)) | (simp [*, errW_none, errW_some] <;> rfl), by first | exact Kd.R_nil _ _ _ _ _ | exact Kd.N_nil _ _ _ _ _ | exact Kd.V_nil _ _ _ _ _ | exact Kd.Q_nil _ _ _ _ _ | exact Kd.S_nil _ _ _ _ _, zH2 HB AP AS⟩
 }
 }
 · rw [if_neg Ck] at H; exact absurd H (by simp)
 }
 · rw [if_neg Cl] at H; exact absurd H (by simp)
 }
 · rw [if_neg C6] at H; exact absurd H (by simp)
 }
 {
 rw [if_neg Bk] at H
 have Bd : decide (AR < (l1.length : Int)) = false := decide_eq_false Bk
 clear Bk
 by_cases CJ : BU = true
 {
 subst CJ
 rw [if_pos rfl] at H
 simp only [Option.some.injEq, Prod.mk.injEq] at H
 obtain ⟨rfl, rfl, rfl⟩ := H
 have Dg := Ah.out
 have Dh := Ai.out
 have Cn : wr.cell? ⟨AT, 0, none⟩ = some (.int .i16 AQ) := (blk_cell AB.out 0).trans rfl
 have Cj : wr.cell? ⟨AT, 1, none⟩ = some (.slice none 0 0) := (blk_cell AB.out 1).trans rfl
 have Cc := blk_frozen AB.out 0
 have Cr := blk_frozen AB.out 1
 go_wp2
 refine bodyPost_ret (results_ct rfl _ _ AT 32 #[.int .i16 0, .slice none 0 0] (0, 0) _ rfl (by refine blk_put (cs := #[.int .i16 0, .slice none 0 0]) ?_ 1 _ rfl; refine blk_put (cs := #[.int .i16 AQ, .slice none 0 0]) ?_ 0 _ rfl; exact AB.out) Try.underlying32 rfl (by kernel_rfl)) rfl ?_
 exact ⟨_, rfl, by first | exact Kd.R_nil _ _ _ _ _ | exact Kd.N_nil _ _ _ _ _ | exact Kd.V_nil _ _ _ _ _ | exact Kd.Q_nil _ _ _ _ _ | exact Kd.S_nil _ _ _ _ _, zH2 HB AP AS⟩
 }
 {
 replace CJ := Bool.eq_false_iff.mpr CJ
 subst CJ
 rw [if_neg (show ¬ (false = true) by decide)] at H
 by_cases Bl : Ak > 400
 {
 rw [if_pos Bl] at H
 have Be : decide (400 < Ak) = true := decide_eq_true Bl
 clear Bl
 simp only [Option.some.injEq, Prod.mk.injEq] at H
 obtain ⟨rfl, rfl, rfl⟩ := H
 have Db := Ah.out
 have DW := Ai.out
 have C3 : wr.cell? ⟨AT, 0, none⟩ = some (.int .i16 AQ) := (blk_cell AB.out 0).trans rfl
 have Cg : wr.cell? ⟨AT, 1, none⟩ = some (.slice none 0 0) := (blk_cell AB.out 1).trans rfl
 have C0 := blk_frozen AB.out 0
 have CY := blk_frozen AB.out 1
 go_wp2
 refine bodyPost_ret (results_ct rfl _ _ AT 32 #[.int .i16 0, .slice none 0 0] (0, 0) _ rfl (by refine blk_put (cs := #[.int .i16 0, .slice none 0 0]) ?_ 1 _ rfl; refine blk_put (cs := #[.int .i16 AQ, .slice none 0 0]) ?_ 0 _ rfl; exact AB.out) Try.underlying32 rfl (by kernel_rfl)) rfl ?_
 exact ⟨_, rfl, by first | exact Kd.R_nil _ _ _ _ _ | exact Kd.N_nil _ _ _ _ _ | exact Kd.V_nil _ _ _ _ _ | exact Kd.Q_nil _ _ _ _ _ | exact Kd.S_nil _ _ _ _ _, zH2 HB AP AS⟩
 }
 {
 rw [if_neg Bl] at H
 have Be : decide (400 < Ak) = false := decide_eq_false Bl
 clear Bl
 have H' := ak H
 clear H
 go_wp2_with (first | ((with_reducible refine gate_dst (N := 12) rfl ?_); refine box_event ?hg (N := 12) ?hd (cs := #[.int .i16 0, .slice none 0 0]) (t := 32) ?hr ?_; (case hd => rfl); (case hg => rfl); (case hr => first | (go_simp; done) | (go_simp; rfl)); intro Aq hg D2 hbox hb; have Af := ak (hbox); have DQ := ak ((by rw [hg]; exact (below_size (zH2 HB AP AS)) : w.heap.size ≤ Aq)); have BH := ak ((by rw [hg]; exact (below_size (zH2 HB AP AS)) : w.heap.size ≤ Aq)); have Ao := nL AA hg; have A5 := nG AA hg; have An := nL AB hg; have Ax := nG AB hg; replace Ae := kR Ae hb; replace AA := kK AA hb; replace AB := kK AB hb; replace HB := kB2 HB AP AS hb; clear hb hbox hg; have DP := A5.out; have DN := Ao.out; have Dn := Ax.out; have Dk := An.out; obtain ⟨Ba, BY, BZ, BW⟩ := cz2 D2 Af))
 go_loopg [13] k2 (fun kq Dv w' => ∃ (Al : Int) (Aj : List Int) (Am : Value), Dv = .int .i64 Al ∧ Aside0 (spec_RopeFor.l1 kq Ar Al (IntKind.i16.wrap (Ak)) Aj = some (r1, r2, r3)) ∧ Aside0 (kq ≤ k2) ∧ Aside0 (Kd.R (Kd.int .i64) 2 w' w.heap.size (fun _ => True) u8 Ar) ∧ Aside0 (Kd.R (Kd.int .i16) 29 w' w.heap.size (fun _ => True) Am Aj) ∧ Aside0 (w'.heap[AC]? = some (.cells #[.int .i8 AK, .int .i8 AI, .int .u16 AJ, .int .u16 AL, .int .u16 AF, .int .u16 AE, .int .u16 AD, .int .u16 AN, .int .u16 AH, .int .u16 AO, .int .u16 AG, .int .u16 AM] 35 (0, 0))) ∧ Aside0 (w'.heap[AT]? = some (.cells #[.int .i16 AQ, (.slice none 0 0)] 32 (0, 0))) ∧ Aside0 (w'.heap[Aq]? = some (.cells #[.int .i16 (IntKind.i16.wrap (Ak)), Am] 32 (0, 0))) ∧ Aside0 (Below w.heap.size w w'))
 case atStart => exact ⟨(0), (([] : List Int)), (.slice none 0 0), rfl, H', ⟨Nat.le_refl _⟩, ⟨Kd.R_mono (Kd.R_far (p := ⟨Aq, 1, none⟩) (Kd.R_far (p := ⟨Aq, 0, none⟩) (Kd.R_types Ae.out Af.out (by decide)) (fun _ hk => hk.2) (.int .i16 (IntKind.i16.wrap (Ak)))) (fun _ hk => hk.2) (.slice none 0 0)) (fun _ hk => trivial)⟩, ⟨by first | exact Kd.R_nil _ _ _ _ _ | exact Kd.N_nil _ _ _ _ _ | exact Kd.V_nil _ _ _ _ _ | exact Kd.Q_nil _ _ _ _ _ | exact Kd.S_nil _ _ _ _ _⟩, ⟨by refine blk_far ?_ Ao.out _; refine blk_far ?_ Ao.out _; exact AA.out⟩, ⟨by refine blk_far ?_ An.out _; refine blk_far ?_ An.out _; exact AB.out⟩, ⟨by refine blk_put (cs := #[.int .i16 (IntKind.i16.wrap (Ak)), .slice none 0 0]) ?_ 1 _ rfl; refine blk_put (cs := #[.int .i16 0, .slice none 0 0]) ?_ 0 _ rfl; exact Af.out⟩, ⟨zH3 HB AP AS BH⟩⟩
 case round => (
 clear H'
 obtain ⟨Al, Aj, Am, rfl, HA, Dm, Ae, AZ, AA, AB, Af, HB⟩ := hrel
 cases gk with
 | zero => exact absurd HA.out (by simp [spec_RopeFor.l1])
 | succ k3 => (
 have H := HA.out
 clear HA
 simp only [spec_RopeFor.l1] at H
 by_cases Bt : Al < (Ar.length : Int)
 {
 rw [if_pos Bt] at H
 have B0 : decide (Al < (Ar.length : Int)) = true := decide_eq_true Bt
 clear Bt
 by_cases Cq : 0 ≤ Al
 {
 rw [if_pos Cq] at H
 have Da : decide (0 ≤ Al) = true := decide_eq_true Cq
 clear Cq
 by_cases Ch : Aj.length < 70368744177664
 {
 rw [if_pos Ch] at H
 have CT := ak Ch
 clear Ch
 obtain ⟨BV, BE⟩ : ∃ y_ : List Int, y_ = (Aj ++ [IntKind.i16.wrap (rd Ar Al)]) := ⟨_, rfl⟩
 replace H : (spec_RopeFor.l1 k3 Ar (wrap64 (Al + 1)) (IntKind.i16.wrap (Ak)) BV) = some (r1, r2, r3) := by first | (rw [BE]; with_reducible exact H) | (have BL := (Option.bind_some _ _).symm.trans H; rw [BE]; with_reducible exact BL) | (have BL := (Option.bind_some _ _).symm.trans H; with_reducible exact BL) | with_reducible exact H | (rw [BE]; exact H) | exact H
 have By := ak BE
 clear BE
 have H' := ak H
 clear H
 obtain ⟨Du, D8, DE⟩ := Kd.R_slice Ae.out
 subst DE
 try go_wp2
 replace Ae := ak (Kd.R_drew Ae.out)
 replace AZ := ak (Kd.R_drew AZ.out)
 replace AA := ak (blk_drew AA.out)
 replace AB := ak (blk_drew AB.out)
 replace Af := ak (blk_drew Af.out)
 replace HB := ak (below_drew1 HB.out)
 have Bq : 0 ≤ (Al : Int) := of_decide_eq_true (by assumption)
 have Bi : Al < (Ar.length : Int) := of_decide_eq_true (by assumption)
 obtain ⟨CF, DH, BM⟩ := Kd.at_int (Kd.R_reads' Ae.out).2.2 Al Bq Bi
 cases DH
 replace Bq := eq_true Bq
 replace Bi := eq_true Bi
 refine start_ (n := 11) (S := fun w' => w'.cell? ⟨Aq, 0, none⟩ = some (.int .i16 (IntKind.i16.wrap (Ak))) ∧ w'.cell? ⟨Aq, 1, none⟩ = some (Am) ∧ w'.cell? (CF.add (Al).toNat) = some (.int .i64 (rd Ar Al))) (ds := [8, 10]) (bA 11 0) (by kernel_rfl) rfl rfl ⟨(blk_cell Af.out 0).trans rfl, (blk_cell Af.out 1).trans rfl, BM⟩ (fun hHeld => ?_); refine with_tabW spec_RopeFor.tab27 spec_RopeFor.bits27 (fun HT_ HW_ => ?_)
 generalize wr.drew = EE at Ae AZ AA AB Af HB BM hHeld ⊢
 refine pU 0 81 (bA 11 1) HT_ ?_
 refine pU 2 83 (bA 11 5) HT_ ?_
 refine pU 3 84 (bA 11 13) HT_ ?_
 refine pU 4 85 (bA 11 29) HT_ ?_
 refine tK 1 82 (bA 11 31) HT_ HW_ hHeld ?_
 refine tK 5 86 (bA 11 63) HT_ HW_ hHeld ?_
 refine pU 6 87 (bA 11 127) HT_ ?_
 refine one_ (i := 7) (N := some 88) (bA 11 255) rfl rfl (one_of HT_.out (by kernel_rfl)) (by decide) (fun K hK => ?_)
 refine value_ (w1 := ?_) (v := ?_) (by rfl) rfl ?_ ?_
 rotate_left 2
 {
 go_simp
 constructor
 · rfl
 · rfl
 }
 refine hK.out _ _ ⟨(blk_cell (blk_alloc Af.out _) 0).trans rfl, (blk_cell (blk_alloc Af.out _) 1).trans rfl, (World.cell?_alloc_lt _ _ _ (World.block_lt_of_cell? _ _ (hHeld.2.2))).trans (hHeld.2.2)⟩ (fun hHeld => ?_)
 clear hK K
 refine norm_ (a' := ?_) ?_ ?_
 rotate_left
 {
 show Act.put _ (some 88) _ = _
 simp only [Act.put, zs, zz, zk, i64_w, i32_w]
 rfl
 }
 refine last_ (i := 8) (N := some 89) #[true, true, true, true, true, true, true, true, true, false, false] rfl rfl (one_of HT_.out (by kernel_rfl)) (by decide) (fun K hK => ?_)
 refine Kd.R_append_step (Kd.int .i16) (w0 := w) w.heap.size (by rfl) (.tmp 82) (.tmp 88) 30 29 (.int .i16 0) 2 rfl Try.underlying30 info29 rfl (by decide) (by omega) Am Aj (IntKind.i16.wrap (rd Ar Al)) [.int .i16 (IntKind.i16.wrap (rd Ar Al))] (fun _ => True) (fun _ => False) rfl rfl ?aP (fun _ hk => hk.elim) ?aF ?aO ?aB ?aS ?aL ?_
 (case aP => exact rfl)
 (case aB => exact (zH3 HB AP AS BH))
 (case aF => exact (fun _ _ => trivial))
 (case aO => exact (zR AZ.out))
 (case aS => exact (below_size (zH3 HB AP AS BH)))
 (case aL => have := CT.out; omega)
 intro Dw Dq ho hb hg hat
 rw [← By.out] at ho
 have Bb := ak (ho)
 replace Ae := ak (Kd.R_over' (zR Ae.out) (Kd.R_typed (zR AZ.out)) (by decide) hg)
 replace AA := ak (blk_grown (g := AC) (o := .cells #[.int .i8 AK, .int .i8 AI, .int .u16 AJ, .int .u16 AL, .int .u16 AF, .int .u16 AE, .int .u16 AD, .int .u16 AN, .int .u16 AH, .int .u16 AO, .int .u16 AG, .int .u16 AM] 35 (0, 0)) (zK AA.out) hg (Kd.R_ne AZ.out AA.out (by decide)))
 replace AB := ak (blk_grown (g := AT) (o := .cells #[.int .i16 AQ, .slice none 0 0] 32 (0, 0)) (zK AB.out) hg (Kd.R_ne AZ.out AB.out (by decide)))
 replace Af := ak (blk_grown (g := Aq) (o := .cells #[.int .i16 (IntKind.i16.wrap (Ak)), Am] 32 (0, 0)) (zK Af.out) hg (Kd.R_ne AZ.out Af.out (by decide)))
 replace HB := ak (hb)
 clear AZ
 obtain ⟨Bm, Br, Bz⟩ := Kd.R_slice Bb.out
 (first | subst Bz | (injection Bz with f1_ f2_ f3_; have Dx := f1_.symm; have Dr := f3_.symm; clear f1_ f2_ f3_; subst Dx; subst Dr))
 refine hK.out _ _ ?_
 clear hK K
 refine norm_ (a' := ?_) ?_ ?_
 rotate_left
 {
 show Act.put _ (some 89) _ = _
 simp only [Act.put, zs, zz, zk, i64_w, i32_w]
 rfl
 }
 refine pU 9 90 (bA 11 1023) HT_ ?_
 refine last_ (i := 10) (N := none) #[true, true, true, true, true, true, true, true, true, true, true] rfl rfl (one_of HT_.out (by kernel_rfl)) (by decide) (fun K hK => ?_)
 have D4 : Dq.cell? ⟨Aq, 1, none⟩ = some (Am) := (blk_cell Af.out 1).trans rfl
 have Do := blk_frozen Af.out 1
 have Cu := Ao.out
 have Cw := An.out
 have Cs := A5.out
 have Cy := Ax.out
 refine skip_ (w1 := ?_) (by rfl) rfl ?_ ?_
 rotate_left
 · go_simp; rfl
 refine hK.out _ _ ?_
 clear hK K
 refine done_ (done_of HT_.out (by kernel_rfl)) ?_
 try go_wp2
 go_roundg k3
 case measure => have := Bu.out; have := Bv.out; have := Dm.out; omega
 case rel => exact ⟨(wrap64 (Al + 1)), (BV), (.slice Bm BV.length Br), rfl, H', ⟨by have := Bu.out; have := Bv.out; have := Dm.out; omega⟩, ⟨Kd.R_mono (Kd.R_far (p := ⟨Aq, 1, none⟩) (Kd.R_types Ae.out Af.out (by decide)) (fun _ hk => hk.2) (.slice Bm BV.length Br)) (fun _ hk => trivial)⟩, ⟨Kd.R_mono (Kd.R_far (p := ⟨Aq, 1, none⟩) (Kd.R_types Bb.out Af.out (by decide)) (fun _ hk => hk.2) (.slice Bm BV.length Br)) (fun _ hk => trivial)⟩, ⟨by refine blk_far ?_ Ao.out _; exact AA.out⟩, ⟨by refine blk_far ?_ An.out _; exact AB.out⟩, ⟨by refine blk_put (cs := #[.int .i16 (IntKind.i16.wrap (Ak)), Am]) ?_ 1 _ rfl; exact Af.out⟩, ⟨zH3 HB AP AS BH⟩⟩
 }
 · rw [if_neg Ch] at H; exact absurd H (by simp)
 }
 · rw [if_neg Cq] at H; exact absurd H (by simp)
 }
 {
 rw [if_neg Bt] at H
 have B0 : decide (Al < (Ar.length : Int)) = false := decide_eq_false Bt
 clear Bt
 simp only [Option.some.injEq, Prod.mk.injEq] at H
 obtain ⟨rfl, rfl, rfl⟩ := H
 obtain ⟨D5, Dt, C8⟩ := Kd.R_slice Ae.out
 subst C8
 have Dl := A5.out
 have DK := Ao.out
 have Df := Ax.out
 have Dc := An.out
 have Cp : wr.cell? ⟨Aq, 0, none⟩ = some (.int .i16 (IntKind.i16.wrap (Ak))) := (blk_cell Af.out 0).trans rfl
 have Cf : wr.cell? ⟨Aq, 1, none⟩ = some (Am) := (blk_cell Af.out 1).trans rfl
 have CW := blk_frozen Af.out 0
 have Cd := blk_frozen Af.out 1
 have DR := Ah.out
 have DU := Ai.out
 have C2 : wr.cell? ⟨AT, 0, none⟩ = some (.int .i16 AQ) := (blk_cell AB.out 0).trans rfl
 have CZ : wr.cell? ⟨AT, 1, none⟩ = some (.slice none 0 0) := (blk_cell AB.out 1).trans rfl
 have C7 := blk_frozen AB.out 0
 have Ci := blk_frozen AB.out 1
 obtain ⟨Bx, CL, C9⟩ := Kd.R_slice AZ.out
 subst C9
 go_wp2
 refine bodyPost_ret (results_ct rfl _ _ AT 32 #[.int .i16 (IntKind.i16.wrap (Ak)), .slice Bx Aj.length CL] (0, 0) _ rfl (by refine blk_put (cs := #[.int .i16 (IntKind.i16.wrap (Ak)), .slice none 0 0]) ?_ 1 _ rfl; refine blk_put (cs := #[.int .i16 AQ, .slice none 0 0]) ?_ 0 _ rfl; exact AB.out) Try.underlying32 rfl (by kernel_rfl)) rfl ?_
 exact ⟨_, rfl, Kd.R_mono (Kd.R_far (p := ⟨AT, 1, none⟩) (Kd.R_far (p := ⟨AT, 0, none⟩) (Kd.R_types AZ.out AB.out (by decide)) (fun _ hk => hk.2) (.int .i16 (IntKind.i16.wrap (Ak)))) (fun _ hk => hk.2) (.slice Bx Aj.length CL)) (fun _ hk => trivial), zH3 HB AP AS BH⟩
 }
 )
 )
 }
 }
 }
 )
 )
 }
 )
 )
 }
 }
 {
 replace c4 := Bool.eq_false_iff.mpr c4
 subst c4
 rw [if_neg (show ¬ (false = true) by decide)] at H
 simp only [Option.some.injEq, Prod.mk.injEq] at H
 obtain ⟨rfl, rfl, rfl⟩ := H
 go_enter Try.func8, Try.ntmps8
 go_wp2_with (first | ((with_reducible refine gate_dst (N := 2) rfl ?_); refine box_event ?hg (N := 2) ?hd (cs := #[.int .i8 A6, .int .i8 Az, .int .u16 Av, .int .u16 Au, .int .u16 A0, .int .u16 A2, .int .u16 Aw, .int .u16 A7, .int .u16 Ay, .int .u16 A4, .int .u16 As, .int .u16 Ap]) (t := 35) ?hr ?_; (case hd => rfl); (case hg => rfl); (case hr => first | (go_simp; done) | (go_simp; rfl)); intro AC hg EI hbox hb; have AA := ak (hbox); have Bc := gS HB hg; have AP := gS HB hg; replace HB := kB HB hb; clear hb hbox hg) | ((with_reducible refine gate_dst (N := 4) rfl ?_); refine box_event ?hg (N := 4) ?hd (cs := #[.int .i16 0, .slice none 0 0]) (t := 32) ?hr ?_; (case hd => rfl); (case hg => rfl); (case hr => first | (go_simp; done) | (go_simp; rfl)); intro AT hg Bp hbox hb; have AB := ak (hbox); have Bf := gS1 HB AP hg; have AS := gS1 HB AP hg; have Ai := nL AA hg; have Ah := nG AA hg; replace AA := kK AA hb; replace HB := kB1 HB AP hb; clear hb hbox hg) | ((with_reducible refine gate_callee (f := 40) rfl ?_); refine goesL_ (some 14) rfl rfl Try.func40 (by kernel_rfl) rfl #[.pointer (some ⟨AC, 0, none⟩)] rfl gl_ ?_; (with_reducible refine (spec_l01Ok.calls k AC A6 Az Av Au A0 A2 Aw A7 Ay A4 As Ap false _ ?side1 A3.out).mono ?_); (case side1 => exact (zK AA.out)); rintro e w' ⟨rfl, ⟨nd, rfl⟩⟩; refine ⟨_, rfl, ?_⟩; (try (rw [drewN_self Bp]; generalize BX : World.drewN Bp _ = Bp; have BS : Aside0 (Bp.heap[AC]? = some (.cells #[.int .i8 A6, .int .i8 Az, .int .u16 Av, .int .u16 Au, .int .u16 A0, .int .u16 A2, .int .u16 Aw, .int .u16 A7, .int .u16 Ay, .int .u16 A4, .int .u16 As, .int .u16 Ap] 35 (0, 0))) := ⟨by rw [← BX]; exact (zK AA.out)⟩; have BP : Aside0 (Bp.heap[AT]? = some (.cells #[.int .i16 0, .slice none 0 0] 32 (0, 0))) := ⟨by rw [← BX]; exact (zK AB.out)⟩; have BR : Aside0 (Below w.heap.size w Bp) := ⟨by rw [← BX]; exact (zH2 HB AP AS)⟩; clear AA AB HB BX; have AA := BS; have AB := BP; have HB := BR; clear BS BP BR)); have DL := Ah.out; have Dj := Ai.out; obtain ⟨C1, CX, Co, CV⟩ := cz2 Bp AB))
 refine bodyPost_ret (results_ct rfl _ _ AT 32 #[.int .i16 0, .slice none 0 0] (0, 0) _ rfl (by refine blk_put (cs := #[.int .i16 0, .slice none 0 0]) ?_ 1 _ rfl; refine blk_put (cs := #[.int .i16 0, .slice none 0 0]) ?_ 0 _ rfl; exact AB.out) Try.underlying32 rfl (by kernel_rfl)) rfl ?_
 exact ⟨_, rfl, by first | exact Kd.R_nil _ _ _ _ _ | exact Kd.N_nil _ _ _ _ _ | exact Kd.V_nil _ _ _ _ _ | exact Kd.Q_nil _ _ _ _ _ | exact Kd.S_nil _ _ _ _ _, zH2 HB AP AS⟩
 }
end Go.Proofs.Ytooidjdgfoioiaa.P
