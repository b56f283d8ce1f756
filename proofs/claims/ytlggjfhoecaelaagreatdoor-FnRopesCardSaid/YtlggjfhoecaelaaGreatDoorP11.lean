-- Printed by wip/print (my turned copy of the kit's print) out of the translation; Lean checks it.
import Derived.Test.YtlggjfhoecaelaaGreatDoorP0
import Derived.Test.YtlggjfhoecaelaaGreatDoorP2
import Derived.Test.YtlggjfhoecaelaaGreatDoorP4
import Derived.Test.YtlggjfhoecaelaaGreatDoorP5
namespace Go.Proofs.YtlggjfhoecaelaaGreatDoor.P
open Go.RowKit Go.Proofs.YtlggjfhoecaelaaGreatDoorW.PrintWords Go.Proofs.YtlggjfhoecaelaaGreatDoorW.PrintLast Go.Proofs.YtlggjfhoecaelaaGreatDoorW.PrintMore
attribute [local go_sem] max2_int min2_int max_two min_two max_three min_three max_four min_four   -- for this text's walks alone
set_option linter.unusedVariables false
set_option linter.unusedSimpArgs false

/-! ### spec_CutRope: function 17 -/
mutual
def spec_CutRope.j0 : Nat → Int → Int → Bool → Int → List Int → Option (Int × List Int × Int × List Int × Int)
  | 0, _, _, _, _, _ => none
  | k + 1, x1, x7, AD, AB, AA => if AD = true then (some (0, ([] : List Int), 0, ([] : List Int), 4)) else (if 0 ≤ x1 then (if x1 < (AA.length : Int) then ((some (([] : List Int) : List Int)).bind fun AC => (if 0 ≤ (wrap64 (x1 + 1)) then (if (wrap64 (x1 + 1)) ≤ (AA.length : Int) then (if AC.length + (AA.take ((wrap64 (x1 + 1)) : Int).toNat).length < 70368744177664 then (spec_CutRope.l0 k x7 (rd AA x1) x1 AB AA (rd AA x1) (AC ++ (AA.take ((wrap64 (x1 + 1)) : Int).toNat)) (IntKind.i16.wrap (AB - (rd AA x1))) ([] : List Int)) else (none)) else (none)) else (none))) else (none)) else (none))
def spec_CutRope.l0 : Nat → Int → Int → Int → Int → List Int → Int → List Int → Int → List Int → Option (Int × List Int × Int × List Int × Int)
  | 0, _, _, _, _, _, _, _, _, _ => none
  | k + 1, x7, x8, AG, AF, AA, AC, AD, AE, AB => if AG ≤ x7 then (if 0 ≤ AG then (if AG < (AA.length : Int) then (if AB.length < 70368744177664 then (spec_CutRope.l0 k x7 x8 (wrap64 (AG + 1)) AF AA AC AD AE (AB ++ [IntKind.i16.wrap ((rd AA AG) - x8)])) else (none)) else (none)) else (none)) else (some (AC, AD, AE, AB, 0))
end
def spec_CutRope.f (k : Nat) (AB : Int) (AA : List Int) (a1 : Int) : Option (Int × List Int × Int × List Int × Int) := (spec_l03Ok.f k AB AA).bind fun AD => (if AD = true then ((spec_l00In.f a1 0 (wrap64 ((AA.length : Int) - 1))).bind fun AC => (if AC = true then (if a1 = 0 then (spec_CutRope.j0 k a1 (wrap64 ((AA.length : Int) - 1)) true AB AA) else (spec_CutRope.j0 k a1 (wrap64 ((AA.length : Int) - 1)) (a1 == (wrap64 ((AA.length : Int) - 1))) AB AA)) else (some (0, ([] : List Int), 0, ([] : List Int), 2)))) else (some (0, ([] : List Int), 0, ([] : List Int), 1)))
def spec_CutRope.T14 : Bool × List (List Nat × List Nat) := (true, [([], []), ([0], [0]), ([], []), ([2], [2]), ([], []), ([3, 4], [3, 4]), ([5], [5]), ([], []), ([6, 7], [6, 7]), ([8], [8]), ([1, 9], [1, 9]), ([0, 1, 2, 3, 4, 5, 6, 7, 8, 9, 10], []), ([11, 10, 10, 0, 1, 2, 3, 4, 5, 6, 7, 8, 9, 10], [10, 11])])
def spec_CutRope.B14 : List Nat := [0, 1, 0, 4, 0, 28, 60, 0, 252, 508, 1023, 2047, 4095]
theorem spec_CutRope.tab14 : rtab .any (opsOf Tryz.f17 14) = spec_CutRope.T14 := by kernel_rfl
theorem spec_CutRope.bits14 : waitsOk spec_CutRope.T14.2 spec_CutRope.B14 = true := by kernel_rfl
set_option maxHeartbeats 8000000 in
set_option maxRecDepth 100000 in
theorem spec_CutRope.calls (k : Nat) (AP : Int) (Av : Option Addr) (An : Nat) (AB : List Int) (a1 : Int) (r1 : Int) (r2 : List Int) (r3 : Int) (r4 : List Int) (r5 : Int) (w : World) (Bm : Kd.C (Kd.int .i16) w Av AB.length AB) (Bp : AB.length ≤ An) (h : spec_CutRope.f k AP AB a1 = some (r1, r2, r3, r4, r5)) :
    Calls Tryz.prog 17 #[.agg #[.int .i16 AP, .slice Av AB.length An], .int .i64 a1] w fun e w' => ∃ Dj Db : Value, e = .returned (.tuple #[.agg #[.int .i16 r1, Dj], .agg #[.int .i16 r3, Db], .int .i64 r5]) ∧ Kd.R (Kd.int .i16) 24 w' w.heap.size (fun k_ => some k_ ≠ (Db : Value).ownBlock) Dj r2 ∧ Kd.R (Kd.int .i16) 24 w' w.heap.size (fun k_ => some k_ ≠ (Dj : Value).ownBlock) Db r4 ∧ Below w.heap.size w w' := by
 have El := Tryz.underlying27
 have Az := ak Bm
 have BE := ak Bp
 clear Bm Bp
 have HB := ak (Below.refl w.heap.size w)
 have H := h
 unfold spec_CutRope.f at H
 clear h
 replace H := Option.bind_eq_some_iff.mp H
 obtain ⟨Dl, Dv, H⟩ := H
 have A3 := ak Dv
 clear Dv
 by_cases c4 : Dl = true
 {
 subst c4
 rw [if_pos rfl] at H
 replace H := Option.bind_eq_some_iff.mp H
 obtain ⟨Dg, Ef, H⟩ := H
 have A5 := ak Ef
 clear Ef
 by_cases c6 : Dg = true
 {
 subst c6
 rw [if_pos rfl] at H
 have Da := ak H
 clear H
 go_enter Tryz.func17, Tryz.ntmps17
 go_upto_region 6 with (first | ((with_reducible refine gate_dst (N := 2) rfl ?_); refine box_event ?hg (N := 2) ?hd (cs := #[.int .i16 AP, .slice Av AB.length An]) (t := 27) ?hr ?_; (case hd => rfl); (case hg => rfl); (case hr => first | (go_simp; done) | (go_simp; rfl)); intro AX hg w8 hbox hb; have AA := ak (hbox); have Bt := gS HB hg; have AE := gS HB hg; replace HB := kB HB hb; clear hb hbox hg) | ((with_reducible refine gate_dst (N := 4) rfl ?_); refine box_event ?hg (N := 4) ?hd (cs := #[.int .i16 0, .slice none 0 0]) (t := 27) ?hr ?_; (case hd => rfl); (case hg => rfl); (case hr => first | (go_simp; done) | (go_simp; rfl)); intro AK hg w9 hbox hb; have AC := ak (hbox); have Bn := gS1 HB AE hg; have AJ := gS1 HB AE hg; have AV := nL AA hg; have AT := nG AA hg; replace AA := kK AA hb; replace HB := kB1 HB AE hb; clear hb hbox hg) | ((with_reducible refine gate_dst (N := 5) rfl ?_); refine box_event ?hg (N := 5) ?hd (cs := #[.int .i16 0, .slice none 0 0]) (t := 27) ?hr ?_; (case hd => rfl); (case hg => rfl); (case hr => first | (go_simp; done) | (go_simp; rfl)); intro AH hg E5 hbox hb; have AD := ak (hbox); have Bl := ak ((by rw [hg]; exact (below_size (zH2 HB AE AJ)) : w.heap.size ≤ AH)); have AM := ak ((by rw [hg]; exact (below_size (zH2 HB AE AJ)) : w.heap.size ≤ AH)); have AS := nL AA hg; have AR := nG AA hg; have AG := nL AC hg; have AF := nG AC hg; replace AA := kK AA hb; replace AC := kK AC hb; replace HB := kB2 HB AE AJ hb; clear hb hbox hg) | ((with_reducible refine gate_callee (f := 39) rfl ?_); refine goesL_ (some 12) rfl rfl Tryz.func39 (by kernel_rfl) rfl #[.pointer (some ⟨AX, 0, none⟩)] rfl gl_ ?_; (with_reducible refine (spec_l03Ok.calls k AX AP Av An AB true _ ?side1 ?side2 ?side3 A3.out).mono ?_); (case side1 => exact sQ (Kd.C_below Az.out HB.out)); (case side2 => exact BE.out); (case side3 => exact (zK AA.out)); rintro e Ex ⟨rfl, hb⟩; refine ⟨_, rfl, ?_⟩; replace AA := kK AA hb; replace AC := kK AC hb; replace AD := kK AD hb; replace HB := kB3 HB AE AJ AM hb; (try clear hb); have EN := AV.out; have Do := AT.out; have Dr := AS.out; have EG := AR.out; obtain ⟨A9, BA, BB, BD⟩ := cz2 Ex AA) | ((with_reducible refine gate_callee (f := 48) rfl ?_); refine goesL_ (some 22) rfl rfl Tryz.func48 (by kernel_rfl) rfl #[.int .i64 a1, .int .i64 0, .int .i64 (wrap64 ((AB.length : Int) - 1))] rfl gl_ ?_; (with_reducible refine (spec_l00In.calls a1 0 (wrap64 ((AB.length : Int) - 1)) true _ A5.out).mono ?_); rintro e w' ⟨rfl, ⟨nd, rfl⟩⟩; refine ⟨_, rfl, ?_⟩))
 (try simp only [Act.put, zs, zz, zk])
 go_cut [32] (fun Et wc => ∃ (kq : Nat) (BC : Bool), Et = .bool BC ∧ Aside0 (spec_CutRope.j0 kq a1 (wrap64 ((AB.length : Int) - 1)) BC AP AB = some (r1, r2, r3, r4, r5)) ∧ Aside0 (kq ≤ k) ∧ Aside0 (wc.heap[AX]? = some (.cells #[.int .i16 AP, (.slice Av AB.length An)] 27 (0, 0))) ∧ Aside0 (wc.heap[AK]? = some (.cells #[.int .i16 0, (.slice none 0 0)] 27 (0, 0))) ∧ Aside0 (wc.heap[AH]? = some (.cells #[.int .i16 0, (.slice none 0 0)] 27 (0, 0))) ∧ Aside0 (Below w.heap.size w wc))
 case first => (
 have H := Da.out
 clear Da
 by_cases By : a1 = 0
 {
 rw [if_pos By] at H
 have A4 : (a1 == 0) = true := beq_iff_eq.mpr By
 have CD : (a1 != 0) = false := bne_eq_false_iff_eq.mpr By
 clear By
 (first | rw [A4] | (simp only [i64_w, i32_w]; rw [A4]) | skip)
 have H' := ak H
 clear H
 go_wp2
 go_meet
 case rel => exact ⟨_, (true), rfl, H', ⟨by omega⟩, ⟨(zK AA.out)⟩, ⟨(zK AC.out)⟩, ⟨(zK AD.out)⟩, ⟨zH3 HB AE AJ AM⟩⟩
 }
 {
 rw [if_neg By] at H
 have A4 : (a1 == 0) = false := beq_eq_false_iff_ne.mpr By
 have CD : (a1 != 0) = true := bne_iff_ne.mpr By
 (first | rw [A4] | (simp only [i64_w, i32_w]; rw [A4]) | skip)
 have H' := ak H
 clear H
 go_wp2
 go_meet
 case rel => exact ⟨_, ((a1 == (wrap64 ((AB.length : Int) - 1)))), rfl, H', ⟨by omega⟩, ⟨(zK AA.out)⟩, ⟨(zK AC.out)⟩, ⟨(zK AD.out)⟩, ⟨zH3 HB AE AJ AM⟩⟩
 }
 )
 case rest => (
 clear Da
 obtain ⟨kq, BC, rfl, HA, EO, AA, AC, AD, HB⟩ := hcut
 cases kq with
 | zero => exact absurd HA.out (by simp [spec_CutRope.j0])
 | succ Ca => (
 have H := HA.out
 clear HA
 simp only [spec_CutRope.j0] at H
 by_cases CN : BC = true
 {
 subst CN
 rw [if_pos rfl] at H
 simp only [Option.some.injEq, Prod.mk.injEq] at H
 obtain ⟨rfl, rfl, rfl, rfl, rfl⟩ := H
 have EB := AT.out
 have Dt := AV.out
 have ED := AG.out
 have Eb := AF.out
 have CR : wc.cell? ⟨AK, 0, none⟩ = some (.int .i16 0) := (blk_cell AC.out 0).trans rfl
 have DJ : wc.cell? ⟨AK, 1, none⟩ = some (.slice none 0 0) := (blk_cell AC.out 1).trans rfl
 have DD := blk_frozen AC.out 0
 have C6 := blk_frozen AC.out 1
 have EZ := AR.out
 have EY := AS.out
 have DS : wc.cell? ⟨AH, 0, none⟩ = some (.int .i16 0) := (blk_cell AD.out 0).trans rfl
 have DP : wc.cell? ⟨AH, 1, none⟩ = some (.slice none 0 0) := (blk_cell AD.out 1).trans rfl
 have Cw := blk_frozen AD.out 0
 have Cm := blk_frozen AD.out 1
 go_wp2
 refine bodyPost_ret (results_list (rs := [.cell 4 27, .cell 5 27, .tmp 6]) rfl (by simp) (.cell AK 27 #[.int .i16 0, .slice none 0 0] (0, 0) _ rfl (by refine blk_far ?_ AG.out _; refine blk_far ?_ AG.out _; refine blk_put (cs := #[.int .i16 0, .slice none 0 0]) ?_ 1 _ rfl; refine blk_put (cs := #[.int .i16 0, .slice none 0 0]) ?_ 0 _ rfl; exact AC.out) Tryz.underlying27 rfl (by kernel_rfl) (.cell AH 27 #[.int .i16 0, .slice none 0 0] (0, 0) _ rfl (by refine blk_put (cs := #[.int .i16 0, .slice none 0 0]) ?_ 1 _ rfl; refine blk_put (cs := #[.int .i16 0, .slice none 0 0]) ?_ 0 _ rfl; refine blk_far ?_ AF.out _; refine blk_far ?_ AF.out _; exact AD.out) Tryz.underlying27 rfl (by kernel_rfl) (.tmp .nil)))) rfl ?_
 exact ⟨_, _, rfl, by first | exact Kd.R_nil _ _ _ _ _ | exact Kd.N_nil _ _ _ _ _ | exact Kd.V_nil _ _ _ _ _ | exact Kd.Q_nil _ _ _ _ _ | exact Kd.S_nil _ _ _ _ _, by first | exact Kd.R_nil _ _ _ _ _ | exact Kd.N_nil _ _ _ _ _ | exact Kd.V_nil _ _ _ _ _ | exact Kd.Q_nil _ _ _ _ _ | exact Kd.S_nil _ _ _ _ _, zH3 HB AE AJ AM⟩
 }
 {
 replace CN := Bool.eq_false_iff.mpr CN
 subst CN
 rw [if_neg (show ¬ (false = true) by decide)] at H
 by_cases CK : 0 ≤ a1
 {
 rw [if_pos CK] at H
 have CF : decide (0 ≤ a1) = true := decide_eq_true CK
 clear CK
 by_cases B2 : a1 < (AB.length : Int)
 {
 rw [if_pos B2] at H
 have B7 : decide (a1 < (AB.length : Int)) = true := decide_eq_true B2
 clear B2
 obtain ⟨BG, A7⟩ : ∃ y_ : List Int, y_ = (([] : List Int)) := ⟨_, rfl⟩
 replace H : (if 0 ≤ (wrap64 (a1 + 1)) then (if (wrap64 (a1 + 1)) ≤ (AB.length : Int) then (if BG.length + (AB.take ((wrap64 (a1 + 1)) : Int).toNat).length < 70368744177664 then (spec_CutRope.l0 Ca (wrap64 ((AB.length : Int) - 1)) (rd AB a1) a1 AP AB (rd AB a1) (BG ++ (AB.take ((wrap64 (a1 + 1)) : Int).toNat)) (IntKind.i16.wrap (AP - (rd AB a1))) ([] : List Int)) else (none)) else (none)) else (none)) = some (r1, r2, r3, r4, r5) := by first | (rw [A7]; with_reducible exact H) | (have BK := (Option.bind_some _ _).symm.trans H; rw [A7]; with_reducible exact BK) | (have BK := (Option.bind_some _ _).symm.trans H; with_reducible exact BK) | with_reducible exact H | (rw [A7]; exact H) | exact H
 have Br := ak A7
 clear A7
 obtain ⟨Am, A8⟩ : ∃ j_ : Int, (wrap64 (a1 + 1)) = j_ := ⟨_, rfl⟩
 first | rw [A8] at H | simp only [A8] at H
 have Dk : (IntKind.i64.wrap (a1 + 1)) = Am := (i64_w _).trans A8
 by_cases B0 : 0 ≤ (Am)
 {
 rw [if_pos B0] at H
 have B1 := eq_true B0
 have CO : decide (0 ≤ (Am)) = true := decide_eq_true B0
 clear B0
 by_cases Bz : (Am) ≤ (AB.length : Int)
 {
 rw [if_pos Bz] at H
 have B5 := eq_true Bz
 have CM : decide ((Am) ≤ (AB.length : Int)) = true := decide_eq_true Bz
 clear Bz
 by_cases CL : BG.length + (AB.take ((Am) : Int).toNat).length < 70368744177664
 {
 rw [if_pos CL] at H
 have B6 := ak CL
 clear CL
 obtain ⟨Ao, A0⟩ : ∃ y_ : List Int, y_ = (BG ++ (AB.take ((Am) : Int).toNat)) := ⟨_, rfl⟩
 replace H : (spec_CutRope.l0 Ca (wrap64 ((AB.length : Int) - 1)) (rd AB a1) a1 AP AB (rd AB a1) Ao (IntKind.i16.wrap (AP - (rd AB a1))) ([] : List Int)) = some (r1, r2, r3, r4, r5) := by first | (rw [A0]; with_reducible exact H) | (have BK := (Option.bind_some _ _).symm.trans H; rw [A0]; with_reducible exact BK) | (have BK := (Option.bind_some _ _).symm.trans H; with_reducible exact BK) | with_reducible exact H | (rw [A0]; exact H) | exact H
 have B9 := ak A0
 clear A0
 have H' := ak H
 clear H
 have ES := AV.out
 have EE := AT.out
 have Ej := AS.out
 have EA := AR.out
 have Bc : wc.cell? ⟨AX, 0, none⟩ = some (.int .i16 AP) := (blk_cell AA.out 0).trans rfl
 have Bi : wc.cell? ⟨AX, 1, none⟩ = some (.slice Av AB.length An) := (blk_cell AA.out 1).trans rfl
 have BO := blk_frozen AA.out 0
 have BQ := blk_frozen AA.out 1
 have Be : 0 ≤ (a1 : Int) := of_decide_eq_true (by assumption)
 have Bj : a1 < (AB.length : Int) := of_decide_eq_true (by assumption)
 obtain ⟨Ap, Dd, Au⟩ := Kd.at_int Az.out a1 Be Bj
 cases Dd
 replace Au := (HB.out.cell (World.block_lt_of_cell? w _ Au)).trans Au
 replace Be := eq_true Be
 replace Bj := eq_true Bj
 go_wp2_with (first | ((with_reducible refine gate_dst (N := 41) rfl ?_); refine Kd.R_lit (Kd.int .i16) _ 24 ?hg (N := 41) ?hd (xs := ([] : List Int)) (inner := []) (ok := fun _ => True) (okp := fun _ => True) ?hr ?hp (fun _ hk => hk) trivial (Below.refl _ _) (Nat.le_refl _) (by simp) ?_; (case hd => rfl); (case hg => rfl); (case hr => first | (go_simp; done) | (go_simp; rfl)); (case hp => exact (Reps.none _ _)); intro De Es BI hb Ez CC; clear Ez CC; (first | rw [← Br.out] at BI | (simp only [Int.reduceToNat] at BI; rw [← Br.out] at BI)); have A1 := ak (Kd.R_lower BI (below_size (zH3 HB AE AJ AM))); replace AA := kK AA hb; replace AC := kK AC hb; replace AD := kK AD hb; replace HB := kB3 HB AE AJ AM hb; clear hb BI; obtain ⟨BN, BP, BV, Bf⟩ := cz2 Es AA; obtain ⟨Em, Bo, _, Bs, _⟩ := info_parts info24; obtain ⟨Df, B4, CE⟩ := print_take_of (P := Tryz.prog) (Value.int .i16) 0 25 24 .i64 Tryz.underlying25 Bo Bs (some Ap) An AB (Am) (of_decide_eq_true (by assumption)) (of_decide_eq_true (by assumption)) BE.out; have BH := ak (Kd.C_of_reads (h1 := fun _ => rfl) (B4 _ (Kd.reads_of_C Az.out))); have Dw := ak CE; clear B4 CE Bo Bs; (try have Ey : Aside0 (((Am) : Int) ≤ (AB.length : Int)) := ak (of_decide_eq_true (by assumption)))) | ((with_reducible refine gate_builtin (b := .append) (xs := #[.tmp 41, .tmp 46]) rfl ?_); at_builtin; refine Kd.R_append_rows (Kd.int .i16) (w0 := w) w.heap.size rfl (.tmp 41) (.tmp 46) 25 24 (.int .i16 0) 2 rfl Tryz.underlying25 info24 rfl (by decide) (by omega) De BG (AB.take ((Am) : Int).toNat) _ _ _ (fun _ => True) (fun _ => False) rfl rfl ?aO ?aR (fun _ _ h => h) (fun _ h => h.elim) ?aF ?aB ?aS ?aL ?_; (case aR => first | (have hX_ := Kd.C_below BH.out HB.out; have hY_ := (show (AB.take ((Am) : Int).toNat).length = (Am).toNat from (by rw [List.length_take]; have h_ : ((Am) : Int) ≤ (AB.length : Int) := of_decide_eq_true (by assumption); omega)); rw [hY_] at hX_; exact hX_) | (rw [← show (AB.take ((Am) : Int).toNat).length = (Am).toNat from (by rw [List.length_take]; have h_ : ((Am) : Int) ≤ (AB.length : Int) := of_decide_eq_true (by assumption); omega)]; repeat (first | exact (Kd.C_below BH.out HB.out) | (with_reducible refine Kd.C_alloc ?_ _) | (with_reducible refine Kd.C_drewN ?_ _) | (with_reducible refine Kd.C_drew ?_))) | (repeat (first | exact (Kd.C_below BH.out HB.out) | (with_reducible refine Kd.C_alloc ?_ _) | (with_reducible refine Kd.C_drewN ?_ _) | (with_reducible refine Kd.C_drew ?_)))); (case aB => exact (zH3 HB AE AJ AM)); (case aF => exact (fun _ _ => trivial)); (case aO => exact (zR A1.out)); (case aS => exact (below_size (zH3 HB AE AJ AM))); (case aL => have := B6.out; have E0 := (show (AB.take ((Am) : Int).toNat).length = (Am).toNat from (by rw [List.length_take]; have h_ : ((Am) : Int) ≤ (AB.length : Int) := of_decide_eq_true (by assumption); omega)); omega); intro E1 E6 ho hb hg hat; rw [← B9.out] at ho; have Ax := ak (ho); replace AA := ak (blk_grown (g := AX) (o := .cells #[.int .i16 AP, .slice (some Ap) AB.length An] 27 (0, 0)) (zK AA.out) hg (Kd.R_ne A1.out AA.out (by decide))); replace AC := ak (blk_grown (g := AK) (o := .cells #[.int .i16 0, .slice none 0 0] 27 (0, 0)) (zK AC.out) hg (Kd.R_ne A1.out AC.out (by decide))); replace AD := ak (blk_grown (g := AH) (o := .cells #[.int .i16 0, .slice none 0 0] 27 (0, 0)) (zK AD.out) hg (Kd.R_ne A1.out AD.out (by decide))); replace HB := ak (hb); clear A1 ho hb hg hat; obtain ⟨Ar, As, Di⟩ := Kd.R_slice Ax.out; subst Di) | ((with_reducible refine gate_dst (N := 9) rfl ?_); refine box_event ?hg (N := 9) ?hd (cs := #[.int .i16 0, .slice none 0 0]) (t := 27) ?hr ?_; (case hd => rfl); (case hg => rfl); (case hr => first | (go_simp; done) | (go_simp; rfl)); intro Ak hg Dz hbox hb; have Aa := ak (hbox); have EQ := ak ((by rw [hg]; exact (below_size (zH3 HB AE AJ AM)) : w.heap.size ≤ Ak)); have At := ak ((by rw [hg]; exact (below_size (zH3 HB AE AJ AM)) : w.heap.size ≤ Ak)); have Ae := nL AA hg; have BF := nG AA hg; have AU := nL AC hg; have Ag := nG AC hg; have AW := nL AD hg; have Ad := nG AD hg; replace Ax := kR Ax hb; replace AA := kK AA hb; replace AC := kK AC hb; replace AD := kK AD hb; replace HB := kB3 HB AE AJ AM hb; clear hb hbox hg; have EV := BF.out; have EL := Ae.out; have D6 := Ag.out; have Ek := AU.out; have EW := Ad.out; have Du := AW.out; obtain ⟨Bk, BU, BR, BX⟩ := cz2 Dz Aa; obtain ⟨BY, BZ, BS, BW⟩ := cz2 Dz AA) | ((with_reducible refine gate_dst (N := 10) rfl ?_); refine box_event ?hg (N := 10) ?hd (cs := #[.int .i16 0, .slice none 0 0]) (t := 27) ?hr ?_; (case hd => rfl); (case hg => rfl); (case hr => first | (go_simp; done) | (go_simp; rfl)); intro AY hg En hbox hb; have AO := ak (hbox); have Ed := ak ((by rw [hg]; exact (below_size (zH4 HB AE AJ AM At)) : w.heap.size ≤ AY)); have A6 := ak ((by rw [hg]; exact (below_size (zH4 HB AE AJ AM At)) : w.heap.size ≤ AY)); have Aj := ak ((by rw [hg]; exact Nat.ne_of_lt (blk_lt (g := AX) (o := .cells #[.int .i16 AP, .slice (some Ap) AB.length An] 27 (0, 0)) (by refine blk_far ?_ Ae.out _; refine blk_far ?_ Ae.out _; exact AA.out)) : AX ≠ AY)); have Aw := ak ((by rw [hg]; exact Nat.ne_of_gt (blk_lt (g := AX) (o := .cells #[.int .i16 AP, .slice (some Ap) AB.length An] 27 (0, 0)) (by refine blk_far ?_ Ae.out _; refine blk_far ?_ Ae.out _; exact AA.out)) : AY ≠ AX)); have Ac := ak ((by rw [hg]; exact Nat.ne_of_lt (blk_lt (g := AK) (o := .cells #[.int .i16 0, .slice none 0 0] 27 (0, 0)) (by refine blk_far ?_ AU.out _; refine blk_far ?_ AU.out _; exact AC.out)) : AK ≠ AY)); have Ab := ak ((by rw [hg]; exact Nat.ne_of_gt (blk_lt (g := AK) (o := .cells #[.int .i16 0, .slice none 0 0] 27 (0, 0)) (by refine blk_far ?_ AU.out _; refine blk_far ?_ AU.out _; exact AC.out)) : AY ≠ AK)); have Af := ak ((by rw [hg]; exact Nat.ne_of_lt (blk_lt (g := AH) (o := .cells #[.int .i16 0, .slice none 0 0] 27 (0, 0)) (by refine blk_far ?_ AW.out _; refine blk_far ?_ AW.out _; exact AD.out)) : AH ≠ AY)); have AZ := ak ((by rw [hg]; exact Nat.ne_of_gt (blk_lt (g := AH) (o := .cells #[.int .i16 0, .slice none 0 0] 27 (0, 0)) (by refine blk_far ?_ AW.out _; refine blk_far ?_ AW.out _; exact AD.out)) : AY ≠ AH)); have Al := ak ((by rw [hg]; exact Nat.ne_of_lt (blk_lt (g := Ak) (o := .cells #[.int .i16 (rd AB a1), .slice Ar Ao.length As] 27 (0, 0)) (by refine blk_put (cs := #[.int .i16 (rd AB a1), .slice none 0 0]) ?_ 1 _ rfl; refine blk_put (cs := #[.int .i16 0, .slice none 0 0]) ?_ 0 _ rfl; exact Aa.out)) : Ak ≠ AY)); have Ay := ak ((by rw [hg]; exact Nat.ne_of_gt (blk_lt (g := Ak) (o := .cells #[.int .i16 (rd AB a1), .slice Ar Ao.length As] 27 (0, 0)) (by refine blk_put (cs := #[.int .i16 (rd AB a1), .slice none 0 0]) ?_ 1 _ rfl; refine blk_put (cs := #[.int .i16 0, .slice none 0 0]) ?_ 0 _ rfl; exact Aa.out)) : AY ≠ Ak)); replace Ax := ak (Kd.R_below ((Kd.R_mono (Kd.R_far (p := ⟨Ak, 1, none⟩) (Kd.R_far (p := ⟨Ak, 0, none⟩) (Kd.R_types Ax.out Aa.out (by decide)) (fun _ hk => hk.2) (.int .i16 (rd AB a1))) (fun _ hk => hk.2) (.slice Ar Ao.length As)) (fun _ h_ => h_.1))) hb); replace AA := ak (blk_below (g := AX) (o := .cells #[.int .i16 AP, .slice (some Ap) AB.length An] 27 (0, 0)) (by refine blk_far ?_ Ae.out _; refine blk_far ?_ Ae.out _; exact AA.out) hb); replace AC := ak (blk_below (g := AK) (o := .cells #[.int .i16 0, .slice none 0 0] 27 (0, 0)) (by refine blk_far ?_ AU.out _; refine blk_far ?_ AU.out _; exact AC.out) hb); replace AD := ak (blk_below (g := AH) (o := .cells #[.int .i16 0, .slice none 0 0] 27 (0, 0)) (by refine blk_far ?_ AW.out _; refine blk_far ?_ AW.out _; exact AD.out) hb); replace Aa := ak (blk_below (g := Ak) (o := .cells #[.int .i16 (rd AB a1), .slice Ar Ao.length As] 27 (0, 0)) (by refine blk_put (cs := #[.int .i16 (rd AB a1), .slice none 0 0]) ?_ 1 _ rfl; refine blk_put (cs := #[.int .i16 0, .slice none 0 0]) ?_ 0 _ rfl; exact Aa.out) hb); replace HB := ak (below_step (zH4 HB AE AJ AM At) hb); clear hb hbox hg; have EM := Aw.out; have Ee := Aj.out; have EI := Ab.out; have Ds := Ac.out; have D1 := AZ.out; have Dq := Af.out; have EX := Ay.out; have Dn := Al.out; obtain ⟨Bg, Bb, Bh, Ba⟩ := cz2 En AO))
 go_loopg [11] Ca (fun kq Eo w' => ∃ (AN : Int) (AQ : List Int) (Ah : Value), Eo = .int .i64 AN ∧ Aside0 (spec_CutRope.l0 kq (wrap64 ((AB.length : Int) - 1)) (rd AB a1) AN AP AB (rd AB a1) Ao (IntKind.i16.wrap (AP - (rd AB a1))) AQ = some (r1, r2, r3, r4, r5)) ∧ Aside0 (kq ≤ Ca) ∧ Aside0 (Kd.R (Kd.int .i16) 24 w' w.heap.size (fun k_ => some k_ ≠ (Ah : Value).ownBlock) (.slice Ar Ao.length As) Ao) ∧ Aside0 (Kd.R (Kd.int .i16) 24 w' w.heap.size (fun k_ => some k_ ≠ ((.slice Ar Ao.length As) : Value).ownBlock) Ah AQ) ∧ Aside0 (w'.heap[AX]? = some (.cells #[.int .i16 AP, (.slice (some Ap) AB.length An)] 27 (0, 0))) ∧ Aside0 (w'.heap[AK]? = some (.cells #[.int .i16 0, (.slice none 0 0)] 27 (0, 0))) ∧ Aside0 (w'.heap[AH]? = some (.cells #[.int .i16 0, (.slice none 0 0)] 27 (0, 0))) ∧ Aside0 (w'.heap[Ak]? = some (.cells #[.int .i16 (rd AB a1), (.slice Ar Ao.length As)] 27 (0, 0))) ∧ Aside0 (w'.heap[AY]? = some (.cells #[.int .i16 (IntKind.i16.wrap (AP - (rd AB a1))), Ah] 27 (0, 0))) ∧ Aside0 (Below w.heap.size w w'))
 case atStart => exact ⟨(a1), (([] : List Int)), (.slice none 0 0), rfl, H', ⟨Nat.le_refl _⟩, ⟨Kd.R_mono (Kd.R_far (p := ⟨AY, 1, none⟩) (Kd.R_far (p := ⟨AY, 0, none⟩) (Kd.R_types Ax.out AO.out (by decide)) (fun _ hk => hk.2) (.int .i16 (IntKind.i16.wrap (AP - (rd AB a1))))) (fun _ hk => hk.2) (.slice none 0 0)) (fun _ hk => (by simp [Value.ownBlock]))⟩, ⟨by first | exact Kd.R_nil _ _ _ _ _ | exact Kd.N_nil _ _ _ _ _ | exact Kd.V_nil _ _ _ _ _ | exact Kd.Q_nil _ _ _ _ _ | exact Kd.S_nil _ _ _ _ _⟩, ⟨by refine blk_far ?_ Aj.out _; refine blk_far ?_ Aj.out _; exact AA.out⟩, ⟨by refine blk_far ?_ Ac.out _; refine blk_far ?_ Ac.out _; exact AC.out⟩, ⟨by refine blk_far ?_ Af.out _; refine blk_far ?_ Af.out _; exact AD.out⟩, ⟨by refine blk_far ?_ Al.out _; refine blk_far ?_ Al.out _; exact Aa.out⟩, ⟨by refine blk_put (cs := #[.int .i16 (IntKind.i16.wrap (AP - (rd AB a1))), .slice none 0 0]) ?_ 1 _ rfl; refine blk_put (cs := #[.int .i16 0, .slice none 0 0]) ?_ 0 _ rfl; exact AO.out⟩, ⟨zH5 HB AE AJ AM At A6⟩⟩
 case round => (
 clear H'
 obtain ⟨AN, AQ, Ah, rfl, HA, EK, AL, AI, AA, AC, AD, Aa, AO, HB⟩ := hrel
 cases gk with
 | zero => exact absurd HA.out (by simp [spec_CutRope.l0])
 | succ k2 => (
 have H := HA.out
 clear HA
 simp only [spec_CutRope.l0] at H
 by_cases BM : AN ≤ (wrap64 ((AB.length : Int) - 1))
 {
 rw [if_pos BM] at H
 have CB : decide (AN ≤ (wrap64 ((AB.length : Int) - 1))) = true := decide_eq_true BM
 (try (have CG : decide (AN ≤ (IntKind.i64.wrap ((AB.length : Int) - 1))) = true := by first | simpa only [i64_w, i32_w] using (show decide (AN ≤ (wrap64 ((AB.length : Int) - 1))) = true from decide_eq_true BM) | simpa only [i64_w] using (show decide (AN ≤ (wrap64 ((AB.length : Int) - 1))) = true from decide_eq_true BM)))
 clear BM
 by_cases C7 : 0 ≤ AN
 {
 rw [if_pos C7] at H
 have Ei : decide (0 ≤ AN) = true := decide_eq_true C7
 clear C7
 by_cases DH : AN < (AB.length : Int)
 {
 rw [if_pos DH] at H
 have ER : decide (AN < (AB.length : Int)) = true := decide_eq_true DH
 clear DH
 by_cases CT : AQ.length < 70368744177664
 {
 rw [if_pos CT] at H
 have B3 := ak CT
 clear CT
 obtain ⟨BJ, A2⟩ : ∃ y_ : List Int, y_ = (AQ ++ [IntKind.i16.wrap ((rd AB AN) - (rd AB a1))]) := ⟨_, rfl⟩
 replace H : (spec_CutRope.l0 k2 (wrap64 ((AB.length : Int) - 1)) (rd AB a1) (wrap64 (AN + 1)) AP AB (rd AB a1) Ao (IntKind.i16.wrap (AP - (rd AB a1))) BJ) = some (r1, r2, r3, r4, r5) := by first | (rw [A2]; with_reducible exact H) | (have BK := (Option.bind_some _ _).symm.trans H; rw [A2]; with_reducible exact BK) | (have BK := (Option.bind_some _ _).symm.trans H; with_reducible exact BK) | with_reducible exact H | (rw [A2]; exact H) | exact H
 have CJ := ak A2
 clear A2
 have H' := ak H
 clear H
 try go_wp2
 replace AL := ak (Kd.R_drew AL.out)
 replace AI := ak (Kd.R_drew AI.out)
 replace AA := ak (blk_drew AA.out)
 replace AC := ak (blk_drew AC.out)
 replace AD := ak (blk_drew AD.out)
 replace Aa := ak (blk_drew Aa.out)
 replace AO := ak (blk_drew AO.out)
 replace HB := ak (below_drew1 HB.out)
 have Bu : 0 ≤ (AN : Int) := of_decide_eq_true (by assumption)
 have Bw : AN < (AB.length : Int) := of_decide_eq_true (by assumption)
 obtain ⟨CH, Dm, Aq⟩ := Kd.at_int Az.out AN Bu Bw
 have Ai := Aq
 obtain rfl : Ap = CH := (by injection Dm)
 replace Aq := (HB.out.cell (World.block_lt_of_cell? w _ Aq)).trans Aq
 replace Bu := eq_true Bu
 replace Bw := eq_true Bw
 refine start_ (n := 13) (S := fun w' => w'.cell? ⟨AY, 0, none⟩ = some (.int .i16 (IntKind.i16.wrap (AP - (rd AB a1)))) ∧ w'.cell? ⟨AY, 1, none⟩ = some (Ah) ∧ w'.cell? ⟨AX, 0, none⟩ = some (.int .i16 AP) ∧ w'.cell? ⟨AX, 1, none⟩ = some (.slice (some Ap) AB.length An) ∧ w'.cell? (Ap.add (AN).toNat) = some (.int .i16 (rd AB AN))) (ds := [12]) (bA 13 0) (by kernel_rfl) rfl rfl ⟨(blk_cell AO.out 0).trans rfl, (blk_cell AO.out 1).trans rfl, (blk_cell AA.out 0).trans rfl, (blk_cell AA.out 1).trans rfl, ((HB.out.cell (World.block_lt_of_cell? w _ Ai)).trans Ai)⟩ (fun hHeld => ?_); refine with_tabW spec_CutRope.tab14 spec_CutRope.bits14 (fun HT_ HW_ => ?_)
 generalize wr.drew = E9 at AL AI AA AC AD Aa AO HB Aq hHeld ⊢
 refine pU 0 60 (bA 13 1) HT_ ?_
 refine pU 2 62 (bA 13 5) HT_ ?_
 refine pU 4 64 (bA 13 21) HT_ ?_
 refine pU 7 67 (bA 13 149) HT_ ?_
 refine tK 1 61 (bA 13 151) HT_ HW_ hHeld ?_
 refine tK 3 63 (bA 13 159) HT_ HW_ hHeld ?_
 refine pU 5 65 (bA 13 191) HT_ ?_
 refine tK 6 66 (bA 13 255) HT_ HW_ hHeld ?_
 refine pU 8 68 (bA 13 511) HT_ ?_
 refine one_ (i := 9) (N := some 69) (bA 13 1023) rfl rfl (one_of HT_.out (by kernel_rfl)) (by decide) (fun K hK => ?_)
 refine value_ (w1 := ?_) (v := ?_) (by rfl) rfl ?_ ?_
 rotate_left 2
 {
 go_simp
 constructor
 · rfl
 · rfl
 }
 refine hK.out _ _ ⟨(blk_cell (blk_alloc AO.out _) 0).trans rfl, (blk_cell (blk_alloc AO.out _) 1).trans rfl, (blk_cell (blk_alloc AA.out _) 0).trans rfl, (blk_cell (blk_alloc AA.out _) 1).trans rfl, (World.cell?_alloc_lt _ _ _ (World.block_lt_of_cell? _ _ (((HB.out.cell (World.block_lt_of_cell? w _ Ai)).trans Ai)))).trans (((HB.out.cell (World.block_lt_of_cell? w _ Ai)).trans Ai))⟩ (fun hHeld => ?_)
 clear hK K
 refine norm_ (a' := ?_) ?_ ?_
 rotate_left
 {
 show Act.put _ (some 69) _ = _
 simp only [Act.put, zs, zz, zk, i64_w, i32_w]
 rfl
 }
 refine one_ (i := 10) (N := some 70) (bA 13 2047) rfl rfl (one_of HT_.out (by kernel_rfl)) (by decide) (fun K hK => ?_)
 refine Kd.R_append_step (Kd.int .i16) (w0 := w) w.heap.size (by rfl) (.tmp 61) (.tmp 69) 25 24 (.int .i16 0) 2 rfl Tryz.underlying25 info24 rfl (by decide) (by omega) Ah AQ (IntKind.i16.wrap ((rd AB AN) - (rd AB a1))) [.int .i16 (IntKind.i16.wrap ((rd AB AN) - (rd AB a1)))] (fun k_ => some k_ ≠ (.slice Ar Ao.length As : Value).ownBlock) (fun _ => False) rfl rfl ?aP (fun _ hk => hk.elim) ?aF ?aO ?aB ?aS ?aL ?_
 (case aP => exact rfl)
 (case aB => exact (zH5 HB AE AJ AM At A6))
 (case aF => exact (fun k_ hk => Kd.fresh' (Kd.R_lt (zR AL.out)) k_ hk))
 (case aO => exact (zR AI.out))
 (case aS => exact (below_size (zH5 HB AE AJ AM At A6)))
 (case aL => have := B3.out; omega)
 intro Ev E2 ho hb hg hat
 rw [← CJ.out] at ho
 have Bq := ak (ho)
 replace AL := ak (Kd.R_after (ok := (fun _ => True)) (Kd.R_mono AL.out (fun _ hk => ⟨trivial, by first | exact hk | exact own_len_ hk⟩)) hg hat)
 replace AA := ak (blk_grown (g := AX) (o := .cells #[.int .i16 AP, .slice (some Ap) AB.length An] 27 (0, 0)) (zK AA.out) hg (Kd.R_ne AI.out AA.out (by decide)))
 replace AC := ak (blk_grown (g := AK) (o := .cells #[.int .i16 0, .slice none 0 0] 27 (0, 0)) (zK AC.out) hg (Kd.R_ne AI.out AC.out (by decide)))
 replace AD := ak (blk_grown (g := AH) (o := .cells #[.int .i16 0, .slice none 0 0] 27 (0, 0)) (zK AD.out) hg (Kd.R_ne AI.out AD.out (by decide)))
 replace Aa := ak (blk_grown (g := Ak) (o := .cells #[.int .i16 (rd AB a1), .slice Ar Ao.length As] 27 (0, 0)) (zK Aa.out) hg (Kd.R_ne AI.out Aa.out (by decide)))
 replace AO := ak (blk_grown (g := AY) (o := .cells #[.int .i16 (IntKind.i16.wrap (AP - (rd AB a1))), Ah] 27 (0, 0)) (zK AO.out) hg (Kd.R_ne AI.out AO.out (by decide)))
 replace HB := ak (hb)
 clear AI
 obtain ⟨Bx, Bv, B8⟩ := Kd.R_slice Bq.out
 (first | subst B8 | (injection B8 with f1_ f2_ f3_; have Dc := f1_.symm; have Dh := f3_.symm; clear f1_ f2_ f3_; subst Dc; subst Dh))
 refine hK.out _ _ ⟨(blk_cell AO.out 0).trans rfl, (blk_cell AO.out 1).trans rfl, (blk_cell AA.out 0).trans rfl, (blk_cell AA.out 1).trans rfl, ((HB.out.cell (World.block_lt_of_cell? w _ Ai)).trans Ai)⟩ (fun hHeld => ?_)
 clear hK K
 refine norm_ (a' := ?_) ?_ ?_
 rotate_left
 {
 show Act.put _ (some 70) _ = _
 simp only [Act.put, zs, zz, zk, i64_w, i32_w]
 rfl
 }
 refine pU 11 71 (bA 13 4095) HT_ ?_
 refine last_ (i := 12) (N := none) #[true, true, true, true, true, true, true, true, true, true, true, true, true] rfl rfl (one_of HT_.out (by kernel_rfl)) (by decide) (fun K hK => ?_)
 have E3 : E2.cell? ⟨AY, 1, none⟩ = some (Ah) := (blk_cell AO.out 1).trans rfl
 have D9 := blk_frozen AO.out 1
 have CQ := Aj.out
 have Ce := Ac.out
 have CZ := Af.out
 have CU := Al.out
 have Cg := Aw.out
 have Cc := Ab.out
 have DU := AZ.out
 have Ci := Ay.out
 refine skip_ (w1 := ?_) (by rfl) rfl ?_ ?_
 rotate_left
 · go_simp; rfl
 refine hK.out _ _ ?_
 clear hK K
 refine done_ (done_of HT_.out (by kernel_rfl)) ?_
 try go_wp2
 go_roundg k2
 case measure => have := EO.out; have := EK.out; omega
 case rel => exact ⟨(wrap64 (AN + 1)), (BJ), (.slice Bx BJ.length Bv), rfl, H', ⟨by have := EO.out; have := EK.out; omega⟩, ⟨Kd.R_mono (Kd.R_far (p := ⟨AY, 1, none⟩) (Kd.R_types AL.out AO.out (by decide)) (fun _ hk => hk.2) (.slice Bx BJ.length Bv)) (fun _ hk => hk.1.2)⟩, ⟨Kd.R_mono (Kd.R_far (p := ⟨AY, 1, none⟩) (Kd.R_types Bq.out AO.out (by decide)) (fun _ hk => hk.2) (.slice Bx BJ.length Bv)) (fun _ hk => hk.1)⟩, ⟨by refine blk_far ?_ Aj.out _; exact AA.out⟩, ⟨by refine blk_far ?_ Ac.out _; exact AC.out⟩, ⟨by refine blk_far ?_ Af.out _; exact AD.out⟩, ⟨by refine blk_far ?_ Al.out _; exact Aa.out⟩, ⟨by refine blk_put (cs := #[.int .i16 (IntKind.i16.wrap (AP - (rd AB a1))), Ah]) ?_ 1 _ rfl; exact AO.out⟩, ⟨zH5 HB AE AJ AM At A6⟩⟩
 }
 · rw [if_neg CT] at H; exact absurd H (by simp)
 }
 · rw [if_neg DH] at H; exact absurd H (by simp)
 }
 · rw [if_neg C7] at H; exact absurd H (by simp)
 }
 {
 rw [if_neg BM] at H
 have CB : decide (AN ≤ (wrap64 ((AB.length : Int) - 1))) = false := decide_eq_false BM
 (try (have CG : decide (AN ≤ (IntKind.i64.wrap ((AB.length : Int) - 1))) = false := by first | simpa only [i64_w, i32_w] using (show decide (AN ≤ (wrap64 ((AB.length : Int) - 1))) = false from decide_eq_false BM) | simpa only [i64_w] using (show decide (AN ≤ (wrap64 ((AB.length : Int) - 1))) = false from decide_eq_false BM)))
 clear BM
 simp only [Option.some.injEq, Prod.mk.injEq] at H
 obtain ⟨rfl, rfl, rfl, rfl, rfl⟩ := H
 try go_wp2
 replace AL := ak (Kd.R_drew AL.out)
 replace AI := ak (Kd.R_drew AI.out)
 replace AA := ak (blk_drew AA.out)
 replace AC := ak (blk_drew AC.out)
 replace AD := ak (blk_drew AD.out)
 replace Aa := ak (blk_drew Aa.out)
 replace AO := ak (blk_drew AO.out)
 replace HB := ak (below_drew1 HB.out)
 obtain ⟨Bd, BT, CA⟩ := Kd.R_slice AI.out
 (first | subst CA | (injection CA with f1_ f2_ f3_; have Dc := f1_.symm; have Dh := f3_.symm; clear f1_ f2_ f3_; subst Dc; subst Dh))
 refine start_ (n := 5) (S := fun w' => w'.cell? ⟨Ak, 0, none⟩ = some (.int .i16 (rd AB a1)) ∧ w'.cell? ⟨Ak, 1, none⟩ = some (.slice Ar Ao.length As) ∧ w'.cell? ⟨AY, 0, none⟩ = some (.int .i16 (IntKind.i16.wrap (AP - (rd AB a1)))) ∧ w'.cell? ⟨AY, 1, none⟩ = some (.slice Bd AQ.length BT)) (ds := []) (bA 5 0) (by kernel_rfl) rfl rfl ⟨(blk_cell Aa.out 0).trans rfl, (blk_cell Aa.out 1).trans rfl, (blk_cell AO.out 0).trans rfl, (blk_cell AO.out 1).trans rfl⟩ (fun hHeld => ?_)
 generalize wr.drew = Ck at AL AI AA AC AD Aa AO HB hHeld ⊢
 refine take_ (i := 0) (N := some 72) (v := ?_) (a' := ?_) (bA 5 1) rfl rfl (by kernel_rfl) (fun _ _ _ h => h) (Or.inl ⟨by rfl, ?_⟩) hHeld ?_ ?_
 rotate_left
 {
 rintro w' ⟨s0, s1, s2, s3⟩
 go_simp
 with_reducible rfl
 }
 rotate_left
 · simp only [Act.put, zs, zz, zk, i64_w, i32_w]; rfl
 refine take_ (i := 1) (N := some 73) (v := ?_) (a' := ?_) (bA 5 3) rfl rfl (by kernel_rfl) (fun _ _ _ h => h) (Or.inl ⟨by rfl, ?_⟩) hHeld ?_ ?_
 rotate_left
 {
 rintro w' ⟨s0, s1, s2, s3⟩
 go_simp
 with_reducible rfl
 }
 rotate_left
 · simp only [Act.put, zs, zz, zk, i64_w, i32_w]; rfl
 refine one_ (i := 2) (N := none) (bA 5 7) rfl rfl (by kernel_rfl) (by decide) (fun K hK => ?_)
 have Er : Ck.cell? ⟨AK, 0, none⟩ = some (.int .i16 0) := (blk_cell AC.out 0).trans rfl
 have EP := blk_frozen AC.out 0
 have C8 := AV.out
 have DT := AF.out
 have DV := Ag.out
 have DE := Ab.out
 have CS := AT.out
 have C9 := AG.out
 have C3 := AU.out
 have Co := Ac.out
 have Ep : Ck.cell? ⟨AK, 1, none⟩ = some (.slice none 0 0) := (blk_cell AC.out 1).trans rfl
 have D7 := blk_frozen AC.out 1
 have Ct := AV.out
 have C2 := AF.out
 have CX := Ag.out
 have C4 := Ab.out
 have DY := AT.out
 have Cz := AG.out
 have DC := AU.out
 have C0 := Ac.out
 refine skip_ (w1 := ?_) (by rfl) rfl ?_ ?_
 rotate_left
 · go_simp; rfl
 refine hK.out _ _ ⟨((cell_far (p := ⟨AK, _, none⟩) Ag.out _).trans (((cell_far (p := ⟨AK, _, none⟩) Ag.out _).trans (hHeld.1)))), ((cell_far (p := ⟨AK, _, none⟩) Ag.out _).trans (((cell_far (p := ⟨AK, _, none⟩) Ag.out _).trans (hHeld.2.1)))), ((cell_far (p := ⟨AK, _, none⟩) Ab.out _).trans (((cell_far (p := ⟨AK, _, none⟩) Ab.out _).trans (hHeld.2.2.1)))), ((cell_far (p := ⟨AK, _, none⟩) Ab.out _).trans (((cell_far (p := ⟨AK, _, none⟩) Ab.out _).trans (hHeld.2.2.2))))⟩ (fun hHeld => ?_)
 clear hK K
 refine one_ (i := 3) (N := none) (bA 5 15) rfl rfl (by kernel_rfl) (by decide) (fun K hK => ?_)
 have Ew : Ck.cell? ⟨AH, 0, none⟩ = some (.int .i16 0) := (blk_cell AD.out 0).trans rfl
 have EC := blk_frozen AD.out 0
 have Cj := AS.out
 have CP := AG.out
 have Cu := Ad.out
 have DB := AZ.out
 have Cr := AR.out
 have CV := AF.out
 have DI := AW.out
 have Cd := Af.out
 have Eu : Ck.cell? ⟨AH, 1, none⟩ = some (.slice none 0 0) := (blk_cell AD.out 1).trans rfl
 have Dx := blk_frozen AD.out 1
 have Cb := AS.out
 have DM := AG.out
 have DG := Ad.out
 have Cp := AZ.out
 have Cq := AR.out
 have DL := AF.out
 have Cx := AW.out
 have DZ := Af.out
 refine skip_ (w1 := ?_) (by rfl) rfl ?_ ?_
 rotate_left
 · go_simp; rfl
 refine hK.out _ _ ⟨((cell_far (p := ⟨AH, _, none⟩) Ad.out _).trans (((cell_far (p := ⟨AH, _, none⟩) Ad.out _).trans (hHeld.1)))), ((cell_far (p := ⟨AH, _, none⟩) Ad.out _).trans (((cell_far (p := ⟨AH, _, none⟩) Ad.out _).trans (hHeld.2.1)))), ((cell_far (p := ⟨AH, _, none⟩) AZ.out _).trans (((cell_far (p := ⟨AH, _, none⟩) AZ.out _).trans (hHeld.2.2.1)))), ((cell_far (p := ⟨AH, _, none⟩) AZ.out _).trans (((cell_far (p := ⟨AH, _, none⟩) AZ.out _).trans (hHeld.2.2.2))))⟩ (fun hHeld => ?_)
 clear hK K
 refine pure_ (i := 4) (N := some 6) (v := ?_) (a' := ?_) (bA 5 31) rfl rfl (by kernel_rfl) (fun _ _ _ h => h) (Or.inl ⟨by rfl, ?_⟩) ?_ ?_
 rotate_left
 {
 intro w'
 go_simp
 with_reducible rfl
 }
 rotate_left
 · simp only [Act.put, zs, zz, zk, i64_w, i32_w]; rfl
 refine done_ (by kernel_rfl) ?_
 try go_wp2
 refine bodyPost_ret (results_list (rs := [.cell 4 27, .cell 5 27, .tmp 6]) rfl (by simp) (.cell AK 27 #[.int .i16 (rd AB a1), .slice Ar Ao.length As] (0, 0) _ rfl (by refine blk_far ?_ AG.out _; refine blk_far ?_ AG.out _; refine blk_put (cs := #[.int .i16 (rd AB a1), .slice none 0 0]) ?_ 1 _ rfl; refine blk_put (cs := #[.int .i16 0, .slice none 0 0]) ?_ 0 _ rfl; exact AC.out) Tryz.underlying27 rfl (by kernel_rfl) (.cell AH 27 #[.int .i16 (IntKind.i16.wrap (AP - (rd AB a1))), .slice Bd AQ.length BT] (0, 0) _ rfl (by refine blk_put (cs := #[.int .i16 (IntKind.i16.wrap (AP - (rd AB a1))), .slice none 0 0]) ?_ 1 _ rfl; refine blk_put (cs := #[.int .i16 0, .slice none 0 0]) ?_ 0 _ rfl; refine blk_far ?_ AF.out _; refine blk_far ?_ AF.out _; exact AD.out) Tryz.underlying27 rfl (by kernel_rfl) (.tmp .nil)))) rfl ?_
 exact ⟨_, _, by first | rfl | (simp [errW_none, errW_some] <;> rfl) | (simp only [← A8]; first | rfl | (simp [errW_none, errW_some] <;> rfl)) | (simp [*, errW_none, errW_some] <;> rfl), Kd.R_mono (Kd.R_far (p := ⟨AH, 1, none⟩) (Kd.R_far (p := ⟨AH, 0, none⟩) (Kd.R_far (p := ⟨AK, 1, none⟩) (Kd.R_far (p := ⟨AK, 0, none⟩) (Kd.R_types (Kd.R_types AL.out AC.out (by decide)) AD.out (by decide)) (fun _ hk => hk.1.2) (.int .i16 (rd AB a1))) (fun _ hk => hk.1.2) (.slice Ar Ao.length As)) (fun _ hk => hk.2) (.int .i16 (IntKind.i16.wrap (AP - (rd AB a1))))) (fun _ hk => hk.2) (.slice Bd AQ.length BT)) (fun _ hk => hk.1.1), Kd.R_mono (Kd.R_far (p := ⟨AH, 1, none⟩) (Kd.R_far (p := ⟨AH, 0, none⟩) (Kd.R_far (p := ⟨AK, 1, none⟩) (Kd.R_far (p := ⟨AK, 0, none⟩) (Kd.R_types (Kd.R_types AI.out AC.out (by decide)) AD.out (by decide)) (fun _ hk => hk.1.2) (.int .i16 (rd AB a1))) (fun _ hk => hk.1.2) (.slice Ar Ao.length As)) (fun _ hk => hk.2) (.int .i16 (IntKind.i16.wrap (AP - (rd AB a1))))) (fun _ hk => hk.2) (.slice Bd AQ.length BT)) (fun _ hk => hk.1.1), zH5 HB AE AJ AM At A6⟩
 }
 )
 )
 }
 · rw [if_neg CL] at H; exact absurd H (by simp)
 }
 · rw [if_neg Bz] at H; exact absurd H (by simp)
 }
 · rw [if_neg B0] at H; exact absurd H (by simp)
 }
 · rw [if_neg B2] at H; exact absurd H (by simp)
 }
 · rw [if_neg CK] at H; exact absurd H (by simp)
 }
 )
 )
 }
 {
 replace c6 := Bool.eq_false_iff.mpr c6
 subst c6
 rw [if_neg (show ¬ (false = true) by decide)] at H
 simp only [Option.some.injEq, Prod.mk.injEq] at H
 obtain ⟨rfl, rfl, rfl, rfl, rfl⟩ := H
 go_enter Tryz.func17, Tryz.ntmps17
 go_wp2_with (first | ((with_reducible refine gate_dst (N := 2) rfl ?_); refine box_event ?hg (N := 2) ?hd (cs := #[.int .i16 AP, .slice Av AB.length An]) (t := 27) ?hr ?_; (case hd => rfl); (case hg => rfl); (case hr => first | (go_simp; done) | (go_simp; rfl)); intro AX hg FA hbox hb; have AA := ak (hbox); have Bt := gS HB hg; have AE := gS HB hg; replace HB := kB HB hb; clear hb hbox hg) | ((with_reducible refine gate_dst (N := 4) rfl ?_); refine box_event ?hg (N := 4) ?hd (cs := #[.int .i16 0, .slice none 0 0]) (t := 27) ?hr ?_; (case hd => rfl); (case hg => rfl); (case hr => first | (go_simp; done) | (go_simp; rfl)); intro AK hg E8 hbox hb; have AC := ak (hbox); have Bn := gS1 HB AE hg; have AJ := gS1 HB AE hg; have AV := nL AA hg; have AT := nG AA hg; replace AA := kK AA hb; replace HB := kB1 HB AE hb; clear hb hbox hg) | ((with_reducible refine gate_dst (N := 5) rfl ?_); refine box_event ?hg (N := 5) ?hd (cs := #[.int .i16 0, .slice none 0 0]) (t := 27) ?hr ?_; (case hd => rfl); (case hg => rfl); (case hr => first | (go_simp; done) | (go_simp; rfl)); intro AH hg FB hbox hb; have AD := ak (hbox); have Bl := ak ((by rw [hg]; exact (below_size (zH2 HB AE AJ)) : w.heap.size ≤ AH)); have AM := ak ((by rw [hg]; exact (below_size (zH2 HB AE AJ)) : w.heap.size ≤ AH)); have AS := nL AA hg; have AR := nG AA hg; have AG := nL AC hg; have AF := nG AC hg; replace AA := kK AA hb; replace AC := kK AC hb; replace HB := kB2 HB AE AJ hb; clear hb hbox hg) | ((with_reducible refine gate_callee (f := 39) rfl ?_); refine goesL_ (some 12) rfl rfl Tryz.func39 (by kernel_rfl) rfl #[.pointer (some ⟨AX, 0, none⟩)] rfl gl_ ?_; (with_reducible refine (spec_l03Ok.calls k AX AP Av An AB true _ ?side1 ?side2 ?side3 A3.out).mono ?_); (case side1 => exact sQ (Kd.C_below Az.out HB.out)); (case side2 => exact BE.out); (case side3 => exact (zK AA.out)); rintro e BL ⟨rfl, hb⟩; refine ⟨_, rfl, ?_⟩; replace AA := kK AA hb; replace AC := kK AC hb; replace AD := kK AD hb; replace HB := kB3 HB AE AJ AM hb; (try clear hb); have Eg := AV.out; have D3 := AT.out; have D4 := AS.out; have EF := AR.out; obtain ⟨DQ, Cv, DR, DN⟩ := cz2 BL AA) | ((with_reducible refine gate_callee (f := 48) rfl ?_); refine goesL_ (some 22) rfl rfl Tryz.func48 (by kernel_rfl) rfl #[.int .i64 a1, .int .i64 0, .int .i64 (wrap64 ((AB.length : Int) - 1))] rfl gl_ ?_; (with_reducible refine (spec_l00In.calls a1 0 (wrap64 ((AB.length : Int) - 1)) false _ A5.out).mono ?_); rintro e w' ⟨rfl, ⟨nd, rfl⟩⟩; refine ⟨_, rfl, ?_⟩; (try (rw [drewN_self BL]; generalize CI : World.drewN BL _ = BL; have ET : Aside0 (BL.heap[AX]? = some (.cells #[.int .i16 AP, .slice Av AB.length An] 27 (0, 0))) := ⟨by rw [← CI]; exact (zK AA.out)⟩; have D0 : Aside0 (BL.heap[AK]? = some (.cells #[.int .i16 0, .slice none 0 0] 27 (0, 0))) := ⟨by rw [← CI]; exact (zK AC.out)⟩; have Dp : Aside0 (BL.heap[AH]? = some (.cells #[.int .i16 0, .slice none 0 0] 27 (0, 0))) := ⟨by rw [← CI]; exact (zK AD.out)⟩; have EU : Aside0 (Below w.heap.size w BL) := ⟨by rw [← CI]; exact (zH3 HB AE AJ AM)⟩; clear AA AC AD HB CI; have AA := ET; have AC := D0; have AD := Dp; have HB := EU; clear ET D0 Dp EU)); have Eh := AG.out; have EH := AF.out; obtain ⟨Cf, DK, CW, Cn⟩ := cz2 BL AC; obtain ⟨DO, DA, C1, DF⟩ := cz2 BL AD))
 refine bodyPost_ret (results_list (rs := [.cell 4 27, .cell 5 27, .tmp 6]) rfl (by simp) (.cell AK 27 #[.int .i16 0, .slice none 0 0] (0, 0) _ rfl (by refine blk_far ?_ AG.out _; refine blk_far ?_ AG.out _; refine blk_put (cs := #[.int .i16 0, .slice none 0 0]) ?_ 1 _ rfl; refine blk_put (cs := #[.int .i16 0, .slice none 0 0]) ?_ 0 _ rfl; exact AC.out) Tryz.underlying27 rfl (by kernel_rfl) (.cell AH 27 #[.int .i16 0, .slice none 0 0] (0, 0) _ rfl (by refine blk_put (cs := #[.int .i16 0, .slice none 0 0]) ?_ 1 _ rfl; refine blk_put (cs := #[.int .i16 0, .slice none 0 0]) ?_ 0 _ rfl; refine blk_far ?_ AF.out _; refine blk_far ?_ AF.out _; exact AD.out) Tryz.underlying27 rfl (by kernel_rfl) (.tmp .nil)))) rfl ?_
 exact ⟨_, _, rfl, by first | exact Kd.R_nil _ _ _ _ _ | exact Kd.N_nil _ _ _ _ _ | exact Kd.V_nil _ _ _ _ _ | exact Kd.Q_nil _ _ _ _ _ | exact Kd.S_nil _ _ _ _ _, by first | exact Kd.R_nil _ _ _ _ _ | exact Kd.N_nil _ _ _ _ _ | exact Kd.V_nil _ _ _ _ _ | exact Kd.Q_nil _ _ _ _ _ | exact Kd.S_nil _ _ _ _ _, zH3 HB AE AJ AM⟩
 }
 }
 {
 replace c4 := Bool.eq_false_iff.mpr c4
 subst c4
 rw [if_neg (show ¬ (false = true) by decide)] at H
 simp only [Option.some.injEq, Prod.mk.injEq] at H
 obtain ⟨rfl, rfl, rfl, rfl, rfl⟩ := H
 go_enter Tryz.func17, Tryz.ntmps17
 go_wp2_with (first | ((with_reducible refine gate_dst (N := 2) rfl ?_); refine box_event ?hg (N := 2) ?hd (cs := #[.int .i16 AP, .slice Av AB.length An]) (t := 27) ?hr ?_; (case hd => rfl); (case hg => rfl); (case hr => first | (go_simp; done) | (go_simp; rfl)); intro AX hg E7 hbox hb; have AA := ak (hbox); have Bt := gS HB hg; have AE := gS HB hg; replace HB := kB HB hb; clear hb hbox hg) | ((with_reducible refine gate_dst (N := 4) rfl ?_); refine box_event ?hg (N := 4) ?hd (cs := #[.int .i16 0, .slice none 0 0]) (t := 27) ?hr ?_; (case hd => rfl); (case hg => rfl); (case hr => first | (go_simp; done) | (go_simp; rfl)); intro AK hg E4 hbox hb; have AC := ak (hbox); have Bn := gS1 HB AE hg; have AJ := gS1 HB AE hg; have AV := nL AA hg; have AT := nG AA hg; replace AA := kK AA hb; replace HB := kB1 HB AE hb; clear hb hbox hg) | ((with_reducible refine gate_dst (N := 5) rfl ?_); refine box_event ?hg (N := 5) ?hd (cs := #[.int .i16 0, .slice none 0 0]) (t := 27) ?hr ?_; (case hd => rfl); (case hg => rfl); (case hr => first | (go_simp; done) | (go_simp; rfl)); intro AH hg FC hbox hb; have AD := ak (hbox); have Bl := ak ((by rw [hg]; exact (below_size (zH2 HB AE AJ)) : w.heap.size ≤ AH)); have AM := ak ((by rw [hg]; exact (below_size (zH2 HB AE AJ)) : w.heap.size ≤ AH)); have AS := nL AA hg; have AR := nG AA hg; have AG := nL AC hg; have AF := nG AC hg; replace AA := kK AA hb; replace AC := kK AC hb; replace HB := kB2 HB AE AJ hb; clear hb hbox hg) | ((with_reducible refine gate_callee (f := 39) rfl ?_); refine goesL_ (some 12) rfl rfl Tryz.func39 (by kernel_rfl) rfl #[.pointer (some ⟨AX, 0, none⟩)] rfl gl_ ?_; (with_reducible refine (spec_l03Ok.calls k AX AP Av An AB false _ ?side1 ?side2 ?side3 A3.out).mono ?_); (case side1 => exact sQ (Kd.C_below Az.out HB.out)); (case side2 => exact BE.out); (case side3 => exact (zK AA.out)); rintro e Dy ⟨rfl, hb⟩; refine ⟨_, rfl, ?_⟩; replace AA := kK AA hb; replace AC := kK AC hb; replace AD := kK AD hb; replace HB := kB3 HB AE AJ AM hb; (try clear hb); have D5 := AT.out; have D8 := AV.out; have Ec := AG.out; have EJ := AF.out; obtain ⟨Cy, Cs, C5, DX⟩ := cz2 Dy AC; have D2 := AR.out; have Ea := AS.out; obtain ⟨DW, Ch, CY, Cl⟩ := cz2 Dy AD))
 refine bodyPost_ret (results_list (rs := [.cell 4 27, .cell 5 27, .tmp 6]) rfl (by simp) (.cell AK 27 #[.int .i16 0, .slice none 0 0] (0, 0) _ rfl (by refine blk_far ?_ AG.out _; refine blk_far ?_ AG.out _; refine blk_put (cs := #[.int .i16 0, .slice none 0 0]) ?_ 1 _ rfl; refine blk_put (cs := #[.int .i16 0, .slice none 0 0]) ?_ 0 _ rfl; exact AC.out) Tryz.underlying27 rfl (by kernel_rfl) (.cell AH 27 #[.int .i16 0, .slice none 0 0] (0, 0) _ rfl (by refine blk_put (cs := #[.int .i16 0, .slice none 0 0]) ?_ 1 _ rfl; refine blk_put (cs := #[.int .i16 0, .slice none 0 0]) ?_ 0 _ rfl; refine blk_far ?_ AF.out _; refine blk_far ?_ AF.out _; exact AD.out) Tryz.underlying27 rfl (by kernel_rfl) (.tmp .nil)))) rfl ?_
 exact ⟨_, _, rfl, by first | exact Kd.R_nil _ _ _ _ _ | exact Kd.N_nil _ _ _ _ _ | exact Kd.V_nil _ _ _ _ _ | exact Kd.Q_nil _ _ _ _ _ | exact Kd.S_nil _ _ _ _ _, by first | exact Kd.R_nil _ _ _ _ _ | exact Kd.N_nil _ _ _ _ _ | exact Kd.V_nil _ _ _ _ _ | exact Kd.Q_nil _ _ _ _ _ | exact Kd.S_nil _ _ _ _ _, zH3 HB AE AJ AM⟩
 }
/-! ### spec_P6Pick: function 18 -/
def spec_P6Pick.f (l0 : List Int) (a1 : Int) : Option (Int) := (spec_l00From.f l0).bind fun AA => ((spec_l00Src_pick.f AA.1 AA.2.1 AA.2.2 a1).bind fun AB => (some AB.1))
set_option maxHeartbeats 8000000 in
set_option maxRecDepth 100000 in
theorem spec_P6Pick.calls (A0 : Option Addr) (c0 : Nat) (l0 : List Int) (a1 : Int) (r : Int) (w : World) (AJ : Kd.C (Kd.int .u8) w A0 l0.length l0) (AL : l0.length ≤ c0) (h : spec_P6Pick.f l0 a1 = some r) :
    Calls Tryz.prog 18 #[.slice A0 l0.length c0, .int .i64 a1] w fun e w' => e = .returned (.int .i64 r) ∧ Below w.heap.size w w' := by
 have AN := ak AJ
 have AM := ak AL
 clear AJ AL
 have HB := ak (Below.refl w.heap.size w)
 have H := h
 unfold spec_P6Pick.f at H
 clear h
 replace H := Option.bind_eq_some_iff.mp H
 obtain ⟨⟨AC, AD, AB⟩, AI, H⟩ := H
 have A3 := ak AI
 clear AI
 replace H := Option.bind_eq_some_iff.mp H
 obtain ⟨⟨AH, AG, AF⟩, AK, H⟩ := H
 have A4 := ak AK
 clear AK
 obtain rfl := Option.some.inj H
 go_enter Tryz.func18, Tryz.ntmps18
 go_wp2_with (first | ((with_reducible refine gate_callee (f := 33) rfl ?_); refine goesL_ (some 6) rfl rfl Tryz.func33 (by kernel_rfl) rfl #[.slice A0 l0.length c0] rfl gl_ ?_; (with_reducible refine (spec_l00From.calls _ _ l0 AC AD AB w _ ?side1 ?side2 ?side3 A3.out).mono ?_); (case side1 => repeat (first | (with_reducible first | exact HB.out | apply below_alloc | apply pw_below_drewN | apply below_drew1) | exact HB.out)); (case side2 => exact AN.out); (case side3 => exact AM.out); rintro e w5 ⟨AE, rfl, hi, hb, AO⟩; refine ⟨_, rfl, ?_⟩; have AA := ak (hi); replace HB := ak (hb); (try clear hb); (try clear AO); (try clear hi)) | ((with_reducible refine gate_callee (f := 49) rfl ?_); refine goesL_ (some 8) rfl rfl Tryz.func49 (by kernel_rfl) rfl #[.pointer (some ⟨AE, 0, none⟩), .int .i64 a1] rfl gl_ ?_; (with_reducible refine (spec_l00Src_pick.calls AE AC AD AB a1 AH AG AF w _ ?side1 ?side2 A4.out).mono ?_); (case side1 => repeat (first | (with_reducible first | exact AA.out | apply IsS86.alloc | apply IsS86.drewN | apply IsS86.drew | apply IsS86.set_1 | apply IsS86.set_2) | exact AA.out)); (case side2 => repeat (first | (with_reducible first | exact HB.out | apply below_alloc | apply pw_below_drewN | apply below_drew1 | refine below_set ?_ (IsS86.ge AA.out)) | exact HB.out)); rintro e w6 ⟨rfl, hi, hb, hk⟩; refine ⟨_, rfl, ?_⟩; replace HB := ak (hb); replace AA := ak (hi); (try clear hb); (try clear hk); (try clear hi)))
 go_ret
 exact ⟨rfl, by repeat (first | (with_reducible first | exact HB.out | apply below_alloc | apply pw_below_drewN | apply below_drew1 | refine below_set ?_ (IsS86.ge AA.out)) | exact HB.out)⟩
end Go.Proofs.YtlggjfhoecaelaaGreatDoor.P
