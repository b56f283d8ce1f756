-- Printed by wip/print (my turned copy of the kit's print) out of the translation; Lean checks it.
import Derived.Test.YtlggjfhoecaelaaGreatDoorP0
import Derived.Test.YtlggjfhoecaelaaGreatDoorP13
namespace Go.Proofs.YtlggjfhoecaelaaGreatDoor.P
open Go.RowKit Go.Proofs.YtlggjfhoecaelaaGreatDoorW.PrintWords Go.Proofs.YtlggjfhoecaelaaGreatDoorW.PrintLast Go.Proofs.YtlggjfhoecaelaaGreatDoorW.PrintMore
attribute [local go_sem] max2_int min2_int max_two min_two max_three min_three max_four min_four   -- for this text's walks alone
set_option linter.unusedVariables false
set_option linter.unusedSimpArgs false

/-! ### spec_TakeHold: function 28 -/
mutual
def spec_TakeHold.l0 : Nat → List (S52) → Int → Int → Int → Int → Option ((List (S52)) × Int)
  | 0, _, _, _, _, _ => none
  | k + 1, x1, x8, x9, AA, AB => if x9 < (x1.length : Int) then (if 0 ≤ x9 then (if ((rd_T52 x1 x9).f0) = AA then (spec_TakeHold.j1 k x1 x8 x9 true AA AB) else (spec_TakeHold.j1 k x1 x8 x9 (((rd_T52 x1 x9).f1) == AB) AA AB)) else (none)) else ((some (([] : List (S52)) : List (S52))).bind fun AC => (if 0 ≤ x8 then (if x8 ≤ (x1.length : Int) then ((some (x1.take (x8 : Int).toNat : List (S52))).bind fun AD => (if AC.length + AD.length < 35184372088832 then ((some (AC ++ AD : List (S52))).bind fun AG => ((some (([(⟨AA, AB⟩ : S52)] : List (S52)) : List (S52))).bind fun AE => (if AG.length + AE.length < 35184372088832 then ((some (AG ++ AE : List (S52))).bind fun AH => ((some (x1.drop (x8 : Int).toNat : List (S52))).bind fun AF => (if AH.length + AF.length < 35184372088832 then (some ((AH ++ AF), 0)) else (none)))) else (none)))) else (none))) else (none)) else (none)))
def spec_TakeHold.j1 : Nat → List (S52) → Int → Int → Bool → Int → Int → Option ((List (S52)) × Int)
  | 0, _, _, _, _, _, _ => none
  | k + 1, x1, x8, x9, AC, AB, AA => if AC = true then (some ((([] : List (S52))), 4)) else (if 0 ≤ x9 then (if x9 < (x1.length : Int) then (if ((rd_T52 x1 x9).f1) < AA then (spec_TakeHold.l0 k x1 (wrap64 (x9 + 1)) (wrap64 (x9 + 1)) AB AA) else (spec_TakeHold.l0 k x1 x8 (wrap64 (x9 + 1)) AB AA)) else (none)) else (none))
end
def spec_TakeHold.f (k : Nat) (AD : Int) (AA : List Int) (l1 : List (S52)) (AB : Int) (AC : Int) : Option ((List (S52)) × Int) := (spec_l03Holds.f k AD AA l1).bind fun AE => (if AE = true then ((spec_l03Holds.f k AD AA (([(⟨AB, AC⟩ : S52)] : List (S52)))).bind fun AF => (if AF = true then (spec_TakeHold.l0 k l1 0 0 AB AC) else (some ((([] : List (S52))), 2)))) else (some ((([] : List (S52))), 1)))
def spec_TakeHold.T9 : Bool × List (List Nat × List Nat) := (true, [([], []), ([], []), ([0, 1], [0, 1]), ([2], [2]), ([3], [3]), ([], []), ([5], [5]), ([4, 6], [4, 6]), ([7], [7]), ([8], [8]), ([8], [8]), ([9, 10, 8], [8, 9, 10]), ([11, 8], [8, 11]), ([12, 8], [8, 12]), ([8], [8]), ([14, 8], [8, 14]), ([13, 15, 8], [8, 13, 15]), ([8, 16], [8, 16])])
def spec_TakeHold.B9 : List Nat := [0, 0, 3, 7, 15, 0, 32, 127, 255, 511, 511, 2047, 4095, 8191, 511, 16895, 65535, 131071]
theorem spec_TakeHold.tab9 : rtab .any (opsOf Tryz.f28 9) = spec_TakeHold.T9 := by kernel_rfl
theorem spec_TakeHold.bits9 : waitsOk spec_TakeHold.T9.2 spec_TakeHold.B9 = true := by kernel_rfl
def spec_TakeHold.T11 : Bool × List (List Nat × List Nat) := (true, [([], []), ([], []), ([0, 1], [0, 1]), ([2], [2]), ([3], [3]), ([], []), ([5], [5]), ([4, 6], [4, 6])])
def spec_TakeHold.B11 : List Nat := [0, 0, 3, 7, 15, 0, 32, 127]
theorem spec_TakeHold.tab11 : rtab .any (opsOf Tryz.f28 11) = spec_TakeHold.T11 := by kernel_rfl
theorem spec_TakeHold.bits11 : waitsOk spec_TakeHold.T11.2 spec_TakeHold.B11 = true := by kernel_rfl
def spec_TakeHold.T13 : Bool × List (List Nat × List Nat) := (true, [([], []), ([], []), ([], []), ([1, 2], [1, 2]), ([0, 3], [0, 3]), ([], []), ([5], [5]), ([4, 6, 4], [4, 6]), ([7, 7, 0, 1, 2, 3, 4, 5, 6, 7], [7])])
def spec_TakeHold.B13 : List Nat := [0, 0, 0, 6, 15, 0, 32, 127, 255]
theorem spec_TakeHold.tab13 : rtab .any (opsOf Tryz.f28 13) = spec_TakeHold.T13 := by kernel_rfl
theorem spec_TakeHold.bits13 : waitsOk spec_TakeHold.T13.2 spec_TakeHold.B13 = true := by kernel_rfl
set_option maxHeartbeats 8000000 in
set_option maxRecDepth 100000 in
theorem spec_TakeHold.calls (k : Nat) (AW : Int) (AZ : Option Addr) (AY : Nat) (AS : List Int) (A1 : Option Addr) (c1 : Nat) (l1 : List (S52)) (AE : Int) (AG : Int) (r1 : List (S52)) (r2 : Int) (w : World) (Bq : Kd.C (Kd.int .i16) w AZ AS.length AS) (Bl : AS.length ≤ AY) (DR : Kd.C k52 w A1 l1.length l1) (DS : l1.length ≤ c1) (h : spec_TakeHold.f k AW AS l1 AE AG = some (r1, r2)) :
    Calls Tryz.prog 28 #[.agg #[.int .i16 AW, .slice AZ AS.length AY], .slice A1 l1.length c1, .agg #[.int .i16 AE, .int .i8 AG]] w fun e w' => ∃ v0_ : Value, e = .returned (.tuple #[v0_, .int .i64 r2]) ∧ Kd.R k52 52 w' w.heap.size (fun _ => True) v0_ r1 ∧ Below w.heap.size w w' := by
 have Da := Tryz.underlying27
 have Do := Tryz.underlying52
 have A8 := ak Bq
 have A0 := ak Bl
 clear Bq Bl
 have Bc := ak DR
 have CQ := ak DS
 clear DR DS
 have HB := ak (Below.refl w.heap.size w)
 have H := h
 unfold spec_TakeHold.f at H
 clear h
 replace H := Option.bind_eq_some_iff.mp H
 obtain ⟨Cw, DG, H⟩ := H
 have A4 := ak DG
 clear DG
 by_cases c5 : Cw = true
 {
 subst c5
 rw [if_pos rfl] at H
 obtain ⟨Bb, A2⟩ : ∃ y_ : List (S52), y_ = (([(⟨AE, AG⟩ : S52)] : List (S52))) := ⟨_, rfl⟩
 replace H : ((spec_l03Holds.f k AW AS Bb).bind fun B1 => (if B1 = true then (spec_TakeHold.l0 k l1 0 0 AE AG) else (some ((([] : List (S52))), 2)))) = some (r1, r2) := by first | (rw [A2]; with_reducible exact H) | (have AU := (Option.bind_some _ _).symm.trans H; rw [A2]; with_reducible exact AU) | (have AU := (Option.bind_some _ _).symm.trans H; with_reducible exact AU) | with_reducible exact H | (rw [A2]; exact H) | exact H
 have BQ := ak A2
 clear A2
 replace H := Option.bind_eq_some_iff.mp H
 obtain ⟨B1, C9, H⟩ := H
 have A6 := ak C9
 clear C9
 by_cases c7 : B1 = true
 {
 subst c7
 rw [if_pos rfl] at H
 have H' := ak H
 clear H
 go_enter Tryz.func28, Tryz.ntmps28
 go_wp2_with (first | ((with_reducible refine gate_dst (N := 3) rfl ?_); refine box_event ?hg (N := 3) ?hd (cs := #[.int .i16 AW, .slice AZ AS.length AY]) (t := 27) ?hr ?_; (case hd => rfl); (case hg => rfl); (case hr => first | (go_simp; done) | (go_simp; rfl)); intro AK hg w8 hbox hb; have AB := ak (hbox); have Bi := gS HB hg; have AC := gS HB hg; replace HB := kB HB hb; clear hb hbox hg) | ((with_reducible refine gate_dst (N := 5) rfl ?_); refine box_event ?hg (N := 5) ?hd (cs := #[.int .i16 AE, .int .i8 AG]) (t := 52) ?hr ?_; (case hd => rfl); (case hg => rfl); (case hr => first | (go_simp; done) | (go_simp; rfl)); intro AD hg w9 hbox hb; have AA := ak (hbox); have Bs := gS1 HB AC hg; have AF := gS1 HB AC hg; have Ad := nL AB hg; have Ac := nG AB hg; replace AB := kK AB hb; replace HB := kB1 HB AC hb; clear hb hbox hg) | ((with_reducible refine gate_callee (f := 52) rfl ?_); refine goesL_ (some 12) rfl rfl Tryz.func52 (by kernel_rfl) rfl #[.pointer (some ⟨AK, 0, none⟩), .slice A1 l1.length c1] rfl gl_ ?_; (with_reducible refine (spec_l03Holds.calls k AK AW AZ AY AS _ _ l1 true _ ?side1 ?side2 ?side3 ?side4 ?side5 A4.out).mono ?_); (case side1 => exact sQ (Kd.C_below A8.out HB.out)); (case side2 => exact A0.out); (case side3 => exact sQ (Kd.C_below Bc.out HB.out)); (case side4 => exact CQ.out); (case side5 => exact (zK AB.out)); rintro e De ⟨rfl, hb⟩; refine ⟨_, rfl, ?_⟩; replace AB := kK AB hb; replace AA := kK AA hb; replace HB := kB2 HB AC AF hb; (try clear hb); have DH := Ac.out; have DL := Ad.out; obtain ⟨BK, BM, BI, BP⟩ := cz2 De AA) | ((with_reducible refine gate_dst (N := 16) rfl ?_); refine Kd.R_lit k52 _ 52 ?hg (N := 16) ?hd (xs := ([(⟨AE, AG⟩ : S52)] : List (S52))) (inner := [.int .i16 AE, .int .i8 AG]) (ok := fun _ => True) (okp := fun _ => True) ?hr ?hp (fun _ hk => hk) trivial (Below.refl _ _) (Nat.le_refl _) (by simp) ?_; (case hd => rfl); (case hg => rfl); (case hr => first | (go_simp; done) | (go_simp; rfl)); (case hp => exact (Reps.c2 (show Kd.M k52 _ _ _ (⟨AE, AG⟩ : S52) [.int .i16 AE, .int .i8 AG] from (k52_mkM _ _ _ (⟨AE, AG⟩ : S52) )) (Reps.none _ _))); intro C1 Du Ba hb As AP; clear As AP; (first | rw [← BQ.out] at Ba | (simp only [Int.reduceToNat] at Ba; rw [← BQ.out] at Ba)); have AT := ak (Kd.R_lower (Kd.R_newB Ba (g := AD) (o := .cells #[.int .i16 AE, .int .i8 AG] 52 (0, 0)) (zK AA.out)) (below_size (zH2 HB AC AF))); replace AB := kK AB hb; replace AA := kK AA hb; replace HB := kB2 HB AC AF hb; clear hb Ba; obtain ⟨C6, C2, C5⟩ := Kd.R_slice AT.out; subst C5) | ((with_reducible refine gate_callee (f := 52) rfl ?_); refine goesL_ (some 17) rfl rfl Tryz.func52 (by kernel_rfl) rfl #[.pointer (some ⟨AK, 0, none⟩), .slice C6 Bb.length C2] rfl gl_ ?_; (with_reducible refine (spec_l03Holds.calls k AK AW AZ AY AS _ _ Bb true _ ?side1 ?side2 ?side3 ?side4 ?side5 A6.out).mono ?_); (case side1 => exact sQ (Kd.C_below A8.out HB.out)); (case side2 => exact A0.out); (case side3 => exact sC AT); (case side4 => exact sL AT); (case side5 => exact (zK AB.out)); rintro e Dw ⟨rfl, hb⟩; refine ⟨_, rfl, ?_⟩; replace AT := kR AT hb; replace AB := kK AB hb; replace AA := kK AA hb; replace HB := kB2 HB AC AF hb; (try clear hb)))
 go_loopg [8, 9] k (fun kq v8 v9 w' => ∃ (AJ : Int) (AH : Int), v8 = .int .i64 AJ ∧ v9 = .int .i64 AH ∧ Aside0 (spec_TakeHold.l0 kq l1 AJ AH AE AG = some (r1, r2)) ∧ Aside0 (kq ≤ k) ∧ Aside0 (w'.heap[AK]? = some (.cells #[.int .i16 AW, (.slice AZ AS.length AY)] 27 (0, 0))) ∧ Aside0 (w'.heap[AD]? = some (.cells #[.int .i16 AE, .int .i8 AG] 52 (0, 0))) ∧ Aside0 (Below w.heap.size w w'))
 case atStart => exact ⟨(0), (0), rfl, rfl, H', ⟨Nat.le_refl _⟩, ⟨(zK AB.out)⟩, ⟨(zK AA.out)⟩, ⟨zH2 HB AC AF⟩⟩
 case round => (
 clear H'
 obtain ⟨AJ, AH, rfl, rfl, HA, CD, AB, AA, HB⟩ := hrel
 cases gk with
 | zero => exact absurd HA.out (by simp [spec_TakeHold.l0])
 | succ k1 => (
 have H := HA.out
 clear HA
 simp only [spec_TakeHold.l0] at H
 by_cases B6 : AH < (l1.length : Int)
 {
 rw [if_pos B6] at H
 have Bp : decide (AH < (l1.length : Int)) = true := decide_eq_true B6
 clear B6
 have B3 := ak H
 clear H
 go_upto_region 9 with (fail)
 go_cut [43] (fun DX wc => ∃ (kq : Nat) (At : Bool), DX = .bool At ∧ Aside0 (spec_TakeHold.j1 kq l1 AJ AH At AE AG = some (r1, r2)) ∧ Aside0 (kq ≤ k1) ∧ Aside0 (wc.heap[AK]? = some (.cells #[.int .i16 AW, (.slice AZ AS.length AY)] 27 (0, 0))) ∧ Aside0 (wc.heap[AD]? = some (.cells #[.int .i16 AE, .int .i8 AG] 52 (0, 0))) ∧ Aside0 (Below w.heap.size w wc))
 case first => (
 have H := B3.out
 clear B3
 by_cases Cm : 0 ≤ AH
 {
 rw [if_pos Cm] at H
 have Bn : decide (0 ≤ AH) = true := decide_eq_true Cm
 clear Cm
 (first | rw [Bn] | (simp only [i64_w, i32_w]; rw [Bn]) | skip)
 by_cases Bv : ((rd_T52 l1 AH).f0) = AE
 {
 rw [if_pos Bv] at H
 have CT : (((rd_T52 l1 AH).f0) == AE) = true := beq_iff_eq.mpr Bv
 have CF : (((rd_T52 l1 AH).f0) != AE) = false := bne_eq_false_iff_eq.mpr Bv
 clear Bv
 have H' := ak H
 clear H
 try go_wp2
 replace AB := ak (blk_drew AB.out)
 replace AA := ak (blk_drew AA.out)
 replace HB := ak (below_drew1 HB.out)
 have BG : 0 ≤ (AH : Int) := of_decide_eq_true (by assumption)
 have BD : AH < (l1.length : Int) := of_decide_eq_true (by assumption)
 obtain ⟨Ab, CA, AN, AM⟩ := at_T52 Bc.out AH BG BD
 have Af := AM
 have Ah := AN
 cases CA
 replace AN := (HB.out.cell (World.block_lt_of_cell? w _ AN)).trans AN
 replace AM := (HB.out.cell (World.block_lt_of_cell? w _ AM)).trans AM
 replace BG := eq_true BG
 replace BD := eq_true BD
 refine start_ (n := 18) (S := fun w' => w'.cell? ⟨AD, 0, none⟩ = some (.int .i16 AE) ∧ w'.cell? ⟨AD, 1, none⟩ = some (.int .i8 AG) ∧ w'.cell? (Ab.add ((AH).toNat * 2)) = some (.int .i16 ((rd_T52 l1 AH).f0)) ∧ w'.cell? ⟨(Ab.add ((AH).toNat * 2)).block, (Ab.add ((AH).toNat * 2)).off + 1, none⟩ = some (.int .i8 ((rd_T52 l1 AH).f1))) (ds := []) (bA 18 0) (by kernel_rfl) rfl rfl ⟨(blk_cell AA.out 0).trans rfl, (blk_cell AA.out 1).trans rfl, ((HB.out.cell (World.block_lt_of_cell? w _ Ah)).trans Ah), ((HB.out.cell (World.block_lt_of_cell? w _ Af)).trans Af)⟩ (fun hHeld => ?_); refine with_tabW spec_TakeHold.tab9 spec_TakeHold.bits9 (fun HT_ HW_ => ?_)
 generalize wr.drew = Dv at AB AA HB AN AM hHeld ⊢
 refine pU 0 26 (bA 18 1) HT_ ?_
 refine pU 1 27 (bA 18 3) HT_ ?_
 refine pU 2 28 (bA 18 7) HT_ ?_
 refine pU 3 29 (bA 18 15) HT_ ?_
 refine pU 5 31 (bA 18 47) HT_ ?_
 refine tK 4 30 (bA 18 63) HT_ HW_ hHeld ?_
 refine tK 6 32 (bA 18 127) HT_ HW_ hHeld ?_
 refine pU 7 33 (bA 18 255) HT_ ?_
 refine pU 8 34 (bA 18 511) HT_ ?_
 refine pN 9 35 (bA 18 1023) HT_ ?_
 refine pN 10 36 (bA 18 2047) HT_ ?_
 refine pN 11 37 (bA 18 4095) HT_ ?_
 refine pN 12 38 (bA 18 8191) HT_ ?_
 refine pN 13 39 (bA 18 16383) HT_ ?_
 refine pN 14 40 (bA 18 32767) HT_ ?_
 refine pN 15 41 (bA 18 65535) HT_ ?_
 refine pN 16 42 (bA 18 131071) HT_ ?_
 refine pU 17 43 (bA 18 262143) HT_ ?_
 refine done_ (done_of HT_.out (by kernel_rfl)) ?_
 try go_wp2
 go_meet
 case rel => exact ⟨_, (true), rfl, H', ⟨by have := CD.out; first | omega | exact Nat.le_refl _⟩, ⟨(zK AB.out)⟩, ⟨(zK AA.out)⟩, ⟨zH2 HB AC AF⟩⟩
 }
 {
 rw [if_neg Bv] at H
 have CT : (((rd_T52 l1 AH).f0) == AE) = false := beq_eq_false_iff_ne.mpr Bv
 have CF : (((rd_T52 l1 AH).f0) != AE) = true := bne_iff_ne.mpr Bv
 have H' := ak H
 clear H
 try go_wp2
 replace AB := ak (blk_drew AB.out)
 replace AA := ak (blk_drew AA.out)
 replace HB := ak (below_drew1 HB.out)
 have BG : 0 ≤ (AH : Int) := of_decide_eq_true (by assumption)
 have BD : AH < (l1.length : Int) := of_decide_eq_true (by assumption)
 obtain ⟨Ab, CA, AN, AM⟩ := at_T52 Bc.out AH BG BD
 have Af := AM
 have Ah := AN
 cases CA
 replace AN := (HB.out.cell (World.block_lt_of_cell? w _ AN)).trans AN
 replace AM := (HB.out.cell (World.block_lt_of_cell? w _ AM)).trans AM
 replace BG := eq_true BG
 replace BD := eq_true BD
 have Bz : 0 ≤ (AH : Int) := of_decide_eq_true (by assumption)
 have B0 : AH < (l1.length : Int) := of_decide_eq_true (by assumption)
 obtain ⟨CX, Cy, Ag, Aj⟩ := at_T52 Bc.out AH Bz B0
 have BR := Aj
 have BJ := Ag
 obtain rfl : Ab = CX := (by injection Cy)
 replace Ag := (HB.out.cell (World.block_lt_of_cell? w _ Ag)).trans Ag
 replace Aj := (HB.out.cell (World.block_lt_of_cell? w _ Aj)).trans Aj
 replace Bz := eq_true Bz
 replace B0 := eq_true B0
 refine start_ (n := 18) (S := fun w' => w'.cell? ⟨AD, 0, none⟩ = some (.int .i16 AE) ∧ w'.cell? ⟨AD, 1, none⟩ = some (.int .i8 AG) ∧ w'.cell? (Ab.add ((AH).toNat * 2)) = some (.int .i16 ((rd_T52 l1 AH).f0)) ∧ w'.cell? ⟨(Ab.add ((AH).toNat * 2)).block, (Ab.add ((AH).toNat * 2)).off + 1, none⟩ = some (.int .i8 ((rd_T52 l1 AH).f1)) ∧ w'.cell? (Ab.add ((AH).toNat * 2)) = some (.int .i16 ((rd_T52 l1 AH).f0)) ∧ w'.cell? ⟨(Ab.add ((AH).toNat * 2)).block, (Ab.add ((AH).toNat * 2)).off + 1, none⟩ = some (.int .i8 ((rd_T52 l1 AH).f1))) (ds := []) (bA 18 0) (by kernel_rfl) rfl rfl ⟨(blk_cell AA.out 0).trans rfl, (blk_cell AA.out 1).trans rfl, ((HB.out.cell (World.block_lt_of_cell? w _ Ah)).trans Ah), ((HB.out.cell (World.block_lt_of_cell? w _ Af)).trans Af), ((HB.out.cell (World.block_lt_of_cell? w _ BJ)).trans BJ), ((HB.out.cell (World.block_lt_of_cell? w _ BR)).trans BR)⟩ (fun hHeld => ?_); refine with_tabW spec_TakeHold.tab9 spec_TakeHold.bits9 (fun HT_ HW_ => ?_)
 generalize wr.drew = D9 at AB AA HB AN AM Ag Aj hHeld ⊢
 refine pU 0 26 (bA 18 1) HT_ ?_
 refine pU 1 27 (bA 18 3) HT_ ?_
 refine pU 2 28 (bA 18 7) HT_ ?_
 refine pU 3 29 (bA 18 15) HT_ ?_
 refine pU 5 31 (bA 18 47) HT_ ?_
 refine tK 4 30 (bA 18 63) HT_ HW_ hHeld ?_
 refine tK 6 32 (bA 18 127) HT_ HW_ hHeld ?_
 refine pU 7 33 (bA 18 255) HT_ ?_
 refine pU 8 34 (bA 18 511) HT_ ?_
 refine pU 9 35 (bA 18 1023) HT_ ?_
 refine pU 10 36 (bA 18 2047) HT_ ?_
 refine pU 11 37 (bA 18 4095) HT_ ?_
 refine pU 12 38 (bA 18 8191) HT_ ?_
 refine pU 14 40 (bA 18 24575) HT_ ?_
 refine tK 13 39 (bA 18 32767) HT_ HW_ hHeld ?_
 refine tK 15 41 (bA 18 65535) HT_ HW_ hHeld ?_
 refine pU 16 42 (bA 18 131071) HT_ ?_
 refine pU 17 43 (bA 18 262143) HT_ ?_
 refine done_ (done_of HT_.out (by kernel_rfl)) ?_
 try go_wp2
 go_meet
 case rel => exact ⟨_, ((((rd_T52 l1 AH).f1) == AG)), rfl, H', ⟨by have := CD.out; first | omega | exact Nat.le_refl _⟩, ⟨(zK AB.out)⟩, ⟨(zK AA.out)⟩, ⟨zH2 HB AC AF⟩⟩
 }
 }
 · rw [if_neg Cm] at H; exact absurd H (by simp)
 )
 case rest => (
 clear B3
 obtain ⟨kq, At, rfl, HA, Bf, AB, AA, HB⟩ := hcut
 cases kq with
 | zero => exact absurd HA.out (by simp [spec_TakeHold.j1])
 | succ CH => (
 have H := HA.out
 clear HA
 simp only [spec_TakeHold.j1] at H
 by_cases Ci : At = true
 {
 subst Ci
 rw [if_pos rfl] at H
 obtain ⟨C4, A9⟩ : ∃ y_ : List (S52), y_ = (([] : List (S52))) := ⟨_, rfl⟩
 replace H : (some (C4, 4)) = some (r1, r2) := by first | (rw [A9]; with_reducible exact H) | (have AU := (Option.bind_some _ _).symm.trans H; rw [A9]; with_reducible exact AU) | (have AU := (Option.bind_some _ _).symm.trans H; with_reducible exact AU) | with_reducible exact H | (rw [A9]; exact H) | exact H
 have Bo := ak A9
 clear A9
 simp only [Option.some.injEq, Prod.mk.injEq] at H
 obtain ⟨rfl, rfl⟩ := H
 go_wp2_with (first | ((with_reducible refine gate_dst (N := 44) rfl ?_); refine Kd.R_lit k52 _ 52 ?hg (N := 44) ?hd (xs := ([] : List (S52))) (inner := []) (ok := fun _ => True) (okp := fun _ => True) ?hr ?hp (fun _ hk => hk) trivial (Below.refl _ _) (Nat.le_refl _) (by simp) ?_; (case hd => rfl); (case hg => rfl); (case hr => first | (go_simp; done) | (go_simp; rfl)); (case hp => exact (Reps.none _ _)); intro Dp D5 BT hb As AP; clear As AP; (first | rw [← Bo.out] at BT | (simp only [Int.reduceToNat] at BT; rw [← Bo.out] at BT)); have Cc := ak (Kd.R_lower (Kd.R_newB BT (g := AD) (o := .cells #[.int .i16 AE, .int .i8 AG] 52 (0, 0)) (zK AA.out)) (below_size (zH2 HB AC AF))); replace AB := kK AB hb; replace AA := kK AA hb; replace HB := kB2 HB AC AF hb; clear hb BT))
 go_ret2
 exact ⟨_, rfl, Kd.R_mono Cc.out (fun _ hk => trivial), zH2 HB AC AF⟩
 }
 {
 replace Ci := Bool.eq_false_iff.mpr Ci
 subst Ci
 rw [if_neg (show ¬ (false = true) by decide)] at H
 by_cases Cp : 0 ≤ AH
 {
 rw [if_pos Cp] at H
 have DE : decide (0 ≤ AH) = true := decide_eq_true Cp
 clear Cp
 by_cases Cq : AH < (l1.length : Int)
 {
 rw [if_pos Cq] at H
 have DM : decide (AH < (l1.length : Int)) = true := decide_eq_true Cq
 clear Cq
 by_cases CE : ((rd_T52 l1 AH).f1) < AG
 {
 rw [if_pos CE] at H
 have CS : decide (((rd_T52 l1 AH).f1) < AG) = true := decide_eq_true CE
 clear CE
 have H' := ak H
 clear H
 try go_wp2
 replace AB := ak (blk_drew AB.out)
 replace AA := ak (blk_drew AA.out)
 replace HB := ak (below_drew1 HB.out)
 have BE : 0 ≤ (AH : Int) := of_decide_eq_true (by assumption)
 have BF : AH < (l1.length : Int) := of_decide_eq_true (by assumption)
 obtain ⟨Am, B8, AO, AL⟩ := at_T52 Bc.out AH BE BF
 have Ai := AL
 have Ak := AO
 cases B8
 replace AO := (HB.out.cell (World.block_lt_of_cell? w _ AO)).trans AO
 replace AL := (HB.out.cell (World.block_lt_of_cell? w _ AL)).trans AL
 replace BE := eq_true BE
 replace BF := eq_true BF
 refine start_ (n := 8) (S := fun w' => w'.cell? ⟨AD, 0, none⟩ = some (.int .i16 AE) ∧ w'.cell? ⟨AD, 1, none⟩ = some (.int .i8 AG) ∧ w'.cell? (Am.add ((AH).toNat * 2)) = some (.int .i16 ((rd_T52 l1 AH).f0)) ∧ w'.cell? ⟨(Am.add ((AH).toNat * 2)).block, (Am.add ((AH).toNat * 2)).off + 1, none⟩ = some (.int .i8 ((rd_T52 l1 AH).f1))) (ds := []) (bA 8 0) (by kernel_rfl) rfl rfl ⟨(blk_cell AA.out 0).trans rfl, (blk_cell AA.out 1).trans rfl, ((HB.out.cell (World.block_lt_of_cell? w _ Ak)).trans Ak), ((HB.out.cell (World.block_lt_of_cell? w _ Ai)).trans Ai)⟩ (fun hHeld => ?_); refine with_tabW spec_TakeHold.tab11 spec_TakeHold.bits11 (fun HT_ HW_ => ?_)
 generalize wc.drew = Dy at AB AA HB AO AL hHeld ⊢
 refine pU 0 45 (bA 8 1) HT_ ?_
 refine pU 1 46 (bA 8 3) HT_ ?_
 refine pU 2 47 (bA 8 7) HT_ ?_
 refine pU 3 48 (bA 8 15) HT_ ?_
 refine pU 5 50 (bA 8 47) HT_ ?_
 refine tK 4 49 (bA 8 63) HT_ HW_ hHeld ?_
 refine tK 6 51 (bA 8 127) HT_ HW_ hHeld ?_
 refine pU 7 52 (bA 8 255) HT_ ?_
 refine done_ (done_of HT_.out (by kernel_rfl)) ?_
 try go_wp2
 go_roundg CH
 case measure => have := CD.out; have := Bf.out; omega
 case rel => exact ⟨(wrap64 (AH + 1)), (wrap64 (AH + 1)), rfl, rfl, H', ⟨by have := CD.out; have := Bf.out; omega⟩, ⟨(zK AB.out)⟩, ⟨(zK AA.out)⟩, ⟨zH2 HB AC AF⟩⟩
 }
 {
 rw [if_neg CE] at H
 have CS : decide (((rd_T52 l1 AH).f1) < AG) = false := decide_eq_false CE
 clear CE
 have H' := ak H
 clear H
 try go_wp2
 replace AB := ak (blk_drew AB.out)
 replace AA := ak (blk_drew AA.out)
 replace HB := ak (below_drew1 HB.out)
 have BE : 0 ≤ (AH : Int) := of_decide_eq_true (by assumption)
 have BF : AH < (l1.length : Int) := of_decide_eq_true (by assumption)
 obtain ⟨Am, B8, AO, AL⟩ := at_T52 Bc.out AH BE BF
 have Ai := AL
 have Ak := AO
 cases B8
 replace AO := (HB.out.cell (World.block_lt_of_cell? w _ AO)).trans AO
 replace AL := (HB.out.cell (World.block_lt_of_cell? w _ AL)).trans AL
 replace BE := eq_true BE
 replace BF := eq_true BF
 refine start_ (n := 8) (S := fun w' => w'.cell? ⟨AD, 0, none⟩ = some (.int .i16 AE) ∧ w'.cell? ⟨AD, 1, none⟩ = some (.int .i8 AG) ∧ w'.cell? (Am.add ((AH).toNat * 2)) = some (.int .i16 ((rd_T52 l1 AH).f0)) ∧ w'.cell? ⟨(Am.add ((AH).toNat * 2)).block, (Am.add ((AH).toNat * 2)).off + 1, none⟩ = some (.int .i8 ((rd_T52 l1 AH).f1))) (ds := []) (bA 8 0) (by kernel_rfl) rfl rfl ⟨(blk_cell AA.out 0).trans rfl, (blk_cell AA.out 1).trans rfl, ((HB.out.cell (World.block_lt_of_cell? w _ Ak)).trans Ak), ((HB.out.cell (World.block_lt_of_cell? w _ Ai)).trans Ai)⟩ (fun hHeld => ?_); refine with_tabW spec_TakeHold.tab11 spec_TakeHold.bits11 (fun HT_ HW_ => ?_)
 generalize wc.drew = D4 at AB AA HB AO AL hHeld ⊢
 refine pU 0 45 (bA 8 1) HT_ ?_
 refine pU 1 46 (bA 8 3) HT_ ?_
 refine pU 2 47 (bA 8 7) HT_ ?_
 refine pU 3 48 (bA 8 15) HT_ ?_
 refine pU 5 50 (bA 8 47) HT_ ?_
 refine tK 4 49 (bA 8 63) HT_ HW_ hHeld ?_
 refine tK 6 51 (bA 8 127) HT_ HW_ hHeld ?_
 refine pU 7 52 (bA 8 255) HT_ ?_
 refine done_ (done_of HT_.out (by kernel_rfl)) ?_
 try go_wp2
 go_roundg CH
 case measure => have := CD.out; have := Bf.out; omega
 case rel => exact ⟨(AJ), (wrap64 (AH + 1)), rfl, rfl, H', ⟨by have := CD.out; have := Bf.out; omega⟩, ⟨(zK AB.out)⟩, ⟨(zK AA.out)⟩, ⟨zH2 HB AC AF⟩⟩
 }
 }
 · rw [if_neg Cq] at H; exact absurd H (by simp)
 }
 · rw [if_neg Cp] at H; exact absurd H (by simp)
 }
 )
 )
 }
 {
 rw [if_neg B6] at H
 have Bp : decide (AH < (l1.length : Int)) = false := decide_eq_false B6
 clear B6
 obtain ⟨Ar, Aw⟩ : ∃ y_ : List (S52), y_ = (([] : List (S52))) := ⟨_, rfl⟩
 replace H : (if 0 ≤ AJ then (if AJ ≤ (l1.length : Int) then ((some (l1.take (AJ : Int).toNat : List (S52))).bind fun Al => (if Ar.length + Al.length < 35184372088832 then ((some (Ar ++ Al : List (S52))).bind fun Ae => ((some (([(⟨AE, AG⟩ : S52)] : List (S52)) : List (S52))).bind fun Aa => (if Ae.length + Aa.length < 35184372088832 then ((some (Ae ++ Aa : List (S52))).bind fun AX => ((some (l1.drop (AJ : Int).toNat : List (S52))).bind fun AQ => (if AX.length + AQ.length < 35184372088832 then (some ((AX ++ AQ), 0)) else (none)))) else (none)))) else (none))) else (none)) else (none)) = some (r1, r2) := by first | (rw [Aw]; with_reducible exact H) | (have AU := (Option.bind_some _ _).symm.trans H; rw [Aw]; with_reducible exact AU) | (have AU := (Option.bind_some _ _).symm.trans H; with_reducible exact AU) | with_reducible exact H | (rw [Aw]; exact H) | exact H
 have BN := ak Aw
 clear Aw
 by_cases CN : 0 ≤ AJ
 {
 rw [if_pos CN] at H
 have DO := eq_true CN
 have DQ : decide (0 ≤ AJ) = true := decide_eq_true CN
 clear CN
 by_cases CL : AJ ≤ (l1.length : Int)
 {
 rw [if_pos CL] at H
 have DD := eq_true CL
 have DP : decide (AJ ≤ (l1.length : Int)) = true := decide_eq_true CL
 clear CL
 obtain ⟨Al, A3⟩ : ∃ y_ : List (S52), y_ = (l1.take (AJ : Int).toNat) := ⟨_, rfl⟩
 replace H : (if Ar.length + Al.length < 35184372088832 then ((some (Ar ++ Al : List (S52))).bind fun Ae => ((some (([(⟨AE, AG⟩ : S52)] : List (S52)) : List (S52))).bind fun Aa => (if Ae.length + Aa.length < 35184372088832 then ((some (Ae ++ Aa : List (S52))).bind fun AX => ((some (l1.drop (AJ : Int).toNat : List (S52))).bind fun AQ => (if AX.length + AQ.length < 35184372088832 then (some ((AX ++ AQ), 0)) else (none)))) else (none)))) else (none)) = some (r1, r2) := by first | (rw [A3]; with_reducible exact H) | (have AU := (Option.bind_some _ _).symm.trans H; rw [A3]; with_reducible exact AU) | (have AU := (Option.bind_some _ _).symm.trans H; with_reducible exact AU) | with_reducible exact H | (rw [A3]; exact H) | exact H
 have Bk := ak A3
 clear A3
 by_cases Co : Ar.length + Al.length < 35184372088832
 {
 rw [if_pos Co] at H
 have BY := ak Co
 clear Co
 obtain ⟨Ae, BB⟩ : ∃ y_ : List (S52), y_ = (Ar ++ Al) := ⟨_, rfl⟩
 replace H : ((some (([(⟨AE, AG⟩ : S52)] : List (S52)) : List (S52))).bind fun Aa => (if Ae.length + Aa.length < 35184372088832 then ((some (Ae ++ Aa : List (S52))).bind fun AX => ((some (l1.drop (AJ : Int).toNat : List (S52))).bind fun AQ => (if AX.length + AQ.length < 35184372088832 then (some ((AX ++ AQ), 0)) else (none)))) else (none))) = some (r1, r2) := by first | (rw [BB]; with_reducible exact H) | (have AU := (Option.bind_some _ _).symm.trans H; rw [BB]; with_reducible exact AU) | (have AU := (Option.bind_some _ _).symm.trans H; with_reducible exact AU) | with_reducible exact H | (rw [BB]; exact H) | exact H
 have BV := ak BB
 clear BB
 obtain ⟨Aa, Ay⟩ : ∃ y_ : List (S52), y_ = (([(⟨AE, AG⟩ : S52)] : List (S52))) := ⟨_, rfl⟩
 replace H : (if Ae.length + Aa.length < 35184372088832 then ((some (Ae ++ Aa : List (S52))).bind fun AX => ((some (l1.drop (AJ : Int).toNat : List (S52))).bind fun AQ => (if AX.length + AQ.length < 35184372088832 then (some ((AX ++ AQ), 0)) else (none)))) else (none)) = some (r1, r2) := by first | (rw [Ay]; with_reducible exact H) | (have AU := (Option.bind_some _ _).symm.trans H; rw [Ay]; with_reducible exact AU) | (have AU := (Option.bind_some _ _).symm.trans H; with_reducible exact AU) | with_reducible exact H | (rw [Ay]; exact H) | exact H
 have Ap := ak Ay
 clear Ay
 by_cases Cl : Ae.length + Aa.length < 35184372088832
 {
 rw [if_pos Cl] at H
 have Cb := ak Cl
 clear Cl
 obtain ⟨AX, BA⟩ : ∃ y_ : List (S52), y_ = (Ae ++ Aa) := ⟨_, rfl⟩
 replace H : ((some (l1.drop (AJ : Int).toNat : List (S52))).bind fun AQ => (if AX.length + AQ.length < 35184372088832 then (some ((AX ++ AQ), 0)) else (none))) = some (r1, r2) := by first | (rw [BA]; with_reducible exact H) | (have AU := (Option.bind_some _ _).symm.trans H; rw [BA]; with_reducible exact AU) | (have AU := (Option.bind_some _ _).symm.trans H; with_reducible exact AU) | with_reducible exact H | (rw [BA]; exact H) | exact H
 have Cf := ak BA
 clear BA
 have DC := eq_true (of_decide_eq_true (by assumption) : 0 ≤ AJ)
 have DF := eq_true (of_decide_eq_true (by assumption) : AJ ≤ (l1.length : Int))
 obtain ⟨AQ, Az⟩ : ∃ y_ : List (S52), y_ = (l1.drop (AJ : Int).toNat) := ⟨_, rfl⟩
 replace H : (if AX.length + AQ.length < 35184372088832 then (some ((AX ++ AQ), 0)) else (none)) = some (r1, r2) := by first | (rw [Az]; with_reducible exact H) | (have AU := (Option.bind_some _ _).symm.trans H; rw [Az]; with_reducible exact AU) | (have AU := (Option.bind_some _ _).symm.trans H; with_reducible exact AU) | with_reducible exact H | (rw [Az]; exact H) | exact H
 have Bh := ak Az
 clear Az
 by_cases Cn : AX.length + AQ.length < 35184372088832
 {
 rw [if_pos Cn] at H
 have CK := ak Cn
 clear Cn
 obtain ⟨Cx, BC⟩ : ∃ y_ : List (S52), y_ = (AX ++ AQ) := ⟨_, rfl⟩
 replace H : (some (Cx, 0)) = some (r1, r2) := by first | (rw [BC]; with_reducible exact H) | (have AU := (Option.bind_some _ _).symm.trans H; rw [BC]; with_reducible exact AU) | (have AU := (Option.bind_some _ _).symm.trans H; with_reducible exact AU) | with_reducible exact H | (rw [BC]; exact H) | exact H
 have Cg := ak BC
 clear BC
 simp only [Option.some.injEq, Prod.mk.injEq] at H
 obtain ⟨rfl, rfl⟩ := H
 try go_wp2
 replace AB := ak (blk_drew AB.out)
 replace AA := ak (blk_drew AA.out)
 replace HB := ak (below_drew1 HB.out)
 have Cv : (AJ : Int) ≤ ((l1.length : Int) : Int) := of_decide_eq_true (by assumption)
 obtain ⟨Dd, Bj, _, CM, _⟩ := info_parts info52
 have BH : l1.length ≤ c1 := CQ.out
 have CW : Kd.C k52 _ A1 l1.length l1 := Bc.out
 have Bx := cut_to (P := Tryz.prog) 29 52 .i64 Tryz.underlying29 Bj A1 l1.length c1 AJ (of_decide_eq_true (by assumption)) Cv BH
 have By := Kd.C_take (m := (AJ : Int).toNat) CW (by omega)
 have Bu : Al.length = (AJ : Int).toNat := (by rw [Bk.out, List.length_take]; omega)
 rw [← Bk.out] at By
 rw [← Bu] at Bx
 have BL := ak By
 have DB := ak (show Al.length ≤ c1 from by omega)
 clear By CW BH Bj CM
 have DZ := ak Bu
 clear Bu
 replace Cv := eq_true Cv
 refine start_ (n := 9) (S := fun w' => w'.cell? ⟨AD, 0, none⟩ = some (.int .i16 AE) ∧ w'.cell? ⟨AD, 1, none⟩ = some (.int .i8 AG)) (ds := []) (bA 9 0) (by kernel_rfl) rfl rfl ⟨(blk_cell AA.out 0).trans rfl, (blk_cell AA.out 1).trans rfl⟩ (fun hHeld => ?_); refine with_tabW spec_TakeHold.tab13 spec_TakeHold.bits13 (fun HT_ HW_ => ?_)
 generalize wr.drew = D8 at AB AA HB BL hHeld ⊢
 refine pU 1 56 (bA 9 2) HT_ ?_
 refine pU 2 57 (bA 9 6) HT_ ?_
 refine pU 3 58 (bA 9 14) HT_ ?_
 refine tK 5 60 (bA 9 46) HT_ HW_ hHeld ?_
 refine join_ (σ := Value × Value × Value) 2 #[true, true, true, true, true, true, true, false, false] (fun s_ => [(55, s_.1), (59, s_.2.1), (61, s_.2.2)]) (fun s_ w' => (w'.cell? ⟨AD, 0, none⟩ = some (.int .i16 AE) ∧ w'.cell? ⟨AD, 1, none⟩ = some (.int .i8 AG)) ∧ (Kd.R k52 52 w' w.heap.size (fun k_ => some k_ ≠ (s_.2.2 : Value).ownBlock ∧ k_ ≠ AD) s_.2.1 Ae) ∧ (Kd.R k52 52 w' w.heap.size (fun k_ => some k_ ≠ (s_.2.1 : Value).ownBlock ∧ k_ ≠ AD) s_.2.2 Aa) ∧ (w'.heap[AK]? = some (.cells #[.int .i16 AW, .slice AZ AS.length AY] 27 (0, 0))) ∧ (w'.heap[AD]? = some (.cells #[.int .i16 AE, .int .i8 AG] 52 (0, 0))) ∧ (Below w.heap.size w w')) ?_ ?_
 rotate_left
 {
 intro hCont
 refine two_ (i := 0) (j := 6) (Ni := some 55) (Nj := some 61) #[true, true, true, true, false, true, false, false, false] #[false, true, true, true, false, true, true, false, false] rfl rfl rfl rfl (two_of HT_.out (by kernel_rfl)) (by decide) (by decide) (fun K hK => ?_) (fun K hK => ?_)
 {
 skip
 refine Kd.R_lit_step k52 _ 52 ?hg (N := 55) ?hd (xs := ([] : List (S52))) (inner := []) (ok := fun _ => True) (okp := fun _ => True) ?hr ?hp (fun _ hk => hk) trivial (Below.refl _ _) (Nat.le_refl _) (by simp) ?_; (case hd => rfl); (case hg => rfl); (case hr => first | (go_simp; done) | (go_simp; rfl)); (case hp => exact (Reps.none _ _))
 intro A5 Dh Av hb As AP
 clear As AP
 (first | rw [← BN.out] at Av | (simp only [Int.reduceToNat] at Av; rw [← BN.out] at Av))
 have AR := ak (Kd.R_lower (Kd.R_newB Av (g := AD) (o := .cells #[.int .i16 AE, .int .i8 AG] 52 (0, 0)) (zK AA.out)) (below_size (zH2 HB AC AF)))
 replace AB := kK AB hb
 replace AA := kK AA hb
 replace HB := kB2 HB AC AF hb
 refine hK.out _ _ ⟨(blk_cell AA.out 0).trans rfl, (blk_cell AA.out 1).trans rfl⟩ (fun hHeld => ?_)
 clear hK K
 refine norm_ (a' := ?_) ?_ ?_
 rotate_left
 {
 show Act.put _ (some 55) _ = _
 simp only [Act.put, zs, zz, zk, i64_w, i32_w]
 rfl
 }
 refine two_ (i := 4) (j := 6) (Ni := some 59) (Nj := some 61) #[true, true, true, true, true, true, false, false, false] #[true, true, true, true, false, true, true, false, false] rfl rfl rfl rfl (two_of HT_.out (by kernel_rfl)) (by decide) (by decide) (fun K hK => ?_) (fun K hK => ?_)
 {
 skip
 refine Kd.R_append_rows_step k52 (w0 := w) w.heap.size (by rfl) (.tmp 55) (.tmp 58) 29 52 (.agg #[(.int .i16 0), (.int .i8 0)]) 4 rfl Tryz.underlying29 info52 rfl (by decide) (by omega) A5 Ar Al _ _ _ (fun k_ => k_ ≠ AD) (fun _ => False) rfl rfl ?aO ?aR (fun _ _ h => h) (fun _ h => h.elim) ?aF ?aB ?aS ?aL ?_
 (case aR => repeat (first | exact (Kd.C_below BL.out HB.out) | (with_reducible refine Kd.C_alloc ?_ _) | (with_reducible refine Kd.C_drewN ?_ _) | (with_reducible refine Kd.C_drew ?_)))
 (case aB => exact (zH2 HB AC AF))
 (case aF => exact (fun k_ hk => Kd.freshB (g := AD) (o := .cells #[.int .i16 AE, .int .i8 AG] 52 (0, 0)) (zK AA.out) k_ hk))
 (case aO => exact (Kd.R_mono AR.out (fun _ hk => hk.2)))
 (case aS => exact (below_size (zH2 HB AC AF)))
 (case aL => have := BY.out; omega)
 intro Aq DI ho hb hg hat
 rw [← BV.out] at ho
 have AV := ak (ho)
 replace AB := ak (blk_grown (g := AK) (o := .cells #[.int .i16 AW, .slice AZ AS.length AY] 27 (0, 0)) (zK AB.out) hg (Kd.R_ne AR.out AB.out (by decide)))
 replace AA := ak (blk_grown (g := AD) (o := .cells #[.int .i16 AE, .int .i8 AG] 52 (0, 0)) (zK AA.out) hg (Kd.R_away AR.out (fun _ hk => hk.2)))
 replace HB := ak (hb)
 clear AR
 refine hK.out _ _ ⟨(blk_cell AA.out 0).trans rfl, (blk_cell AA.out 1).trans rfl⟩ (fun hHeld => ?_)
 clear hK K
 refine norm_ (a' := ?_) ?_ ?_
 rotate_left
 {
 show Act.put _ (some 59) _ = _
 simp only [Act.put, zs, zz, zk, i64_w, i32_w]
 rfl
 }
 refine one_ (i := 6) (N := some 61) (bA 9 127) rfl rfl (one_of HT_.out (by kernel_rfl)) (by decide) (fun K hK => ?_)
 refine Kd.R_lit_step k52 _ 52 ?hg (N := 61) ?hd (xs := ([(⟨AE, AG⟩ : S52)] : List (S52))) (inner := [.int .i16 AE, .int .i8 AG]) (ok := fun _ => True) (okp := fun _ => True) ?hr ?hp (fun _ hk => hk) trivial (Below.refl _ _) (Nat.le_refl _) (by simp) ?_; (case hd => rfl); (case hg => rfl); (case hr => first | (go_simp; done) | (go_simp; rfl)); (case hp => exact (Reps.c2 (show Kd.M k52 _ _ _ (⟨AE, AG⟩ : S52) [.int .i16 AE, .int .i8 AG] from (k52_mkM _ _ _ (⟨AE, AG⟩ : S52) )) (Reps.none _ _)))
 intro Ao D2 BZ hb As AP
 clear As AP
 (first | rw [← Ap.out] at BZ | (simp only [Int.reduceToNat] at BZ; rw [← Ap.out] at BZ))
 have AI := ak (Kd.R_lower (Kd.R_newB (Kd.R_new' BZ (Kd.R_lt (zR AV.out))) (g := AD) (o := .cells #[.int .i16 AE, .int .i8 AG] 52 (0, 0)) (zK AA.out)) (below_size (zH2 HB AC AF)))
 replace AV := kE AV BZ hb
 replace AB := kK AB hb
 replace AA := kK AA hb
 replace HB := kB2 HB AC AF hb
 refine hK.out _ _ ⟨(blk_cell AA.out 0).trans rfl, (blk_cell AA.out 1).trans rfl⟩ (fun hHeld => ?_)
 clear hK K
 refine norm_ (a' := ?_) ?_ ?_
 rotate_left
 {
 show Act.put _ (some 61) _ = _
 simp only [Act.put, zs, zz, zk, i64_w, i32_w]
 rfl
 }
 exact norm_ (by simp only [putAll, Act.put, zs, zz, zk]) (hCont (A5, Aq, Ao) _ ⟨hHeld, (Kd.R_mono AV.out (fun _ hk => ⟨hk.2, hk.1⟩)), (Kd.R_mono AI.out (fun _ hk => ⟨hk.1.2, hk.2⟩)), (zK AB.out), (zK AA.out), (zH2 HB AC AF)⟩)
 }
 {
 skip
 refine Kd.R_lit_step k52 _ 52 ?hg (N := 61) ?hd (xs := ([(⟨AE, AG⟩ : S52)] : List (S52))) (inner := [.int .i16 AE, .int .i8 AG]) (ok := fun _ => True) (okp := fun _ => True) ?hr ?hp (fun _ hk => hk) trivial (Below.refl _ _) (Nat.le_refl _) (by simp) ?_; (case hd => rfl); (case hg => rfl); (case hr => first | (go_simp; done) | (go_simp; rfl)); (case hp => exact (Reps.c2 (show Kd.M k52 _ _ _ (⟨AE, AG⟩ : S52) [.int .i16 AE, .int .i8 AG] from (k52_mkM _ _ _ (⟨AE, AG⟩ : S52) )) (Reps.none _ _)))
 intro Ao DI An hb As AP
 clear As AP
 (first | rw [← Ap.out] at An | (simp only [Int.reduceToNat] at An; rw [← Ap.out] at An))
 have AI := ak (Kd.R_lower (Kd.R_newB (Kd.R_new' An (Kd.R_lt (zR AR.out))) (g := AD) (o := .cells #[.int .i16 AE, .int .i8 AG] 52 (0, 0)) (zK AA.out)) (below_size (zH2 HB AC AF)))
 replace AR := kE AR An hb
 replace AB := kK AB hb
 replace AA := kK AA hb
 replace HB := kB2 HB AC AF hb
 refine hK.out _ _ ⟨(blk_cell AA.out 0).trans rfl, (blk_cell AA.out 1).trans rfl⟩ (fun hHeld => ?_)
 clear hK K
 refine norm_ (a' := ?_) ?_ ?_
 rotate_left
 {
 show Act.put _ (some 61) _ = _
 simp only [Act.put, zs, zz, zk, i64_w, i32_w]
 rfl
 }
 refine one_ (i := 4) (N := some 59) (bA 9 127) rfl rfl (one_of HT_.out (by kernel_rfl)) (by decide) (fun K hK => ?_)
 refine Kd.R_append_rows_step k52 (w0 := w) w.heap.size (by rfl) (.tmp 55) (.tmp 58) 29 52 (.agg #[(.int .i16 0), (.int .i8 0)]) 4 rfl Tryz.underlying29 info52 rfl (by decide) (by omega) A5 Ar Al _ _ _ (fun k_ => some k_ ≠ (Ao : Value).ownBlock ∧ k_ ≠ AD) (fun _ => False) rfl rfl ?aO ?aR (fun _ _ h => h) (fun _ h => h.elim) ?aF ?aB ?aS ?aL ?_
 (case aR => repeat (first | exact (Kd.C_below BL.out HB.out) | (with_reducible refine Kd.C_alloc ?_ _) | (with_reducible refine Kd.C_drewN ?_ _) | (with_reducible refine Kd.C_drew ?_)))
 (case aB => exact (zH2 HB AC AF))
 (case aF => exact (fun k_ hk => ⟨Kd.fresh' (Kd.R_lt (zR AI.out)) k_ hk, Kd.freshB (g := AD) (o := .cells #[.int .i16 AE, .int .i8 AG] 52 (0, 0)) (zK AA.out) k_ hk⟩))
 (case aO => exact (Kd.R_mono AR.out (fun _ hk => ⟨hk.2, hk.1.2⟩)))
 (case aS => exact (below_size (zH2 HB AC AF)))
 (case aL => have := BY.out; omega)
 intro Aq Dl ho hb hg hat
 rw [← BV.out] at ho
 have AV := ak (ho)
 replace AB := ak (blk_grown (g := AK) (o := .cells #[.int .i16 AW, .slice AZ AS.length AY] 27 (0, 0)) (zK AB.out) hg (Kd.R_ne AR.out AB.out (by decide)))
 replace AA := ak (blk_grown (g := AD) (o := .cells #[.int .i16 AE, .int .i8 AG] 52 (0, 0)) (zK AA.out) hg (Kd.R_away AR.out (fun _ hk => hk.1.2)))
 replace AI := ak (Kd.R_after (ok := (fun k_ => k_ ≠ AD)) (Kd.R_mono AI.out (fun _ hk => ⟨hk.2, hk.1.2⟩)) hg hat)
 replace HB := ak (hb)
 clear AR
 refine hK.out _ _ ⟨(blk_cell AA.out 0).trans rfl, (blk_cell AA.out 1).trans rfl⟩ (fun hHeld => ?_)
 clear hK K
 refine norm_ (a' := ?_) ?_ ?_
 rotate_left
 {
 show Act.put _ (some 59) _ = _
 simp only [Act.put, zs, zz, zk, i64_w, i32_w]
 rfl
 }
 exact norm_ (by simp only [putAll, Act.put, zs, zz, zk]) (hCont (A5, Aq, Ao) _ ⟨hHeld, (zR AV.out), (Kd.R_mono AI.out (fun _ hk => ⟨hk.2, hk.1⟩)), (zK AB.out), (zK AA.out), (zH2 HB AC AF)⟩)
 }
 }
 {
 skip
 refine Kd.R_lit_step k52 _ 52 ?hg (N := 61) ?hd (xs := ([(⟨AE, AG⟩ : S52)] : List (S52))) (inner := [.int .i16 AE, .int .i8 AG]) (ok := fun _ => True) (okp := fun _ => True) ?hr ?hp (fun _ hk => hk) trivial (Below.refl _ _) (Nat.le_refl _) (by simp) ?_; (case hd => rfl); (case hg => rfl); (case hr => first | (go_simp; done) | (go_simp; rfl)); (case hp => exact (Reps.c2 (show Kd.M k52 _ _ _ (⟨AE, AG⟩ : S52) [.int .i16 AE, .int .i8 AG] from (k52_mkM _ _ _ (⟨AE, AG⟩ : S52) )) (Reps.none _ _)))
 intro Ao Dh Av hb As AP
 clear As AP
 (first | rw [← Ap.out] at Av | (simp only [Int.reduceToNat] at Av; rw [← Ap.out] at Av))
 have AI := ak (Kd.R_lower (Kd.R_newB Av (g := AD) (o := .cells #[.int .i16 AE, .int .i8 AG] 52 (0, 0)) (zK AA.out)) (below_size (zH2 HB AC AF)))
 replace AB := kK AB hb
 replace AA := kK AA hb
 replace HB := kB2 HB AC AF hb
 refine hK.out _ _ ⟨(blk_cell AA.out 0).trans rfl, (blk_cell AA.out 1).trans rfl⟩ (fun hHeld => ?_)
 clear hK K
 refine norm_ (a' := ?_) ?_ ?_
 rotate_left
 {
 show Act.put _ (some 61) _ = _
 simp only [Act.put, zs, zz, zk, i64_w, i32_w]
 rfl
 }
 refine one_ (i := 0) (N := some 55) (bA 9 111) rfl rfl (one_of HT_.out (by kernel_rfl)) (by decide) (fun K hK => ?_)
 refine Kd.R_lit_step k52 _ 52 ?hg (N := 55) ?hd (xs := ([] : List (S52))) (inner := []) (ok := fun _ => True) (okp := fun _ => True) ?hr ?hp (fun _ hk => hk) trivial (Below.refl _ _) (Nat.le_refl _) (by simp) ?_; (case hd => rfl); (case hg => rfl); (case hr => first | (go_simp; done) | (go_simp; rfl)); (case hp => exact (Reps.none _ _))
 intro A5 DI An hb As AP
 clear As AP
 (first | rw [← BN.out] at An | (simp only [Int.reduceToNat] at An; rw [← BN.out] at An))
 have AR := ak (Kd.R_lower (Kd.R_newB (Kd.R_new' An (Kd.R_lt (zR AI.out))) (g := AD) (o := .cells #[.int .i16 AE, .int .i8 AG] 52 (0, 0)) (zK AA.out)) (below_size (zH2 HB AC AF)))
 replace AI := kE AI An hb
 replace AB := kK AB hb
 replace AA := kK AA hb
 replace HB := kB2 HB AC AF hb
 refine hK.out _ _ ⟨(blk_cell AA.out 0).trans rfl, (blk_cell AA.out 1).trans rfl⟩ (fun hHeld => ?_)
 clear hK K
 refine norm_ (a' := ?_) ?_ ?_
 rotate_left
 {
 show Act.put _ (some 55) _ = _
 simp only [Act.put, zs, zz, zk, i64_w, i32_w]
 rfl
 }
 refine one_ (i := 4) (N := some 59) (bA 9 127) rfl rfl (one_of HT_.out (by kernel_rfl)) (by decide) (fun K hK => ?_)
 refine Kd.R_append_rows_step k52 (w0 := w) w.heap.size (by rfl) (.tmp 55) (.tmp 58) 29 52 (.agg #[(.int .i16 0), (.int .i8 0)]) 4 rfl Tryz.underlying29 info52 rfl (by decide) (by omega) A5 Ar Al _ _ _ (fun k_ => some k_ ≠ (Ao : Value).ownBlock ∧ k_ ≠ AD) (fun _ => False) rfl rfl ?aO ?aR (fun _ _ h => h) (fun _ h => h.elim) ?aF ?aB ?aS ?aL ?_
 (case aR => repeat (first | exact (Kd.C_below BL.out HB.out) | (with_reducible refine Kd.C_alloc ?_ _) | (with_reducible refine Kd.C_drewN ?_ _) | (with_reducible refine Kd.C_drew ?_)))
 (case aB => exact (zH2 HB AC AF))
 (case aF => exact (fun k_ hk => ⟨Kd.fresh' (Kd.R_lt (zR AI.out)) k_ hk, Kd.freshB (g := AD) (o := .cells #[.int .i16 AE, .int .i8 AG] 52 (0, 0)) (zK AA.out) k_ hk⟩))
 (case aO => exact (Kd.R_mono AR.out (fun _ hk => ⟨hk.1.2, hk.2⟩)))
 (case aS => exact (below_size (zH2 HB AC AF)))
 (case aL => have := BY.out; omega)
 intro Aq Dl ho hb hg hat
 rw [← BV.out] at ho
 have AV := ak (ho)
 replace AB := ak (blk_grown (g := AK) (o := .cells #[.int .i16 AW, .slice AZ AS.length AY] 27 (0, 0)) (zK AB.out) hg (Kd.R_ne AR.out AB.out (by decide)))
 replace AA := ak (blk_grown (g := AD) (o := .cells #[.int .i16 AE, .int .i8 AG] 52 (0, 0)) (zK AA.out) hg (Kd.R_away AR.out (fun _ hk => hk.2)))
 replace AI := ak (Kd.R_after (ok := (fun k_ => k_ ≠ AD)) (Kd.R_mono AI.out (fun _ hk => ⟨hk.1.2, hk.2⟩)) hg hat)
 replace HB := ak (hb)
 clear AR
 refine hK.out _ _ ⟨(blk_cell AA.out 0).trans rfl, (blk_cell AA.out 1).trans rfl⟩ (fun hHeld => ?_)
 clear hK K
 refine norm_ (a' := ?_) ?_ ?_
 rotate_left
 {
 show Act.put _ (some 59) _ = _
 simp only [Act.put, zs, zz, zk, i64_w, i32_w]
 rfl
 }
 exact norm_ (by simp only [putAll, Act.put, zs, zz, zk]) (hCont (A5, Aq, Ao) _ ⟨hHeld, (zR AV.out), (Kd.R_mono AI.out (fun _ hk => ⟨hk.2, hk.1⟩)), (zK AB.out), (zK AA.out), (zH2 HB AC AF)⟩)
 }
 }
 rintro ⟨A5, Aq, Ao⟩ CB ⟨hS_, DJ, DV, DU, DT, DW⟩
 have CU : Aside0 (Kd.R k52 52 CB w.heap.size (fun k_ => some k_ ≠ (Ao : Value).ownBlock ∧ k_ ≠ AD) Aq Ae) := ⟨DJ⟩
 have CY : Aside0 (Kd.R k52 52 CB w.heap.size (fun k_ => some k_ ≠ (Aq : Value).ownBlock ∧ k_ ≠ AD) Ao Aa) := ⟨DV⟩
 have CG : Aside0 (CB.heap[AK]? = some (.cells #[.int .i16 AW, .slice AZ AS.length AY] 27 (0, 0))) := ⟨DU⟩
 have CP : Aside0 (CB.heap[AD]? = some (.cells #[.int .i16 AE, .int .i8 AG] 52 (0, 0))) := ⟨DT⟩
 have CV : Aside0 (Below w.heap.size w CB) := ⟨DW⟩
 clear AB AA HB DJ DV DU DT DW
 have AV := CU
 have AI := CY
 have AB := CG
 have AA := CP
 have HB := CV
 clear CU CY CG CP CV
 have hHeld : CB.cell? ⟨AD, 0, none⟩ = some (.int .i16 AE) ∧ CB.cell? ⟨AD, 1, none⟩ = some (.int .i8 AG) := hS_
 obtain ⟨CZ, CI, CO⟩ := Kd.R_slice AI.out
 (first | subst CO | (injection CO with f1_ f2_ f3_; have Dq := f1_.symm; have Di := f3_.symm; clear f1_ f2_ f3_; subst Dq; subst Di))
 refine norm_ (a' := ?_) ?_ ?_
 rotate_left
 · simp only [putAll, Act.put, zs, zz, zk]; rfl
 refine one_ (i := 7) (N := some 62) (bA 9 255) rfl rfl (one_of HT_.out (by kernel_rfl)) (by decide) (fun K hK => ?_)
 refine Kd.R_append_rows_step k52 (w0 := w) w.heap.size (by rfl) (.tmp 59) (.tmp 61) 29 52 (.agg #[(.int .i16 0), (.int .i8 0)]) 4 rfl Tryz.underlying29 info52 rfl (by decide) (by omega) Aq Ae Aa _ _ _ (fun k_ => some k_ ≠ (.slice CZ Aa.length CI : Value).ownBlock ∧ k_ ≠ AD) (fun _ => False) rfl rfl ?aO ?aR (fun _ _ h => h) (fun _ h => h.elim) ?aF ?aB ?aS ?aL ?_
 (case aR => exact zC (Kd.R_reads' AI.out).2.2)
 (case aB => exact (zH2 HB AC AF))
 (case aF => exact (fun k_ hk => ⟨Kd.fresh' (Kd.R_lt (zR AI.out)) k_ hk, Kd.freshB (g := AD) (o := .cells #[.int .i16 AE, .int .i8 AG] 52 (0, 0)) (zK AA.out) k_ hk⟩))
 (case aO => exact (zR AV.out))
 (case aS => exact (below_size (zH2 HB AC AF)))
 (case aL => have := Cb.out; omega)
 intro C8 D6 ho hb hg hat
 rw [← Cf.out] at ho
 have BO := ak (ho)
 replace AB := ak (blk_grown (g := AK) (o := .cells #[.int .i16 AW, .slice AZ AS.length AY] 27 (0, 0)) (zK AB.out) hg (Kd.R_ne AV.out AB.out (by decide)))
 replace AA := ak (blk_grown (g := AD) (o := .cells #[.int .i16 AE, .int .i8 AG] 52 (0, 0)) (zK AA.out) hg (Kd.R_away AV.out (fun _ hk => hk.2)))
 replace AI := ak (Kd.R_after (ok := (fun k_ => k_ ≠ AD)) (Kd.R_mono AI.out (fun _ hk => ⟨hk.2, hk.1⟩)) hg hat)
 replace HB := ak (hb)
 clear AV
 refine hK.out _ _ ⟨(blk_cell AA.out 0).trans rfl, (blk_cell AA.out 1).trans rfl⟩ (fun hHeld => ?_)
 clear hK K
 refine norm_ (a' := ?_) ?_ ?_
 rotate_left
 {
 show Act.put _ (some 62) _ = _
 simp only [Act.put, zs, zz, zk, i64_w, i32_w]
 rfl
 }
 refine pU 8 10 (bA 9 511) HT_ ?_
 refine done_ (done_of HT_.out (by kernel_rfl)) ?_
 have Cu : (AJ : Int) ≤ ((l1.length : Int) : Int) := of_decide_eq_true (by assumption)
 obtain ⟨Db, Bt, _, Bm, _⟩ := info_parts info52
 have Au : l1.length ≤ c1 := CQ.out
 have Ca : Kd.C k52 _ A1 l1.length l1 := Bc.out
 have Ct : (0 : Int) ≤ (AJ : Int) := of_decide_eq_true (by assumption)
 have CC := cut_from (P := Tryz.prog) 29 52 .i64 Tryz.underlying29 Bt 2 Bm A1 l1.length c1 AJ Ct Cu
 have BX := Kd.C_drop (m := (AJ : Int).toNat) (c := c1) Ca (by omega) Au
 obtain ⟨Dn, Be⟩ : ∃ Aq_, Aq_ = (if c1 = (AJ : Int).toNat then A1 else (A1 : Option Addr).map (·.add ((AJ : Int).toNat * 2))) := ⟨_, rfl⟩
 obtain ⟨Dg, Bw⟩ : ∃ cq_, cq_ = c1 - (AJ : Int).toNat := ⟨_, rfl⟩
 have Bd : AQ.length = l1.length - (AJ : Int).toNat := (by rw [Bh.out, List.length_drop] <;> omega)
 rw [show (l1).drop (AJ : Int).toNat = AQ from Bh.out.symm] at BX
 replace BX : Kd.C k52 _ Dn AQ.length AQ := (by rw [Be]; exact BX)
 rw [← Bd, ← Be, ← Bw] at CC
 have Ce := ak BX
 have DK := ak (show AQ.length ≤ Dg from by rw [Bd, Bw]; exact Nat.sub_le_sub_right Au _)
 clear BX Ca Au Bt Bm Bw
 have DY := ak Bd
 have Dc := ak Be
 clear Bd Be
 replace Cu := eq_true Cu
 try go_wp2_with (first | ((with_reducible refine gate_builtin (b := .append) (xs := #[.tmp 63, .tmp 66]) rfl ?_); at_builtin; refine Kd.R_append_rows k52 (w0 := w) w.heap.size rfl (.tmp 63) (.tmp 66) 29 52 (.agg #[(.int .i16 0), (.int .i8 0)]) 4 rfl Tryz.underlying29 info52 rfl (by decide) (by omega) C8 AX AQ _ _ _ (fun k_ => some k_ ≠ (.slice CZ Aa.length CI : Value).ownBlock ∧ k_ ≠ AD) (fun _ => False) rfl rfl ?aO ?aR (fun _ _ h => h) (fun _ h => h.elim) ?aF ?aB ?aS ?aL ?_; (case aR => repeat (first | exact (Kd.C_below Ce.out HB.out) | (with_reducible refine Kd.C_alloc ?_ _) | (with_reducible refine Kd.C_drewN ?_ _) | (with_reducible refine Kd.C_drew ?_))); (case aB => exact (zH2 HB AC AF)); (case aF => exact (fun k_ hk => ⟨Kd.fresh' (Kd.R_lt (zR AI.out)) k_ hk, Kd.freshB (g := AD) (o := .cells #[.int .i16 AE, .int .i8 AG] 52 (0, 0)) (zK AA.out) k_ hk⟩)); (case aO => exact (zR BO.out)); (case aS => exact (below_size (zH2 HB AC AF))); (case aL => have := CK.out; omega); intro Dj Ds ho hb hg hat; rw [← Cg.out] at ho; have CU := ak (blk_grown (g := AK) (o := .cells #[.int .i16 AW, .slice AZ AS.length AY] 27 (0, 0)) (zK AB.out) hg (Kd.R_ne BO.out AB.out (by decide))); have CY := ak (blk_grown (g := AD) (o := .cells #[.int .i16 AE, .int .i8 AG] 52 (0, 0)) (zK AA.out) hg (Kd.R_away BO.out (fun _ hk => hk.2))); have CG := ak (Kd.R_after (ok := (fun k_ => k_ ≠ AD)) (zR AI.out) hg hat); have CP := ak (hb); have CV := ak (ho); clear AB AA AI HB BO; have AB := CU; have AA := CY; have AI := CG; have HB := CP; have Cd := CV; clear CU CY CG CP CV; clear ho hb hg hat))
 go_ret2
 exact ⟨_, rfl, Kd.R_mono Cd.out (fun _ hk => trivial), zH2 HB AC AF⟩
 }
 · rw [if_neg Cn] at H; exact absurd H (by simp)
 }
 · rw [if_neg Cl] at H; exact absurd H (by simp)
 }
 · rw [if_neg Co] at H; exact absurd H (by simp)
 }
 · rw [if_neg CL] at H; exact absurd H (by simp)
 }
 · rw [if_neg CN] at H; exact absurd H (by simp)
 }
 )
 )
 }
 {
 replace c7 := Bool.eq_false_iff.mpr c7
 subst c7
 rw [if_neg (show ¬ (false = true) by decide)] at H
 obtain ⟨Cs, A7⟩ : ∃ y_ : List (S52), y_ = (([] : List (S52))) := ⟨_, rfl⟩
 replace H : (some (Cs, 2)) = some (r1, r2) := by first | (rw [A7]; with_reducible exact H) | (have AU := (Option.bind_some _ _).symm.trans H; rw [A7]; with_reducible exact AU) | (have AU := (Option.bind_some _ _).symm.trans H; with_reducible exact AU) | with_reducible exact H | (rw [A7]; exact H) | exact H
 have Br := ak A7
 clear A7
 simp only [Option.some.injEq, Prod.mk.injEq] at H
 obtain ⟨rfl, rfl⟩ := H
 go_enter Tryz.func28, Tryz.ntmps28
 go_wp2_with (first | ((with_reducible refine gate_dst (N := 3) rfl ?_); refine box_event ?hg (N := 3) ?hd (cs := #[.int .i16 AW, .slice AZ AS.length AY]) (t := 27) ?hr ?_; (case hd => rfl); (case hg => rfl); (case hr => first | (go_simp; done) | (go_simp; rfl)); intro AK hg Dx hbox hb; have AB := ak (hbox); have Bi := gS HB hg; have AC := gS HB hg; replace HB := kB HB hb; clear hb hbox hg) | ((with_reducible refine gate_dst (N := 5) rfl ?_); refine box_event ?hg (N := 5) ?hd (cs := #[.int .i16 AE, .int .i8 AG]) (t := 52) ?hr ?_; (case hd => rfl); (case hg => rfl); (case hr => first | (go_simp; done) | (go_simp; rfl)); intro AD hg D0 hbox hb; have AA := ak (hbox); have Bs := gS1 HB AC hg; have AF := gS1 HB AC hg; have Ad := nL AB hg; have Ac := nG AB hg; replace AB := kK AB hb; replace HB := kB1 HB AC hb; clear hb hbox hg) | ((with_reducible refine gate_callee (f := 52) rfl ?_); refine goesL_ (some 12) rfl rfl Tryz.func52 (by kernel_rfl) rfl #[.pointer (some ⟨AK, 0, none⟩), .slice A1 l1.length c1] rfl gl_ ?_; (with_reducible refine (spec_l03Holds.calls k AK AW AZ AY AS _ _ l1 true _ ?side1 ?side2 ?side3 ?side4 ?side5 A4.out).mono ?_); (case side1 => exact sQ (Kd.C_below A8.out HB.out)); (case side2 => exact A0.out); (case side3 => exact sQ (Kd.C_below Bc.out HB.out)); (case side4 => exact CQ.out); (case side5 => exact (zK AB.out)); rintro e Df ⟨rfl, hb⟩; refine ⟨_, rfl, ?_⟩; replace AB := kK AB hb; replace AA := kK AA hb; replace HB := kB2 HB AC AF hb; (try clear hb); have DA := Ac.out; have DN := Ad.out; obtain ⟨Ch, Cj, Cr, Ck⟩ := cz2 Df AA) | ((with_reducible refine gate_dst (N := 16) rfl ?_); refine Kd.R_lit k52 _ 52 ?hg (N := 16) ?hd (xs := ([(⟨AE, AG⟩ : S52)] : List (S52))) (inner := [.int .i16 AE, .int .i8 AG]) (ok := fun _ => True) (okp := fun _ => True) ?hr ?hp (fun _ hk => hk) trivial (Below.refl _ _) (Nat.le_refl _) (by simp) ?_; (case hd => rfl); (case hg => rfl); (case hr => first | (go_simp; done) | (go_simp; rfl)); (case hp => exact (Reps.c2 (show Kd.M k52 _ _ _ (⟨AE, AG⟩ : S52) [.int .i16 AE, .int .i8 AG] from (k52_mkM _ _ _ (⟨AE, AG⟩ : S52) )) (Reps.none _ _))); intro C1 D3 BW hb As AP; clear As AP; (first | rw [← BQ.out] at BW | (simp only [Int.reduceToNat] at BW; rw [← BQ.out] at BW)); have AT := ak (Kd.R_lower (Kd.R_newB BW (g := AD) (o := .cells #[.int .i16 AE, .int .i8 AG] 52 (0, 0)) (zK AA.out)) (below_size (zH2 HB AC AF))); replace AB := kK AB hb; replace AA := kK AA hb; replace HB := kB2 HB AC AF hb; clear hb BW; obtain ⟨C3, C7, Cz⟩ := Kd.R_slice AT.out; subst Cz) | ((with_reducible refine gate_callee (f := 52) rfl ?_); refine goesL_ (some 17) rfl rfl Tryz.func52 (by kernel_rfl) rfl #[.pointer (some ⟨AK, 0, none⟩), .slice C3 Bb.length C7] rfl gl_ ?_; (with_reducible refine (spec_l03Holds.calls k AK AW AZ AY AS _ _ Bb false _ ?side1 ?side2 ?side3 ?side4 ?side5 A6.out).mono ?_); (case side1 => exact sQ (Kd.C_below A8.out HB.out)); (case side2 => exact A0.out); (case side3 => exact sC AT); (case side4 => exact sL AT); (case side5 => exact (zK AB.out)); rintro e Dt ⟨rfl, hb⟩; refine ⟨_, rfl, ?_⟩; replace AT := kR AT hb; replace AB := kK AB hb; replace AA := kK AA hb; replace HB := kB2 HB AC AF hb; (try clear hb)) | ((with_reducible refine gate_dst (N := 19) rfl ?_); refine Kd.R_lit k52 _ 52 ?hg (N := 19) ?hd (xs := ([] : List (S52))) (inner := []) (ok := fun _ => True) (okp := fun _ => True) ?hr ?hp (fun _ hk => hk) trivial (Below.refl _ _) (Nat.le_refl _) (by simp) ?_; (case hd => rfl); (case hg => rfl); (case hr => first | (go_simp; done) | (go_simp; rfl)); (case hp => exact (Reps.none _ _)); intro Dk Dr BS hb As AP; clear As AP; (first | rw [← Br.out] at BS | (simp only [Int.reduceToNat] at BS; rw [← Br.out] at BS)); have CR := ak (Kd.R_lower (Kd.R_newB (Kd.R_new' BS (Kd.R_lt (zR AT.out))) (g := AD) (o := .cells #[.int .i16 AE, .int .i8 AG] 52 (0, 0)) (zK AA.out)) (below_size (zH2 HB AC AF))); replace AT := kE AT BS hb; replace AB := kK AB hb; replace AA := kK AA hb; replace HB := kB2 HB AC AF hb; clear hb BS))
 go_ret2
 exact ⟨_, rfl, Kd.R_mono CR.out (fun _ hk => trivial), zH2 HB AC AF⟩
 }
 }
 {
 replace c5 := Bool.eq_false_iff.mpr c5
 subst c5
 rw [if_neg (show ¬ (false = true) by decide)] at H
 obtain ⟨C0, Ax⟩ : ∃ y_ : List (S52), y_ = (([] : List (S52))) := ⟨_, rfl⟩
 replace H : (some (C0, 1)) = some (r1, r2) := by first | (rw [Ax]; with_reducible exact H) | (have AU := (Option.bind_some _ _).symm.trans H; rw [Ax]; with_reducible exact AU) | (have AU := (Option.bind_some _ _).symm.trans H; with_reducible exact AU) | with_reducible exact H | (rw [Ax]; exact H) | exact H
 have Bg := ak Ax
 clear Ax
 simp only [Option.some.injEq, Prod.mk.injEq] at H
 obtain ⟨rfl, rfl⟩ := H
 go_enter Tryz.func28, Tryz.ntmps28
 go_wp2_with (first | ((with_reducible refine gate_dst (N := 3) rfl ?_); refine box_event ?hg (N := 3) ?hd (cs := #[.int .i16 AW, .slice AZ AS.length AY]) (t := 27) ?hr ?_; (case hd => rfl); (case hg => rfl); (case hr => first | (go_simp; done) | (go_simp; rfl)); intro AK hg D1 hbox hb; have AB := ak (hbox); have Bi := gS HB hg; have AC := gS HB hg; replace HB := kB HB hb; clear hb hbox hg) | ((with_reducible refine gate_dst (N := 5) rfl ?_); refine box_event ?hg (N := 5) ?hd (cs := #[.int .i16 AE, .int .i8 AG]) (t := 52) ?hr ?_; (case hd => rfl); (case hg => rfl); (case hr => first | (go_simp; done) | (go_simp; rfl)); intro AD hg EA hbox hb; have AA := ak (hbox); have Bs := gS1 HB AC hg; have AF := gS1 HB AC hg; have Ad := nL AB hg; have Ac := nG AB hg; replace AB := kK AB hb; replace HB := kB1 HB AC hb; clear hb hbox hg) | ((with_reducible refine gate_callee (f := 52) rfl ?_); refine goesL_ (some 12) rfl rfl Tryz.func52 (by kernel_rfl) rfl #[.pointer (some ⟨AK, 0, none⟩), .slice A1 l1.length c1] rfl gl_ ?_; (with_reducible refine (spec_l03Holds.calls k AK AW AZ AY AS _ _ l1 false _ ?side1 ?side2 ?side3 ?side4 ?side5 A4.out).mono ?_); (case side1 => exact sQ (Kd.C_below A8.out HB.out)); (case side2 => exact A0.out); (case side3 => exact sQ (Kd.C_below Bc.out HB.out)); (case side4 => exact CQ.out); (case side5 => exact (zK AB.out)); rintro e D7 ⟨rfl, hb⟩; refine ⟨_, rfl, ?_⟩; replace AB := kK AB hb; replace AA := kK AA hb; replace HB := kB2 HB AC AF hb; (try clear hb)) | ((with_reducible refine gate_dst (N := 14) rfl ?_); refine Kd.R_lit k52 _ 52 ?hg (N := 14) ?hd (xs := ([] : List (S52))) (inner := []) (ok := fun _ => True) (okp := fun _ => True) ?hr ?hp (fun _ hk => hk) trivial (Below.refl _ _) (Nat.le_refl _) (by simp) ?_; (case hd => rfl); (case hg => rfl); (case hr => first | (go_simp; done) | (go_simp; rfl)); (case hp => exact (Reps.none _ _)); intro Dm Dz BU hb As AP; clear As AP; (first | rw [← Bg.out] at BU | (simp only [Int.reduceToNat] at BU; rw [← Bg.out] at BU)); have CJ := ak (Kd.R_lower (Kd.R_newB BU (g := AD) (o := .cells #[.int .i16 AE, .int .i8 AG] 52 (0, 0)) (zK AA.out)) (below_size (zH2 HB AC AF))); replace AB := kK AB hb; replace AA := kK AA hb; replace HB := kB2 HB AC AF hb; clear hb BU))
 go_ret2
 exact ⟨_, rfl, Kd.R_mono CJ.out (fun _ hk => trivial), zH2 HB AC AF⟩
 }
end Go.Proofs.YtlggjfhoecaelaaGreatDoor.P
