-- Printed by wip/print (my turned copy of the kit's print) out of the translation; Lean checks it.
import Derived.Test.YtlggjfhoecaelaaGreatDoorP0
import Derived.Test.YtlggjfhoecaelaaGreatDoorP4
import Derived.Test.YtlggjfhoecaelaaGreatDoorP5
namespace Go.Proofs.YtlggjfhoecaelaaGreatDoor.P
open Go.RowKit Go.Proofs.YtlggjfhoecaelaaGreatDoorW.PrintWords Go.Proofs.YtlggjfhoecaelaaGreatDoorW.PrintLast Go.Proofs.YtlggjfhoecaelaaGreatDoorW.PrintMore
attribute [local go_sem] max2_int min2_int max_two min_two max_three min_three max_four min_four   -- for this text's walks alone
set_option linter.unusedVariables false
set_option linter.unusedSimpArgs false

/-! ### spec_l03Holds: function 52 -/
mutual
def spec_l03Holds.l0 : Nat → List (S52) → Int → Int → List Int → Option (Bool)
  | 0, _, _, _, _ => none
  | k + 1, x1, x5, AB, AA => if x5 < (x1.length : Int) then (if 0 ≤ x5 then ((spec_l00In.f (wrap64 ((rd_T52 x1 x5).f0)) 0 999).bind fun AC => (if AC = true then ((spec_l00In.f (wrap64 ((rd_T52 x1 x5).f1)) 0 (wrap64 ((AA.length : Int) - 1))).bind fun AD => (spec_l03Holds.j1 k x1 x5 (!AD) AB AA)) else (spec_l03Holds.j1 k x1 x5 true AB AA))) else (none)) else (some true)
def spec_l03Holds.j1 : Nat → List (S52) → Int → Bool → Int → List Int → Option (Bool)
  | 0, _, _, _, _, _ => none
  | k + 1, x1, x5, AC, AA, AB => if AC = true then (some false) else (if x5 > 0 then (if 0 ≤ x5 then (if x5 < (x1.length : Int) then (if 0 ≤ (wrap64 (x5 - 1)) then (if (wrap64 (x5 - 1)) < (x1.length : Int) then (spec_l03Holds.j2 k x1 x5 (decide (((rd_T52 x1 x5).f1) ≤ ((rd_T52 x1 (wrap64 (x5 - 1))).f1))) AA AB) else (none)) else (none)) else (none)) else (none)) else (spec_l03Holds.j2 k x1 x5 false AA AB))
def spec_l03Holds.j2 : Nat → List (S52) → Int → Bool → Int → List Int → Option (Bool)
  | 0, _, _, _, _, _ => none
  | k + 1, x1, x5, AC, AA, AB => if AC = true then (some false) else (spec_l03Holds.l1 k x1 x5 0 AA AB)
def spec_l03Holds.l1 : Nat → List (S52) → Int → Int → Int → List Int → Option (Bool)
  | 0, _, _, _, _, _ => none
  | k + 1, x1, x5, x6, AA, AB => if x6 < x5 then (if 0 ≤ x6 then (if x6 < (x1.length : Int) then (if 0 ≤ x5 then (if x5 < (x1.length : Int) then (if ((rd_T52 x1 x6).f0) = ((rd_T52 x1 x5).f0) then (some false) else (spec_l03Holds.l1 k x1 x5 (wrap64 (x6 + 1)) AA AB)) else (none)) else (none)) else (none)) else (none)) else (spec_l03Holds.l0 k x1 (wrap64 (x5 + 1)) AA AB)
end
def spec_l03Holds.f (k : Nat) (AB : Int) (AA : List Int) (l1 : List (S52)) : Option (Bool) := (spec_l03Ok.f k AB AA).bind fun AC => (if AC = true then (spec_l03Holds.l0 k l1 0 AB AA) else (some false))
set_option maxHeartbeats 8000000 in
set_option maxRecDepth 100000 in
theorem spec_l03Holds.calls (k : Nat) (b0 : Nat) (AG : Int) (AO : Option Addr) (AN : Nat) (AD : List Int) (A1 : Option Addr) (c1 : Nat) (l1 : List (S52)) (r : Bool) (w : World) (Av : Kd.C (Kd.int .i16) w AO AD.length AD) (Ax : AD.length ≤ AN) (Bl : Kd.C k52 w A1 l1.length l1) (Bn : l1.length ≤ c1) (Br : w.heap[b0]? = some (.cells #[.int .i16 AG, .slice AO AD.length AN] 27 (0, 0))) (h : spec_l03Holds.f k AG AD l1 = some r) :
    Calls Tryz.prog 52 #[.pointer (some ⟨b0, 0, none⟩), .slice A1 l1.length c1] w fun e w' => e = .returned (.bool r) ∧ Below w.heap.size w w' := by
 have AS := ak Av
 have AT := ak Ax
 clear Av Ax
 have Ap := ak Bl
 have Bx := ak Bn
 clear Bl Bn
 have AE := ak Br
 clear Br
 have HB := ak (Below.refl w.heap.size w)
 have H := h
 unfold spec_l03Holds.f at H
 clear h
 replace H := Option.bind_eq_some_iff.mp H
 obtain ⟨Be, Bo, H⟩ := H
 have A3 := ak Bo
 clear Bo
 by_cases c4 : Be = true
 {
 subst c4
 rw [if_pos rfl] at H
 have H' := ak H
 clear H
 go_enter Tryz.func52, Tryz.ntmps52
 go_wp2_with (first | (go_at_call 39; (with_reducible refine (spec_l03Ok.calls k b0 AG AO AN AD true _ ?side1 ?side2 ?side3 A3.out).mono ?_); (case side1 => exact sD AS); (case side2 => exact AT.out); (case side3 => exact (zK AE.out)); rintro e w5 ⟨rfl, hb⟩; replace AE := kK AE hb; replace HB := kB HB hb; (try clear hb)))
 repeat (go_quiet (first | (go_at_call 39; (with_reducible refine (spec_l03Ok.calls k b0 AG AO AN AD true _ ?side1 ?side2 ?side3 A3.out).mono ?_); (case side1 => exact sQ AS.out); (case side2 => exact AT.out); (case side3 => exact (zK AE.out)); rintro e w5 ⟨rfl, hb⟩; have BE := ak (blk_below (g := b0) (o := .cells #[.int .i16 AG, .slice AO AD.length AN] 27 (0, 0)) (zK AE.out) hb); have BG := ak (below_step (zB HB.out) hb); clear AE HB; have AE := BE; have HB := BG; clear BE BG; (try clear hb); (try clear hb2); (try clear hk); (try clear hi))); try go_wp2_with (first | (go_at_call 39; (with_reducible refine (spec_l03Ok.calls k b0 AG AO AN AD true _ ?side1 ?side2 ?side3 A3.out).mono ?_); (case side1 => exact sD AS); (case side2 => exact AT.out); (case side3 => exact (zK AE.out)); rintro e w5 ⟨rfl, hb⟩; replace AE := kK AE hb; replace HB := kB HB hb; (try clear hb))))
 go_loopg [5] k (fun kq v5 w' => ∃ (AA : Int), v5 = .int .i64 AA ∧ Aside0 (spec_l03Holds.l0 kq l1 AA AG AD = some r) ∧ Aside0 (kq ≤ k) ∧ Aside0 (w'.heap[b0]? = some (.cells #[.int .i16 AG, (.slice AO AD.length AN)] 27 (0, 0))) ∧ Aside0 (Below w.heap.size w w'))
 case atStart => exact ⟨(0), rfl, H', ⟨Nat.le_refl _⟩, ⟨(zK AE.out)⟩, ⟨zB HB.out⟩⟩
 case round => (
 clear H'
 obtain ⟨AA, rfl, HA, Aw, AE, HB⟩ := hrel
 cases gk with
 | zero => exact absurd HA.out (by simp [spec_l03Holds.l0])
 | succ k1 => (
 have H := HA.out
 clear HA
 simp only [spec_l03Holds.l0] at H
 by_cases c6 : AA < (l1.length : Int)
 {
 rw [if_pos c6] at H
 have At : decide (AA < (l1.length : Int)) = true := decide_eq_true c6
 clear c6
 have Bd := ak H
 clear H
 go_upto_region 6 with (fail)
 repeat (go_quiet (fail); go_upto_region 6 with (fail))
 go_cut [39] (fun Bv wc => ∃ (kq : Nat) (An : Bool), Bv = .bool An ∧ Aside0 (spec_l03Holds.j1 kq l1 AA An AG AD = some r) ∧ Aside0 (kq ≤ k1) ∧ Aside0 (wc.heap[b0]? = some (.cells #[.int .i16 AG, (.slice AO AD.length AN)] 27 (0, 0))) ∧ Aside0 (Below w.heap.size w wc))
 case first => (
 have H := Bd.out
 clear Bd
 by_cases c8 : 0 ≤ AA
 {
 rw [if_pos c8] at H
 have BH : decide (0 ≤ AA) = true := decide_eq_true c8
 clear c8
 (first | rw [BH] | (simp only [i64_w, i32_w]; rw [BH]) | skip)
 replace H := Option.bind_eq_some_iff.mp H
 obtain ⟨Ba, Bj, H⟩ := H
 have A9 := ak Bj
 clear Bj
 by_cases BX : Ba = true
 {
 subst BX
 rw [if_pos rfl] at H
 replace H := Option.bind_eq_some_iff.mp H
 obtain ⟨Au, BL, H⟩ := H
 have Bb := ak BL
 clear BL
 have H' := ak H
 clear H
 have Al : 0 ≤ (AA : Int) := of_decide_eq_true (by assumption)
 have Ag : AA < (l1.length : Int) := of_decide_eq_true (by assumption)
 obtain ⟨Af, Ay, AK, AI⟩ := at_T52 Ap.out AA Al Ag
 cases Ay
 replace AK := (HB.out.cell (World.block_lt_of_cell? w _ AK)).trans AK
 replace AI := (HB.out.cell (World.block_lt_of_cell? w _ AI)).trans AI
 replace Al := eq_true Al
 replace Ag := eq_true Ag
 go_wp2_with (first | (go_at_call 48; (with_reducible refine (spec_l00In.calls (wrap64 ((rd_T52 l1 AA).f0)) 0 999 true _ A9.out).mono ?_); rintro e w' ⟨rfl, ⟨nd, rfl⟩⟩; have AQ : 0 ≤ (AA : Int) := of_decide_eq_true (by assumption); have AP : AA < (l1.length : Int) := of_decide_eq_true (by assumption); obtain ⟨AR, Ai, AC, AB⟩ := at_T52 Ap.out AA AQ AP; obtain rfl : Af = AR := (by injection Ai); replace AC := (HB.out.cell (World.block_lt_of_cell? w _ AC)).trans AC; replace AB := (HB.out.cell (World.block_lt_of_cell? w _ AB)).trans AB; replace AQ := eq_true AQ; replace AP := eq_true AP; obtain ⟨AY, Aa, AZ, Ab⟩ := cz2 wr AE) | (go_at_call 48; (with_reducible refine (spec_l00In.calls (wrap64 ((rd_T52 l1 AA).f1)) 0 (wrap64 ((AD.length : Int) - 1)) Au _ Bb.out).mono ?_); rintro e w' ⟨rfl, ⟨nd, rfl⟩⟩))
 try (have AQ : 0 ≤ (AA : Int) := of_decide_eq_true (by assumption); have AP : AA < (l1.length : Int) := of_decide_eq_true (by assumption); obtain ⟨AR, Ai, AC, AB⟩ := at_T52 Ap.out AA AQ AP; obtain rfl : Af = AR := (by injection Ai); replace AC := (HB.out.cell (World.block_lt_of_cell? w _ AC)).trans AC; replace AB := (HB.out.cell (World.block_lt_of_cell? w _ AB)).trans AB; replace AQ := eq_true AQ; replace AP := eq_true AP; have AY : wr.cell? ⟨b0, 0, none⟩ = some (.int .i16 AG) := (blk_cell AE.out 0).trans rfl; have Aa : wr.cell? ⟨b0, 1, none⟩ = some (.slice AO AD.length AN) := (blk_cell AE.out 1).trans rfl; have AZ := blk_frozen AE.out 0; have Ab := blk_frozen AE.out 1)
 repeat (go_quiet (first | (go_at_call 48; (with_reducible refine (spec_l00In.calls (wrap64 ((rd_T52 l1 AA).f0)) 0 999 true _ A9.out).mono ?_); rintro e w' ⟨rfl, ⟨nd, rfl⟩⟩; (try first | exact ⟨rfl, _, World.drewN_drewN _ _ _⟩ | exact ⟨rfl, _, Eq.trans (World.drewN_drewN _ _ _) (congrArg (World.drewN _) (Nat.add_assoc _ _ _))⟩); try (have AQ : 0 ≤ (AA : Int) := of_decide_eq_true (by assumption); have AP : AA < (l1.length : Int) := of_decide_eq_true (by assumption); obtain ⟨AR, Ai, AC, AB⟩ := at_T52 Ap.out AA AQ AP; obtain rfl : Af = AR := (by injection Ai); replace AC := (HB.out.cell (World.block_lt_of_cell? w _ AC)).trans AC; replace AB := (HB.out.cell (World.block_lt_of_cell? w _ AB)).trans AB; replace AQ := eq_true AQ; replace AP := eq_true AP; have AY : wr.cell? ⟨b0, 0, none⟩ = some (.int .i16 AG) := (blk_cell AE.out 0).trans rfl; have Aa : wr.cell? ⟨b0, 1, none⟩ = some (.slice AO AD.length AN) := (blk_cell AE.out 1).trans rfl; have AZ := blk_frozen AE.out 0; have Ab := blk_frozen AE.out 1)) | (go_at_call 48; (with_reducible refine (spec_l00In.calls (wrap64 ((rd_T52 l1 AA).f1)) 0 (wrap64 ((AD.length : Int) - 1)) Au _ Bb.out).mono ?_); rintro e w' ⟨rfl, ⟨nd, rfl⟩⟩; (try first | exact ⟨rfl, _, World.drewN_drewN _ _ _⟩ | exact ⟨rfl, _, Eq.trans (World.drewN_drewN _ _ _) (congrArg (World.drewN _) (Nat.add_assoc _ _ _))⟩))); try go_wp2_with (first | (go_at_call 48; (with_reducible refine (spec_l00In.calls (wrap64 ((rd_T52 l1 AA).f0)) 0 999 true _ A9.out).mono ?_); rintro e w' ⟨rfl, ⟨nd, rfl⟩⟩; (try first | exact ⟨rfl, _, World.drewN_drewN _ _ _⟩ | exact ⟨rfl, _, Eq.trans (World.drewN_drewN _ _ _) (congrArg (World.drewN _) (Nat.add_assoc _ _ _))⟩); try (have AQ : 0 ≤ (AA : Int) := of_decide_eq_true (by assumption); have AP : AA < (l1.length : Int) := of_decide_eq_true (by assumption); obtain ⟨AR, Ai, AC, AB⟩ := at_T52 Ap.out AA AQ AP; obtain rfl : Af = AR := (by injection Ai); replace AC := (HB.out.cell (World.block_lt_of_cell? w _ AC)).trans AC; replace AB := (HB.out.cell (World.block_lt_of_cell? w _ AB)).trans AB; replace AQ := eq_true AQ; replace AP := eq_true AP; have AY : wr.cell? ⟨b0, 0, none⟩ = some (.int .i16 AG) := (blk_cell AE.out 0).trans rfl; have Aa : wr.cell? ⟨b0, 1, none⟩ = some (.slice AO AD.length AN) := (blk_cell AE.out 1).trans rfl; have AZ := blk_frozen AE.out 0; have Ab := blk_frozen AE.out 1)) | (go_at_call 48; (with_reducible refine (spec_l00In.calls (wrap64 ((rd_T52 l1 AA).f1)) 0 (wrap64 ((AD.length : Int) - 1)) Au _ Bb.out).mono ?_); rintro e w' ⟨rfl, ⟨nd, rfl⟩⟩; (try first | exact ⟨rfl, _, World.drewN_drewN _ _ _⟩ | exact ⟨rfl, _, Eq.trans (World.drewN_drewN _ _ _) (congrArg (World.drewN _) (Nat.add_assoc _ _ _))⟩))))
 go_meet
 case rel => exact ⟨_, (!Au), rfl, H', ⟨by have := Aw.out; first | omega | exact Nat.le_refl _⟩, ⟨(zK AE.out)⟩, ⟨zB HB.out⟩⟩
 }
 {
 replace BX := Bool.eq_false_iff.mpr BX
 subst BX
 rw [if_neg (show ¬ (false = true) by decide)] at H
 have H' := ak H
 clear H
 have Al : 0 ≤ (AA : Int) := of_decide_eq_true (by assumption)
 have Ag : AA < (l1.length : Int) := of_decide_eq_true (by assumption)
 obtain ⟨Af, Ay, AK, AI⟩ := at_T52 Ap.out AA Al Ag
 cases Ay
 replace AK := (HB.out.cell (World.block_lt_of_cell? w _ AK)).trans AK
 replace AI := (HB.out.cell (World.block_lt_of_cell? w _ AI)).trans AI
 replace Al := eq_true Al
 replace Ag := eq_true Ag
 go_wp2_with (first | (go_at_call 48; (with_reducible refine (spec_l00In.calls (wrap64 ((rd_T52 l1 AA).f0)) 0 999 false _ A9.out).mono ?_); rintro e w' ⟨rfl, ⟨nd, rfl⟩⟩))
 repeat (go_quiet (first | (go_at_call 48; (with_reducible refine (spec_l00In.calls (wrap64 ((rd_T52 l1 AA).f0)) 0 999 false _ A9.out).mono ?_); rintro e w' ⟨rfl, ⟨nd, rfl⟩⟩; (try first | exact ⟨rfl, _, World.drewN_drewN _ _ _⟩ | exact ⟨rfl, _, Eq.trans (World.drewN_drewN _ _ _) (congrArg (World.drewN _) (Nat.add_assoc _ _ _))⟩))); try go_wp2_with (first | (go_at_call 48; (with_reducible refine (spec_l00In.calls (wrap64 ((rd_T52 l1 AA).f0)) 0 999 false _ A9.out).mono ?_); rintro e w' ⟨rfl, ⟨nd, rfl⟩⟩; (try first | exact ⟨rfl, _, World.drewN_drewN _ _ _⟩ | exact ⟨rfl, _, Eq.trans (World.drewN_drewN _ _ _) (congrArg (World.drewN _) (Nat.add_assoc _ _ _))⟩))))
 go_meet
 case rel => exact ⟨_, (true), rfl, H', ⟨by have := Aw.out; first | omega | exact Nat.le_refl _⟩, ⟨(zK AE.out)⟩, ⟨zB HB.out⟩⟩
 }
 }
 · rw [if_neg c8] at H; exact absurd H (by simp)
 )
 case rest => (
 clear Bd
 obtain ⟨kq, An, rfl, HA, BA, AE, HB⟩ := hcut
 cases kq with
 | zero => exact absurd HA.out (by simp [spec_l03Holds.j1])
 | succ Bw => (
 have H := HA.out
 clear HA
 simp only [spec_l03Holds.j1] at H
 by_cases BD : An = true
 {
 subst BD
 rw [if_pos rfl] at H
 obtain rfl := Option.some.inj H
 go_wp2
 repeat (go_quiet (fail); try go_wp2)
 go_ret
 exact ⟨rfl, zB HB.out⟩
 }
 {
 replace BD := Bool.eq_false_iff.mpr BD
 subst BD
 rw [if_neg (show ¬ (false = true) by decide)] at H
 have A8 := ak H
 clear H
 go_upto_region 8 with (fail)
 repeat (go_quiet (fail); go_upto_region 8 with (fail))
 go_cut [55] (fun Bu wc => ∃ (kq : Nat) (AU : Bool), Bu = .bool AU ∧ Aside0 (spec_l03Holds.j2 kq l1 AA AU AG AD = some r) ∧ Aside0 (kq ≤ Bw) ∧ Aside0 (wc.heap[b0]? = some (.cells #[.int .i16 AG, (.slice AO AD.length AN)] 27 (0, 0))) ∧ Aside0 (Below w.heap.size w wc))
 case first => (
 have H := A8.out
 clear A8
 by_cases BB : AA > 0
 {
 rw [if_pos BB] at H
 have Ae : decide (0 < AA) = true := decide_eq_true BB
 clear BB
 (first | rw [Ae] | (simp only [i64_w, i32_w]; rw [Ae]) | skip)
 by_cases BU : 0 ≤ AA
 {
 rw [if_pos BU] at H
 have Bm : decide (0 ≤ AA) = true := decide_eq_true BU
 clear BU
 by_cases BP : AA < (l1.length : Int)
 {
 rw [if_pos BP] at H
 have Bh : decide (AA < (l1.length : Int)) = true := decide_eq_true BP
 clear BP
 obtain ⟨Ac, Ao⟩ : ∃ j_ : Int, (wrap64 (AA - 1)) = j_ := ⟨_, rfl⟩
 first | rw [Ao] at H | simp only [Ao] at H
 have Bc : (IntKind.i64.wrap (AA - 1)) = Ac := (i64_w _).trans Ao
 by_cases BV : 0 ≤ (Ac)
 {
 rw [if_pos BV] at H
 have Bs : decide (0 ≤ (Ac)) = true := decide_eq_true BV
 clear BV
 by_cases BT : (Ac) < (l1.length : Int)
 {
 rw [if_pos BT] at H
 have Bt : decide ((Ac) < (l1.length : Int)) = true := decide_eq_true BT
 clear BT
 have H' := ak H
 clear H
 have Az : 0 ≤ (AA : Int) := of_decide_eq_true (by assumption)
 have A2 : AA < (l1.length : Int) := of_decide_eq_true (by assumption)
 obtain ⟨BJ, Bf, AV, AX⟩ := at_T52 Ap.out AA Az A2
 cases Bf
 replace AV := (HB.out.cell (World.block_lt_of_cell? w _ AV)).trans AV
 replace AX := (HB.out.cell (World.block_lt_of_cell? w _ AX)).trans AX
 replace Az := eq_true Az
 replace A2 := eq_true A2
 have A0 : 0 ≤ ((Ac) : Int) := of_decide_eq_true (by assumption)
 have A6 : (Ac) < (l1.length : Int) := of_decide_eq_true (by assumption)
 obtain ⟨BI, BZ, Ad, AW⟩ := at_T52 Ap.out (Ac) A0 A6
 obtain rfl : BJ = BI := (by injection BZ)
 replace Ad := (HB.out.cell (World.block_lt_of_cell? w _ Ad)).trans Ad
 replace AW := (HB.out.cell (World.block_lt_of_cell? w _ AW)).trans AW
 replace A0 := eq_true A0
 replace A6 := eq_true A6
 go_wp2
 repeat (go_quiet (fail); try go_wp2)
 go_meet
 case rel => exact ⟨_, (decide (((rd_T52 l1 AA).f1) ≤ ((rd_T52 l1 (Ac)).f1))), (by first | rfl | (simp; done) | (simp only [← Ao] <;> (first | rfl | simp)) | (simp [*]; done)), H', ⟨by have := Aw.out; have := BA.out; first | omega | exact Nat.le_refl _⟩, ⟨(zK AE.out)⟩, ⟨zB HB.out⟩⟩
 }
 · rw [if_neg BT] at H; exact absurd H (by simp)
 }
 · rw [if_neg BV] at H; exact absurd H (by simp)
 }
 · rw [if_neg BP] at H; exact absurd H (by simp)
 }
 · rw [if_neg BU] at H; exact absurd H (by simp)
 }
 {
 rw [if_neg BB] at H
 have Ae : decide (0 < AA) = false := decide_eq_false BB
 clear BB
 (first | rw [Ae] | (simp only [i64_w, i32_w]; rw [Ae]) | skip)
 have H' := ak H
 clear H
 go_wp2
 repeat (go_quiet (fail); try go_wp2)
 go_meet
 case rel => exact ⟨_, (false), rfl, H', ⟨by have := Aw.out; have := BA.out; first | omega | exact Nat.le_refl _⟩, ⟨(zK AE.out)⟩, ⟨zB HB.out⟩⟩
 }
 )
 case rest => (
 clear A8
 obtain ⟨kq, AU, rfl, HA, As, AE, HB⟩ := hcut
 cases kq with
 | zero => exact absurd HA.out (by simp [spec_l03Holds.j2])
 | succ BN => (
 have H := HA.out
 clear HA
 simp only [spec_l03Holds.j2] at H
 by_cases BF : AU = true
 {
 subst BF
 rw [if_pos rfl] at H
 obtain rfl := Option.some.inj H
 go_wp2
 repeat (go_quiet (fail); try go_wp2)
 go_ret
 exact ⟨rfl, zB HB.out⟩
 }
 {
 replace BF := Bool.eq_false_iff.mpr BF
 subst BF
 rw [if_neg (show ¬ (false = true) by decide)] at H
 have H' := ak H
 clear H
 go_wp2
 repeat (go_quiet (fail); try go_wp2)
 go_loopg [6] BN (fun kq v6 w' => ∃ (AF : Int), v6 = .int .i64 AF ∧ Aside0 (spec_l03Holds.l1 kq l1 AA AF AG AD = some r) ∧ Aside0 (kq ≤ BN) ∧ Aside0 (w'.heap[b0]? = some (.cells #[.int .i16 AG, (.slice AO AD.length AN)] 27 (0, 0))) ∧ Aside0 (Below w.heap.size w w'))
 case atStart => exact ⟨(0), rfl, H', ⟨Nat.le_refl _⟩, ⟨(zK AE.out)⟩, ⟨zB HB.out⟩⟩
 case round => (
 clear H'
 obtain ⟨AF, rfl, HA, BS, AE, HB⟩ := hrel
 cases gk with
 | zero => exact absurd HA.out (by simp [spec_l03Holds.l1])
 | succ k4 => (
 have H := HA.out
 clear HA
 simp only [spec_l03Holds.l1] at H
 by_cases BC : AF < AA
 {
 rw [if_pos BC] at H
 have BK : decide (AF < AA) = true := decide_eq_true BC
 clear BC
 by_cases BQ : 0 ≤ AF
 {
 rw [if_pos BQ] at H
 have Bi : decide (0 ≤ AF) = true := decide_eq_true BQ
 clear BQ
 by_cases BR : AF < (l1.length : Int)
 {
 rw [if_pos BR] at H
 have Bq : decide (AF < (l1.length : Int)) = true := decide_eq_true BR
 clear BR
 by_cases BW : 0 ≤ AA
 {
 rw [if_pos BW] at H
 have Bp : decide (0 ≤ AA) = true := decide_eq_true BW
 clear BW
 by_cases BY : AA < (l1.length : Int)
 {
 rw [if_pos BY] at H
 have Bk : decide (AA < (l1.length : Int)) = true := decide_eq_true BY
 clear BY
 by_cases A7 : ((rd_T52 l1 AF).f0) = ((rd_T52 l1 AA).f0)
 {
 rw [if_pos A7] at H
 have BM : (((rd_T52 l1 AF).f0) == ((rd_T52 l1 AA).f0)) = true := beq_iff_eq.mpr A7
 have BO : (((rd_T52 l1 AF).f0) != ((rd_T52 l1 AA).f0)) = false := bne_eq_false_iff_eq.mpr A7
 clear A7
 obtain rfl := Option.some.inj H
 have Ak : 0 ≤ (AF : Int) := of_decide_eq_true (by assumption)
 have Aj : AF < (l1.length : Int) := of_decide_eq_true (by assumption)
 obtain ⟨Ar, A5, AL, AJ⟩ := at_T52 Ap.out AF Ak Aj
 cases A5
 replace AL := (HB.out.cell (World.block_lt_of_cell? w _ AL)).trans AL
 replace AJ := (HB.out.cell (World.block_lt_of_cell? w _ AJ)).trans AJ
 replace Ak := eq_true Ak
 replace Aj := eq_true Aj
 have Ah : 0 ≤ (AA : Int) := of_decide_eq_true (by assumption)
 have Am : AA < (l1.length : Int) := of_decide_eq_true (by assumption)
 obtain ⟨Aq, A4, AM, AH⟩ := at_T52 Ap.out AA Ah Am
 obtain rfl : Ar = Aq := (by injection A4)
 replace AM := (HB.out.cell (World.block_lt_of_cell? w _ AM)).trans AM
 replace AH := (HB.out.cell (World.block_lt_of_cell? w _ AH)).trans AH
 replace Ah := eq_true Ah
 replace Am := eq_true Am
 go_wp2
 repeat (go_quiet (fail); try go_wp2)
 go_ret
 exact ⟨rfl, zB HB.out⟩
 }
 {
 rw [if_neg A7] at H
 have BM : (((rd_T52 l1 AF).f0) == ((rd_T52 l1 AA).f0)) = false := beq_eq_false_iff_ne.mpr A7
 have BO : (((rd_T52 l1 AF).f0) != ((rd_T52 l1 AA).f0)) = true := bne_iff_ne.mpr A7
 have H' := ak H
 clear H
 have Ak : 0 ≤ (AF : Int) := of_decide_eq_true (by assumption)
 have Aj : AF < (l1.length : Int) := of_decide_eq_true (by assumption)
 obtain ⟨Ar, A5, AL, AJ⟩ := at_T52 Ap.out AF Ak Aj
 cases A5
 replace AL := (HB.out.cell (World.block_lt_of_cell? w _ AL)).trans AL
 replace AJ := (HB.out.cell (World.block_lt_of_cell? w _ AJ)).trans AJ
 replace Ak := eq_true Ak
 replace Aj := eq_true Aj
 have Ah : 0 ≤ (AA : Int) := of_decide_eq_true (by assumption)
 have Am : AA < (l1.length : Int) := of_decide_eq_true (by assumption)
 obtain ⟨Aq, A4, AM, AH⟩ := at_T52 Ap.out AA Ah Am
 obtain rfl : Ar = Aq := (by injection A4)
 replace AM := (HB.out.cell (World.block_lt_of_cell? w _ AM)).trans AM
 replace AH := (HB.out.cell (World.block_lt_of_cell? w _ AH)).trans AH
 replace Ah := eq_true Ah
 replace Am := eq_true Am
 go_wp2
 repeat (go_quiet (fail); try go_wp2)
 go_roundg k4
 case measure => have := Aw.out; have := BA.out; have := As.out; have := BS.out; omega
 case rel => exact ⟨(wrap64 (AF + 1)), rfl, H', ⟨by have := Aw.out; have := BA.out; have := As.out; have := BS.out; omega⟩, ⟨(zK AE.out)⟩, ⟨zB HB.out⟩⟩
 }
 }
 · rw [if_neg BY] at H; exact absurd H (by simp)
 }
 · rw [if_neg BW] at H; exact absurd H (by simp)
 }
 · rw [if_neg BR] at H; exact absurd H (by simp)
 }
 · rw [if_neg BQ] at H; exact absurd H (by simp)
 }
 {
 rw [if_neg BC] at H
 have BK : decide (AF < AA) = false := decide_eq_false BC
 clear BC
 have H' := ak H
 clear H
 go_wp2
 repeat (go_quiet (fail); try go_wp2)
 go_roundg k4
 case measure => have := Aw.out; have := BA.out; have := As.out; have := BS.out; omega
 case rel => exact ⟨(wrap64 (AA + 1)), rfl, H', ⟨by have := Aw.out; have := BA.out; have := As.out; have := BS.out; omega⟩, ⟨(zK AE.out)⟩, ⟨zB HB.out⟩⟩
 }
 )
 )
 }
 )
 )
 }
 )
 )
 }
 {
 rw [if_neg c6] at H
 have At : decide (AA < (l1.length : Int)) = false := decide_eq_false c6
 clear c6
 obtain rfl := Option.some.inj H
 go_wp2
 repeat (go_quiet (fail); try go_wp2)
 go_ret
 exact ⟨rfl, zB HB.out⟩
 }
 )
 )
 }
 {
 replace c4 := Bool.eq_false_iff.mpr c4
 subst c4
 rw [if_neg (show ¬ (false = true) by decide)] at H
 obtain rfl := Option.some.inj H
 go_enter Tryz.func52, Tryz.ntmps52
 go_wp2_with (first | (go_at_call 39; (with_reducible refine (spec_l03Ok.calls k b0 AG AO AN AD false _ ?side1 ?side2 ?side3 A3.out).mono ?_); (case side1 => exact sD AS); (case side2 => exact AT.out); (case side3 => exact (zK AE.out)); rintro e Bg ⟨rfl, hb⟩; replace AE := kK AE hb; replace HB := kB HB hb; (try clear hb)))
 repeat (go_quiet (first | (go_at_call 39; (with_reducible refine (spec_l03Ok.calls k b0 AG AO AN AD false _ ?side1 ?side2 ?side3 A3.out).mono ?_); (case side1 => exact sQ AS.out); (case side2 => exact AT.out); (case side3 => exact (zK AE.out)); rintro e Bg ⟨rfl, hb⟩; have BE := ak (blk_below (g := b0) (o := .cells #[.int .i16 AG, .slice AO AD.length AN] 27 (0, 0)) (zK AE.out) hb); have BG := ak (below_step (zB HB.out) hb); clear AE HB; have AE := BE; have HB := BG; clear BE BG; (try clear hb); (try clear hb2); (try clear hk); (try clear hi))); try go_wp2_with (first | (go_at_call 39; (with_reducible refine (spec_l03Ok.calls k b0 AG AO AN AD false _ ?side1 ?side2 ?side3 A3.out).mono ?_); (case side1 => exact sD AS); (case side2 => exact AT.out); (case side3 => exact (zK AE.out)); rintro e Bg ⟨rfl, hb⟩; replace AE := kK AE hb; replace HB := kB HB hb; (try clear hb))))
 go_ret
 exact ⟨rfl, zB HB.out⟩
 }
/-! ### spec_CloseUp: function 22 -/
def spec_CloseUp.l0 : Nat → List (S52) → List (S52) → Int → Option ((List (S52)) × Int)
  | 0, _, _, _ => none
  | k + 1, x1, x6, x7 => if x7 < (x1.length : Int) then (if 0 ≤ x7 then (if x6.length < 35184372088832 then (spec_CloseUp.l0 k x1 (x6 ++ [(⟨(rd_T52 x1 x7).f0, IntKind.i8.wrap (x7)⟩ : S52)]) (wrap64 (x7 + 1))) else (none)) else (none)) else (some (x6, 0))
def spec_CloseUp.f (k : Nat) (AC : Int) (AB : List Int) (l1 : List (S52)) : Option ((List (S52)) × Int) := (some (([] : List (S52)) : List (S52))).bind fun AA => ((spec_l03Holds.f k AC AB l1).bind fun AD => (if AD = true then (spec_CloseUp.l0 k l1 AA 0) else (some (AA, 1))))
set_option maxHeartbeats 8000000 in
set_option maxRecDepth 100000 in
theorem spec_CloseUp.calls (k : Nat) (AG : Int) (AM : Option Addr) (AK : Nat) (AD : List Int) (A1 : Option Addr) (c1 : Nat) (l1 : List (S52)) (r1 : List (S52)) (r2 : Int) (w : World) (AS : Kd.C (Kd.int .i16) w AM AD.length AD) (AT : AD.length ≤ AK) (Ao : Kd.C k52 w A1 l1.length l1) (Ap : l1.length ≤ c1) (h : spec_CloseUp.f k AG AD l1 = some (r1, r2)) :
    Calls Tryz.prog 22 #[.agg #[.int .i16 AG, .slice AM AD.length AK], .slice A1 l1.length c1] w fun e w' => ∃ v0_ : Value, e = .returned (.tuple #[v0_, .int .i64 r2]) ∧ Kd.R k52 52 w' w.heap.size (fun _ => True) v0_ r1 ∧ Below w.heap.size w w' := by
 have Ax := Tryz.underlying27
 have Av := Tryz.underlying52
 have AV := ak AS
 have AU := ak AT
 clear AS AT
 have Al := ak Ao
 have Ar := ak Ap
 clear Ao Ap
 have HB := ak (Below.refl w.heap.size w)
 have H := h
 unfold spec_CloseUp.f at H
 clear h
 obtain ⟨AY, AL⟩ : ∃ y_ : List (S52), y_ = (([] : List (S52))) := ⟨_, rfl⟩
 replace H : ((spec_l03Holds.f k AG AD l1).bind fun AX => (if AX = true then (spec_CloseUp.l0 k l1 AY 0) else (some (AY, 1)))) = some (r1, r2) := by first | (rw [AL]; with_reducible exact H) | (have AW := (Option.bind_some _ _).symm.trans H; rw [AL]; with_reducible exact AW) | (have AW := (Option.bind_some _ _).symm.trans H; with_reducible exact AW) | with_reducible exact H | (rw [AL]; exact H) | exact H
 have AN := ak AL
 clear AL
 replace H := Option.bind_eq_some_iff.mp H
 obtain ⟨AX, Aq, H⟩ := H
 have A3 := ak Aq
 clear Aq
 by_cases c4 : AX = true
 {
 subst c4
 rw [if_pos rfl] at H
 have H' := ak H
 clear H
 go_enter Tryz.func22, Tryz.ntmps22
 go_wp2_with (first | ((with_reducible refine gate_dst (N := 2) rfl ?_); refine box_event ?hg (N := 2) ?hd (cs := #[.int .i16 AG, .slice AM AD.length AK]) (t := 27) ?hr ?_; (case hd => rfl); (case hg => rfl); (case hr => first | (go_simp; done) | (go_simp; rfl)); intro AE hg w5 hbox hb; have AA := ak (hbox); have Ag := gS HB hg; have AC := gS HB hg; replace HB := kB HB hb; clear hb hbox hg) | ((with_reducible refine gate_dst (N := 8) rfl ?_); refine Kd.R_lit k52 _ 52 ?hg (N := 8) ?hd (xs := ([] : List (S52))) (inner := []) (ok := fun _ => True) (okp := fun _ => True) ?hr ?hp (fun _ hk => hk) trivial (Below.refl _ _) (Nat.le_refl _) (by simp) ?_; (case hd => rfl); (case hg => rfl); (case hr => first | (go_simp; done) | (go_simp; rfl)); (case hp => exact (Reps.none _ _)); intro Aj w6 Ab hb Am AP; clear Am AP; (first | rw [← AN.out] at Ab | (simp only [Int.reduceToNat] at Ab; rw [← AN.out] at Ab)); have AF := ak (Kd.R_lower Ab (below_size (zBG HB.out AC.out))); replace AA := kK AA hb; replace HB := kB1 HB AC hb; clear hb Ab) | ((with_reducible refine gate_callee (f := 52) rfl ?_); refine goesL_ (some 10) rfl rfl Tryz.func52 (by kernel_rfl) rfl #[.pointer (some ⟨AE, 0, none⟩), .slice A1 l1.length c1] rfl gl_ ?_; (with_reducible refine (spec_l03Holds.calls k AE AG AM AK AD _ _ l1 true _ ?side1 ?side2 ?side3 ?side4 ?side5 A3.out).mono ?_); (case side1 => exact sQ (Kd.C_below AV.out HB.out)); (case side2 => exact AU.out); (case side3 => exact sQ (Kd.C_below Al.out HB.out)); (case side4 => exact Ar.out); (case side5 => exact (zK AA.out)); rintro e w8 ⟨rfl, hb⟩; refine ⟨_, rfl, ?_⟩; replace AF := kR AF hb; replace AA := kK AA hb; replace HB := kB1 HB AC hb; (try clear hb)))
 go_loopg [6, 7] k (fun kq v6 v7 w' => ∃ (AO : List (S52)) (AB : Int), v7 = .int .i64 AB ∧ Aside0 (spec_CloseUp.l0 kq l1 AO AB = some (r1, r2)) ∧ Aside0 (kq ≤ k) ∧ Aside0 (Kd.R k52 52 w' w.heap.size (fun _ => True) v6 AO) ∧ Aside0 (w'.heap[AE]? = some (.cells #[.int .i16 AG, (.slice AM AD.length AK)] 27 (0, 0))) ∧ Aside0 (Below w.heap.size w w'))
 case atStart => exact ⟨(AY), (0), rfl, H', ⟨Nat.le_refl _⟩, ⟨(zR AF.out)⟩, ⟨(zK AA.out)⟩, ⟨zBG HB.out AC.out⟩⟩
 case round => (
 clear H'
 obtain ⟨AO, AB, rfl, HA, Au, AR, AA, HB⟩ := hrel
 cases gk with
 | zero => exact absurd HA.out (by simp [spec_CloseUp.l0])
 | succ k1 => (
 have H := HA.out
 clear HA
 simp only [spec_CloseUp.l0] at H
 by_cases c9 : AB < (l1.length : Int)
 {
 rw [if_pos c9] at H
 have An : decide (AB < (l1.length : Int)) = true := decide_eq_true c9
 clear c9
 by_cases Ai : 0 ≤ AB
 {
 rw [if_pos Ai] at H
 have At : decide (0 ≤ AB) = true := decide_eq_true Ai
 clear Ai
 by_cases Ah : AO.length < 35184372088832
 {
 rw [if_pos Ah] at H
 have Ae := ak Ah
 clear Ah
 obtain ⟨Ad, AJ⟩ : ∃ y_ : List (S52), y_ = (AO ++ [(⟨(rd_T52 l1 AB).f0, IntKind.i8.wrap (AB)⟩ : S52)]) := ⟨_, rfl⟩
 replace H : (spec_CloseUp.l0 k1 l1 Ad (wrap64 (AB + 1))) = some (r1, r2) := by first | (rw [AJ]; with_reducible exact H) | (have AW := (Option.bind_some _ _).symm.trans H; rw [AJ]; with_reducible exact AW) | (have AW := (Option.bind_some _ _).symm.trans H; with_reducible exact AW) | with_reducible exact H | (rw [AJ]; exact H) | exact H
 have Ac := ak AJ
 clear AJ
 have H' := ak H
 clear H
 have AZ : 0 ≤ (AB : Int) := of_decide_eq_true (by assumption)
 have Aa : AB < (l1.length : Int) := of_decide_eq_true (by assumption)
 obtain ⟨As, Ak, AI, AH⟩ := at_T52 Al.out AB AZ Aa
 cases Ak
 replace AI := (HB.out.cell (World.block_lt_of_cell? w _ AI)).trans AI
 replace AH := (HB.out.cell (World.block_lt_of_cell? w _ AH)).trans AH
 replace AZ := eq_true AZ
 replace Aa := eq_true Aa
 go_wp2_with (first | ((with_reducible refine gate_builtin (b := .append) (xs := #[.tmp 19, .tmp 28]) rfl ?_); at_builtin; refine Kd.R_append k52 (w0 := w) w.heap.size rfl (.tmp 19) (.tmp 28) 29 52 (.agg #[(.int .i16 0), (.int .i8 0)]) 4 rfl Tryz.underlying29 info52 rfl (by decide) (by omega) u6 AO (⟨(rd_T52 l1 AB).f0, IntKind.i8.wrap (AB)⟩ : S52) [.int .i16 ((rd_T52 l1 AB).f0), .int .i8 (IntKind.i8.wrap (AB))] (fun _ => True) (fun _ => False) rfl rfl ?aP (fun _ hk => hk.elim) ?aF ?aO ?aB ?aS ?aL ?_; (case aP => exact k52_mkM _ _ _ (⟨(rd_T52 l1 AB).f0, IntKind.i8.wrap (AB)⟩ : S52)); (case aB => exact (zBG HB.out AC.out)); (case aF => exact (fun _ _ => trivial)); (case aO => exact (zR AR.out)); (case aS => exact (below_size (zBG HB.out AC.out))); (case aL => have := Ae.out; omega); intro Aw A2 ho hb hg hat; rw [← Ac.out] at ho; have Af := ak (ho); replace AA := ak (blk_grown (g := AE) (o := .cells #[.int .i16 AG, .slice AM AD.length AK] 27 (0, 0)) (zK AA.out) hg (Kd.R_ne AR.out AA.out (by decide))); replace HB := ak (hb); clear AR ho hb hg hat))
 go_roundg k1
 case measure => have := Au.out; omega
 case rel => exact ⟨(Ad), (wrap64 (AB + 1)), rfl, H', ⟨by have := Au.out; omega⟩, ⟨(zR Af.out)⟩, ⟨(zK AA.out)⟩, ⟨zBG HB.out AC.out⟩⟩
 }
 · rw [if_neg Ah] at H; exact absurd H (by simp)
 }
 · rw [if_neg Ai] at H; exact absurd H (by simp)
 }
 {
 rw [if_neg c9] at H
 have An : decide (AB < (l1.length : Int)) = false := decide_eq_false c9
 clear c9
 simp only [Option.some.injEq, Prod.mk.injEq] at H
 obtain ⟨rfl, rfl⟩ := H
 go_wp2
 go_ret2
 exact ⟨_, rfl, AR.out, zBG HB.out AC.out⟩
 }
 )
 )
 }
 {
 replace c4 := Bool.eq_false_iff.mpr c4
 subst c4
 rw [if_neg (show ¬ (false = true) by decide)] at H
 simp only [Option.some.injEq, Prod.mk.injEq] at H
 obtain ⟨rfl, rfl⟩ := H
 go_enter Tryz.func22, Tryz.ntmps22
 go_wp2_with (first | ((with_reducible refine gate_dst (N := 2) rfl ?_); refine box_event ?hg (N := 2) ?hd (cs := #[.int .i16 AG, .slice AM AD.length AK]) (t := 27) ?hr ?_; (case hd => rfl); (case hg => rfl); (case hr => first | (go_simp; done) | (go_simp; rfl)); intro AE hg A0 hbox hb; have AA := ak (hbox); have Ag := gS HB hg; have AC := gS HB hg; replace HB := kB HB hb; clear hb hbox hg) | ((with_reducible refine gate_dst (N := 8) rfl ?_); refine Kd.R_lit k52 _ 52 ?hg (N := 8) ?hd (xs := ([] : List (S52))) (inner := []) (ok := fun _ => True) (okp := fun _ => True) ?hr ?hp (fun _ hk => hk) trivial (Below.refl _ _) (Nat.le_refl _) (by simp) ?_; (case hd => rfl); (case hg => rfl); (case hr => first | (go_simp; done) | (go_simp; rfl)); (case hp => exact (Reps.none _ _)); intro Aj Ay AQ hb Am AP; clear Am AP; (first | rw [← AN.out] at AQ | (simp only [Int.reduceToNat] at AQ; rw [← AN.out] at AQ)); have AF := ak (Kd.R_lower AQ (below_size (zBG HB.out AC.out))); replace AA := kK AA hb; replace HB := kB1 HB AC hb; clear hb AQ) | ((with_reducible refine gate_callee (f := 52) rfl ?_); refine goesL_ (some 10) rfl rfl Tryz.func52 (by kernel_rfl) rfl #[.pointer (some ⟨AE, 0, none⟩), .slice A1 l1.length c1] rfl gl_ ?_; (with_reducible refine (spec_l03Holds.calls k AE AG AM AK AD _ _ l1 false _ ?side1 ?side2 ?side3 ?side4 ?side5 A3.out).mono ?_); (case side1 => exact sQ (Kd.C_below AV.out HB.out)); (case side2 => exact AU.out); (case side3 => exact sQ (Kd.C_below Al.out HB.out)); (case side4 => exact Ar.out); (case side5 => exact (zK AA.out)); rintro e Az ⟨rfl, hb⟩; refine ⟨_, rfl, ?_⟩; replace AF := kR AF hb; replace AA := kK AA hb; replace HB := kB1 HB AC hb; (try clear hb)))
 go_ret2
 exact ⟨_, rfl, AF.out, zBG HB.out AC.out⟩
 }
end Go.Proofs.YtlggjfhoecaelaaGreatDoor.P
