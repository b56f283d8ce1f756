-- Printed by wip/print (my turned copy of the kit's print) out of the translation; Lean checks it.
import Derived.Test.YtooidjdgfoioiaaP0
import Derived.Test.YtooidjdgfoioiaaP1
import Derived.Test.YtooidjdgfoioiaaP14
namespace Go.Proofs.Ytooidjdgfoioiaa.P
open Go.RowKit Go.Proofs.YtooidjdgfoioiaaW.PrintWords Go.Proofs.YtooidjdgfoioiaaW.PrintLast Go.Proofs.YtooidjdgfoioiaaW.PrintMore
attribute [local go_sem] max2_int min2_int max_two min_two max_three min_three max_four min_four   -- for this text's walks alone
set_option linter.unusedVariables false
set_option linter.unusedSimpArgs false

/-! ### spec_l03Holds: function 69 -/
mutual
def spec_l03Holds.l0 : Nat → List (S65) → Int → Int → List Int → Option (Bool)
  | 0, _, _, _, _ => none
  | k + 1, x1, x5, AB, AA => if x5 < (x1.length : Int) then (if 0 ≤ x5 then ((spec_l00In.f (wrap64 ((rd_T65 x1 x5).f0)) 0 999).bind fun AD => (if AD = true then ((spec_l00In.f (wrap64 ((rd_T65 x1 x5).f1)) 0 (wrap64 ((AA.length : Int) - 1))).bind fun AC => (spec_l03Holds.j1 k x1 x5 (!AC) AB AA)) else (spec_l03Holds.j1 k x1 x5 true AB AA))) else (none)) else (some true)
def spec_l03Holds.j1 : Nat → List (S65) → Int → Bool → Int → List Int → Option (Bool)
  | 0, _, _, _, _, _ => none
  | k + 1, x1, x5, AC, AA, AB => if AC = true then (some false) else (if x5 > 0 then (if 0 ≤ x5 then (if x5 < (x1.length : Int) then (if 0 ≤ (wrap64 (x5 - 1)) then (if (wrap64 (x5 - 1)) < (x1.length : Int) then (spec_l03Holds.j2 k x1 x5 (decide (((rd_T65 x1 x5).f1) ≤ ((rd_T65 x1 (wrap64 (x5 - 1))).f1))) AA AB) else (none)) else (none)) else (none)) else (none)) else (spec_l03Holds.j2 k x1 x5 false AA AB))
def spec_l03Holds.j2 : Nat → List (S65) → Int → Bool → Int → List Int → Option (Bool)
  | 0, _, _, _, _, _ => none
  | k + 1, x1, x5, AC, AA, AB => if AC = true then (some false) else (spec_l03Holds.l1 k x1 x5 0 AA AB)
def spec_l03Holds.l1 : Nat → List (S65) → Int → Int → Int → List Int → Option (Bool)
  | 0, _, _, _, _, _ => none
  | k + 1, x1, x5, x6, AA, AB => if x6 < x5 then (if 0 ≤ x6 then (if x6 < (x1.length : Int) then (if 0 ≤ x5 then (if x5 < (x1.length : Int) then (if ((rd_T65 x1 x6).f0) = ((rd_T65 x1 x5).f0) then (some false) else (spec_l03Holds.l1 k x1 x5 (wrap64 (x6 + 1)) AA AB)) else (none)) else (none)) else (none)) else (none)) else (spec_l03Holds.l0 k x1 (wrap64 (x5 + 1)) AA AB)
end
def spec_l03Holds.f (k : Nat) (AB : Int) (AA : List Int) (l1 : List (S65)) : Option (Bool) := (spec_l03Ok.f k AB AA).bind fun AC => (if AC = true then (spec_l03Holds.l0 k l1 0 AB AA) else (some false))
set_option maxHeartbeats 8000000 in
set_option maxRecDepth 100000 in
theorem spec_l03Holds.calls (k : Nat) (b0 : Nat) (AG : Int) (AO : Option Addr) (AN : Nat) (AD : List Int) (A1 : Option Addr) (c1 : Nat) (l1 : List (S65)) (r : Bool) (w : World) (Ax : Kd.C (Kd.int .i16) w AO AD.length AD) (Aw : AD.length ≤ AN) (Bq : Kd.C k65 w A1 l1.length l1) (Br : l1.length ≤ c1) (Bp : w.heap[b0]? = some (.cells #[.int .i16 AG, .slice AO AD.length AN] 32 (0, 0))) (h : spec_l03Holds.f k AG AD l1 = some r) :
    Calls Try.prog 69 #[.pointer (some ⟨b0, 0, none⟩), .slice A1 l1.length c1] w fun e w' => e = .returned (.bool r) ∧ Below w.heap.size w w' := by
 have AS := ak Ax
 have AT := ak Aw
 clear Ax Aw
 have Ap := ak Bq
 have Bx := ak Br
 clear Bq Br
 have AF := ak Bp
 clear Bp
 have HB := ak (Below.refl w.heap.size w)
 have H := h
 unfold spec_l03Holds.f at H
 clear h
 replace H := Option.bind_eq_some_iff.mp H
 obtain ⟨Bb, Bj, H⟩ := H
 have A3 := ak Bj
 clear Bj
 by_cases c4 : Bb = true
 {
 subst c4
 rw [if_pos rfl] at H
 have H' := ak H
 clear H
 go_enter Try.func69, Try.ntmps69
 go_wp2_with (first | (go_at_call 88; (with_reducible refine (spec_l03Ok.calls k b0 AG AO AN AD true _ ?side1 ?side2 ?side3 A3.out).mono ?_); (case side1 => exact sD AS); (case side2 => exact AT.out); (case side3 => exact (zK AF.out)); rintro e w5 ⟨rfl, hb⟩; replace AF := kK AF hb; replace HB := kB HB hb; (try clear hb)))
 repeat (go_quiet (first | (go_at_call 88; (with_reducible refine (spec_l03Ok.calls k b0 AG AO AN AD true _ ?side1 ?side2 ?side3 A3.out).mono ?_); (case side1 => exact sQ AS.out); (case side2 => exact AT.out); (case side3 => exact (zK AF.out)); rintro e w5 ⟨rfl, hb⟩; have BL := ak (blk_below (g := b0) (o := .cells #[.int .i16 AG, .slice AO AD.length AN] 32 (0, 0)) (zK AF.out) hb); have BF := ak (below_step (zB HB.out) hb); clear AF HB; have AF := BL; have HB := BF; clear BL BF; (try clear hb); (try clear hb2); (try clear hk); (try clear hi))); try go_wp2_with (first | (go_at_call 88; (with_reducible refine (spec_l03Ok.calls k b0 AG AO AN AD true _ ?side1 ?side2 ?side3 A3.out).mono ?_); (case side1 => exact sD AS); (case side2 => exact AT.out); (case side3 => exact (zK AF.out)); rintro e w5 ⟨rfl, hb⟩; replace AF := kK AF hb; replace HB := kB HB hb; (try clear hb))))
 go_loopg [5] k (fun kq v5 w' => ∃ (AA : Int), v5 = .int .i64 AA ∧ Aside0 (spec_l03Holds.l0 kq l1 AA AG AD = some r) ∧ Aside0 (kq ≤ k) ∧ Aside0 (w'.heap[b0]? = some (.cells #[.int .i16 AG, (.slice AO AD.length AN)] 32 (0, 0))) ∧ Aside0 (Below w.heap.size w w'))
 case atStart => exact ⟨(0), rfl, H', ⟨Nat.le_refl _⟩, ⟨(zK AF.out)⟩, ⟨zB HB.out⟩⟩
 case round => (
 clear H'
 obtain ⟨AA, rfl, HA, Av, AF, HB⟩ := hrel
 cases gk with
 | zero => exact absurd HA.out (by simp [spec_l03Holds.l0])
 | succ k1 => (
 have H := HA.out
 clear HA
 simp only [spec_l03Holds.l0] at H
 by_cases c6 : AA < (l1.length : Int)
 {
 rw [if_pos c6] at H
 have As : decide (AA < (l1.length : Int)) = true := decide_eq_true c6
 clear c6
 have BZ := ak H
 clear H
 go_upto_region 6 with (fail)
 repeat (go_quiet (fail); go_upto_region 6 with (fail))
 go_cut [39] (fun Bw wc => ∃ (kq : Nat) (An : Bool), Bw = .bool An ∧ Aside0 (spec_l03Holds.j1 kq l1 AA An AG AD = some r) ∧ Aside0 (kq ≤ k1) ∧ Aside0 (wc.heap[b0]? = some (.cells #[.int .i16 AG, (.slice AO AD.length AN)] 32 (0, 0))) ∧ Aside0 (Below w.heap.size w wc))
 case first => (
 have H := BZ.out
 clear BZ
 by_cases c8 : 0 ≤ AA
 {
 rw [if_pos c8] at H
 have BJ : decide (0 ≤ AA) = true := decide_eq_true c8
 clear c8
 (first | rw [BJ] | (simp only [i64_w, i32_w]; rw [BJ]) | skip)
 replace H := Option.bind_eq_some_iff.mp H
 obtain ⟨Bc, Bn, H⟩ := H
 have A9 := ak Bn
 clear Bn
 by_cases BX : Bc = true
 {
 subst BX
 rw [if_pos rfl] at H
 replace H := Option.bind_eq_some_iff.mp H
 obtain ⟨At, BG, H⟩ := H
 have Bf := ak BG
 clear BG
 have H' := ak H
 clear H
 have Am : 0 ≤ (AA : Int) := of_decide_eq_true (by assumption)
 have Ai : AA < (l1.length : Int) := of_decide_eq_true (by assumption)
 obtain ⟨Ae, A5, AL, AK⟩ := at_T65 Ap.out AA Am Ai
 cases A5
 replace AL := (HB.out.cell (World.block_lt_of_cell? w _ AL)).trans AL
 replace AK := (HB.out.cell (World.block_lt_of_cell? w _ AK)).trans AK
 replace Am := eq_true Am
 replace Ai := eq_true Ai
 go_wp2_with (first | (go_at_call 72; (with_reducible refine (spec_l00In.calls (wrap64 ((rd_T65 l1 AA).f0)) 0 999 true _ A9.out).mono ?_); rintro e w' ⟨rfl, ⟨nd, rfl⟩⟩; have AQ : 0 ≤ (AA : Int) := of_decide_eq_true (by assumption); have AP : AA < (l1.length : Int) := of_decide_eq_true (by assumption); obtain ⟨AR, Aj, AB, AC⟩ := at_T65 Ap.out AA AQ AP; obtain rfl : Ae = AR := (by injection Aj); replace AB := (HB.out.cell (World.block_lt_of_cell? w _ AB)).trans AB; replace AC := (HB.out.cell (World.block_lt_of_cell? w _ AC)).trans AC; replace AQ := eq_true AQ; replace AP := eq_true AP; obtain ⟨Ad, AV, AU, AW⟩ := cz2 wr AF) | (go_at_call 72; (with_reducible refine (spec_l00In.calls (wrap64 ((rd_T65 l1 AA).f1)) 0 (wrap64 ((AD.length : Int) - 1)) At _ Bf.out).mono ?_); rintro e w' ⟨rfl, ⟨nd, rfl⟩⟩))
 try (have AQ : 0 ≤ (AA : Int) := of_decide_eq_true (by assumption); have AP : AA < (l1.length : Int) := of_decide_eq_true (by assumption); obtain ⟨AR, Aj, AB, AC⟩ := at_T65 Ap.out AA AQ AP; obtain rfl : Ae = AR := (by injection Aj); replace AB := (HB.out.cell (World.block_lt_of_cell? w _ AB)).trans AB; replace AC := (HB.out.cell (World.block_lt_of_cell? w _ AC)).trans AC; replace AQ := eq_true AQ; replace AP := eq_true AP; have Ad : wr.cell? ⟨b0, 0, none⟩ = some (.int .i16 AG) := (blk_cell AF.out 0).trans rfl; have AV : wr.cell? ⟨b0, 1, none⟩ = some (.slice AO AD.length AN) := (blk_cell AF.out 1).trans rfl; have AU := blk_frozen AF.out 0; have AW := blk_frozen AF.out 1)
 repeat (go_quiet (first | (go_at_call 72; (with_reducible refine (spec_l00In.calls (wrap64 ((rd_T65 l1 AA).f0)) 0 999 true _ A9.out).mono ?_); rintro e w' ⟨rfl, ⟨nd, rfl⟩⟩; (try first | exact ⟨rfl, _, World.drewN_drewN _ _ _⟩ | exact ⟨rfl, _, Eq.trans (World.drewN_drewN _ _ _) (congrArg (World.drewN _) (Nat.add_assoc _ _ _))⟩); try (have AQ : 0 ≤ (AA : Int) := of_decide_eq_true (by assumption); have AP : AA < (l1.length : Int) := of_decide_eq_true (by assumption); obtain ⟨AR, Aj, AB, AC⟩ := at_T65 Ap.out AA AQ AP; obtain rfl : Ae = AR := (by injection Aj); replace AB := (HB.out.cell (World.block_lt_of_cell? w _ AB)).trans AB; replace AC := (HB.out.cell (World.block_lt_of_cell? w _ AC)).trans AC; replace AQ := eq_true AQ; replace AP := eq_true AP; have Ad : wr.cell? ⟨b0, 0, none⟩ = some (.int .i16 AG) := (blk_cell AF.out 0).trans rfl; have AV : wr.cell? ⟨b0, 1, none⟩ = some (.slice AO AD.length AN) := (blk_cell AF.out 1).trans rfl; have AU := blk_frozen AF.out 0; have AW := blk_frozen AF.out 1)) | (go_at_call 72; (with_reducible refine (spec_l00In.calls (wrap64 ((rd_T65 l1 AA).f1)) 0 (wrap64 ((AD.length : Int) - 1)) At _ Bf.out).mono ?_); rintro e w' ⟨rfl, ⟨nd, rfl⟩⟩; (try first | exact ⟨rfl, _, World.drewN_drewN _ _ _⟩ | exact ⟨rfl, _, Eq.trans (World.drewN_drewN _ _ _) (congrArg (World.drewN _) (Nat.add_assoc _ _ _))⟩))); try go_wp2_with (first | (go_at_call 72; (with_reducible refine (spec_l00In.calls (wrap64 ((rd_T65 l1 AA).f0)) 0 999 true _ A9.out).mono ?_); rintro e w' ⟨rfl, ⟨nd, rfl⟩⟩; (try first | exact ⟨rfl, _, World.drewN_drewN _ _ _⟩ | exact ⟨rfl, _, Eq.trans (World.drewN_drewN _ _ _) (congrArg (World.drewN _) (Nat.add_assoc _ _ _))⟩); try (have AQ : 0 ≤ (AA : Int) := of_decide_eq_true (by assumption); have AP : AA < (l1.length : Int) := of_decide_eq_true (by assumption); obtain ⟨AR, Aj, AB, AC⟩ := at_T65 Ap.out AA AQ AP; obtain rfl : Ae = AR := (by injection Aj); replace AB := (HB.out.cell (World.block_lt_of_cell? w _ AB)).trans AB; replace AC := (HB.out.cell (World.block_lt_of_cell? w _ AC)).trans AC; replace AQ := eq_true AQ; replace AP := eq_true AP; have Ad : wr.cell? ⟨b0, 0, none⟩ = some (.int .i16 AG) := (blk_cell AF.out 0).trans rfl; have AV : wr.cell? ⟨b0, 1, none⟩ = some (.slice AO AD.length AN) := (blk_cell AF.out 1).trans rfl; have AU := blk_frozen AF.out 0; have AW := blk_frozen AF.out 1)) | (go_at_call 72; (with_reducible refine (spec_l00In.calls (wrap64 ((rd_T65 l1 AA).f1)) 0 (wrap64 ((AD.length : Int) - 1)) At _ Bf.out).mono ?_); rintro e w' ⟨rfl, ⟨nd, rfl⟩⟩; (try first | exact ⟨rfl, _, World.drewN_drewN _ _ _⟩ | exact ⟨rfl, _, Eq.trans (World.drewN_drewN _ _ _) (congrArg (World.drewN _) (Nat.add_assoc _ _ _))⟩))))
 go_meet
 case rel => exact ⟨_, (!At), rfl, H', ⟨by have := Av.out; first | omega | exact Nat.le_refl _⟩, ⟨(zK AF.out)⟩, ⟨zB HB.out⟩⟩
 }
 {
 replace BX := Bool.eq_false_iff.mpr BX
 subst BX
 rw [if_neg (show ¬ (false = true) by decide)] at H
 have H' := ak H
 clear H
 have Am : 0 ≤ (AA : Int) := of_decide_eq_true (by assumption)
 have Ai : AA < (l1.length : Int) := of_decide_eq_true (by assumption)
 obtain ⟨Ae, A5, AL, AK⟩ := at_T65 Ap.out AA Am Ai
 cases A5
 replace AL := (HB.out.cell (World.block_lt_of_cell? w _ AL)).trans AL
 replace AK := (HB.out.cell (World.block_lt_of_cell? w _ AK)).trans AK
 replace Am := eq_true Am
 replace Ai := eq_true Ai
 go_wp2_with (first | (go_at_call 72; (with_reducible refine (spec_l00In.calls (wrap64 ((rd_T65 l1 AA).f0)) 0 999 false _ A9.out).mono ?_); rintro e w' ⟨rfl, ⟨nd, rfl⟩⟩))
 repeat (go_quiet (first | (go_at_call 72; (with_reducible refine (spec_l00In.calls (wrap64 ((rd_T65 l1 AA).f0)) 0 999 false _ A9.out).mono ?_); rintro e w' ⟨rfl, ⟨nd, rfl⟩⟩; (try first | exact ⟨rfl, _, World.drewN_drewN _ _ _⟩ | exact ⟨rfl, _, Eq.trans (World.drewN_drewN _ _ _) (congrArg (World.drewN _) (Nat.add_assoc _ _ _))⟩))); try go_wp2_with (first | (go_at_call 72; (with_reducible refine (spec_l00In.calls (wrap64 ((rd_T65 l1 AA).f0)) 0 999 false _ A9.out).mono ?_); rintro e w' ⟨rfl, ⟨nd, rfl⟩⟩; (try first | exact ⟨rfl, _, World.drewN_drewN _ _ _⟩ | exact ⟨rfl, _, Eq.trans (World.drewN_drewN _ _ _) (congrArg (World.drewN _) (Nat.add_assoc _ _ _))⟩))))
 go_meet
 case rel => exact ⟨_, (true), rfl, H', ⟨by have := Av.out; first | omega | exact Nat.le_refl _⟩, ⟨(zK AF.out)⟩, ⟨zB HB.out⟩⟩
 }
 }
 · rw [if_neg c8] at H; exact absurd H (by simp)
 )
 case rest => (
 clear BZ
 obtain ⟨kq, An, rfl, HA, BC, AF, HB⟩ := hcut
 cases kq with
 | zero => exact absurd HA.out (by simp [spec_l03Holds.j1])
 | succ Bv => (
 have H := HA.out
 clear HA
 simp only [spec_l03Holds.j1] at H
 by_cases BD : An = true
 {
 subst BD
 rw [if_pos rfl] at H
 obtain rfl := Option.some.inj H
 go_wp2
 repeat (go_quiet (fail); try go_wp2)
 go_ret
 exact ⟨rfl, zB HB.out⟩
 }
 {
 replace BD := Bool.eq_false_iff.mpr BD
 subst BD
 rw [if_neg (show ¬ (false = true) by decide)] at H
 have A7 := ak H
 clear H
 go_upto_region 8 with (fail)
 repeat (go_quiet (fail); go_upto_region 8 with (fail))
 go_cut [55] (fun Bu wc => ∃ (kq : Nat) (Aa : Bool), Bu = .bool Aa ∧ Aside0 (spec_l03Holds.j2 kq l1 AA Aa AG AD = some r) ∧ Aside0 (kq ≤ Bv) ∧ Aside0 (wc.heap[b0]? = some (.cells #[.int .i16 AG, (.slice AO AD.length AN)] 32 (0, 0))) ∧ Aside0 (Below w.heap.size w wc))
 case first => (
 have H := A7.out
 clear A7
 by_cases BB : AA > 0
 {
 rw [if_pos BB] at H
 have Af : decide (0 < AA) = true := decide_eq_true BB
 clear BB
 (first | rw [Af] | (simp only [i64_w, i32_w]; rw [Af]) | skip)
 by_cases BT : 0 ≤ AA
 {
 rw [if_pos BT] at H
 have Bl : decide (0 ≤ AA) = true := decide_eq_true BT
 clear BT
 by_cases BU : AA < (l1.length : Int)
 {
 rw [if_pos BU] at H
 have Bg : decide (AA < (l1.length : Int)) = true := decide_eq_true BU
 clear BU
 obtain ⟨Ac, Ao⟩ : ∃ j_ : Int, (wrap64 (AA - 1)) = j_ := ⟨_, rfl⟩
 first | rw [Ao] at H | simp only [Ao] at H
 have Be : (IntKind.i64.wrap (AA - 1)) = Ac := (i64_w _).trans Ao
 by_cases BY : 0 ≤ (Ac)
 {
 rw [if_pos BY] at H
 have Bm : decide (0 ≤ (Ac)) = true := decide_eq_true BY
 clear BY
 by_cases BP : (Ac) < (l1.length : Int)
 {
 rw [if_pos BP] at H
 have Bs : decide ((Ac) < (l1.length : Int)) = true := decide_eq_true BP
 clear BP
 have H' := ak H
 clear H
 have A8 : 0 ≤ (AA : Int) := of_decide_eq_true (by assumption)
 have A4 : AA < (l1.length : Int) := of_decide_eq_true (by assumption)
 obtain ⟨BI, Ba, Ab, AZ⟩ := at_T65 Ap.out AA A8 A4
 cases Ba
 replace Ab := (HB.out.cell (World.block_lt_of_cell? w _ Ab)).trans Ab
 replace AZ := (HB.out.cell (World.block_lt_of_cell? w _ AZ)).trans AZ
 replace A8 := eq_true A8
 replace A4 := eq_true A4
 have Az : 0 ≤ ((Ac) : Int) := of_decide_eq_true (by assumption)
 have A2 : (Ac) < (l1.length : Int) := of_decide_eq_true (by assumption)
 obtain ⟨BM, Bd, AY, AX⟩ := at_T65 Ap.out (Ac) Az A2
 obtain rfl : BI = BM := (by injection Bd)
 replace AY := (HB.out.cell (World.block_lt_of_cell? w _ AY)).trans AY
 replace AX := (HB.out.cell (World.block_lt_of_cell? w _ AX)).trans AX
 replace Az := eq_true Az
 replace A2 := eq_true A2
 go_wp2
 repeat (go_quiet (fail); try go_wp2)
 go_meet
 case rel => exact ⟨_, (decide (((rd_T65 l1 AA).f1) ≤ ((rd_T65 l1 (Ac)).f1))), (by first | rfl | (simp; done) | (simp only [← Ao] <;> (first | rfl | simp)) | (simp [*]; done)), H', ⟨by have := Av.out; have := BC.out; first | omega | exact Nat.le_refl _⟩, ⟨(zK AF.out)⟩, ⟨zB HB.out⟩⟩
 }
 · rw [if_neg BP] at H; exact absurd H (by simp)
 }
 · rw [if_neg BY] at H; exact absurd H (by simp)
 }
 · rw [if_neg BU] at H; exact absurd H (by simp)
 }
 · rw [if_neg BT] at H; exact absurd H (by simp)
 }
 {
 rw [if_neg BB] at H
 have Af : decide (0 < AA) = false := decide_eq_false BB
 clear BB
 (first | rw [Af] | (simp only [i64_w, i32_w]; rw [Af]) | skip)
 have H' := ak H
 clear H
 go_wp2
 repeat (go_quiet (fail); try go_wp2)
 go_meet
 case rel => exact ⟨_, (false), rfl, H', ⟨by have := Av.out; have := BC.out; first | omega | exact Nat.le_refl _⟩, ⟨(zK AF.out)⟩, ⟨zB HB.out⟩⟩
 }
 )
 case rest => (
 clear A7
 obtain ⟨kq, Aa, rfl, HA, Au, AF, HB⟩ := hcut
 cases kq with
 | zero => exact absurd HA.out (by simp [spec_l03Holds.j2])
 | succ BO => (
 have H := HA.out
 clear HA
 simp only [spec_l03Holds.j2] at H
 by_cases BE : Aa = true
 {
 subst BE
 rw [if_pos rfl] at H
 obtain rfl := Option.some.inj H
 go_wp2
 repeat (go_quiet (fail); try go_wp2)
 go_ret
 exact ⟨rfl, zB HB.out⟩
 }
 {
 replace BE := Bool.eq_false_iff.mpr BE
 subst BE
 rw [if_neg (show ¬ (false = true) by decide)] at H
 have H' := ak H
 clear H
 go_wp2
 repeat (go_quiet (fail); try go_wp2)
 go_loopg [6] BO (fun kq v6 w' => ∃ (AE : Int), v6 = .int .i64 AE ∧ Aside0 (spec_l03Holds.l1 kq l1 AA AE AG AD = some r) ∧ Aside0 (kq ≤ BO) ∧ Aside0 (w'.heap[b0]? = some (.cells #[.int .i16 AG, (.slice AO AD.length AN)] 32 (0, 0))) ∧ Aside0 (Below w.heap.size w w'))
 case atStart => exact ⟨(0), rfl, H', ⟨Nat.le_refl _⟩, ⟨(zK AF.out)⟩, ⟨zB HB.out⟩⟩
 case round => (
 clear H'
 obtain ⟨AE, rfl, HA, BR, AF, HB⟩ := hrel
 cases gk with
 | zero => exact absurd HA.out (by simp [spec_l03Holds.l1])
 | succ k4 => (
 have H := HA.out
 clear HA
 simp only [spec_l03Holds.l1] at H
 by_cases BA : AE < AA
 {
 rw [if_pos BA] at H
 have BK : decide (AE < AA) = true := decide_eq_true BA
 clear BA
 by_cases BW : 0 ≤ AE
 {
 rw [if_pos BW] at H
 have Bi : decide (0 ≤ AE) = true := decide_eq_true BW
 clear BW
 by_cases BV : AE < (l1.length : Int)
 {
 rw [if_pos BV] at H
 have Bk : decide (AE < (l1.length : Int)) = true := decide_eq_true BV
 clear BV
 by_cases BS : 0 ≤ AA
 {
 rw [if_pos BS] at H
 have Bo : decide (0 ≤ AA) = true := decide_eq_true BS
 clear BS
 by_cases BQ : AA < (l1.length : Int)
 {
 rw [if_pos BQ] at H
 have Bh : decide (AA < (l1.length : Int)) = true := decide_eq_true BQ
 clear BQ
 by_cases A0 : ((rd_T65 l1 AE).f0) = ((rd_T65 l1 AA).f0)
 {
 rw [if_pos A0] at H
 have BN : (((rd_T65 l1 AE).f0) == ((rd_T65 l1 AA).f0)) = true := beq_iff_eq.mpr A0
 have BH : (((rd_T65 l1 AE).f0) != ((rd_T65 l1 AA).f0)) = false := bne_eq_false_iff_eq.mpr A0
 clear A0
 obtain rfl := Option.some.inj H
 have Ak : 0 ≤ (AE : Int) := of_decide_eq_true (by assumption)
 have Ag : AE < (l1.length : Int) := of_decide_eq_true (by assumption)
 obtain ⟨Ar, A6, AJ, AI⟩ := at_T65 Ap.out AE Ak Ag
 cases A6
 replace AJ := (HB.out.cell (World.block_lt_of_cell? w _ AJ)).trans AJ
 replace AI := (HB.out.cell (World.block_lt_of_cell? w _ AI)).trans AI
 replace Ak := eq_true Ak
 replace Ag := eq_true Ag
 have Ah : 0 ≤ (AA : Int) := of_decide_eq_true (by assumption)
 have Al : AA < (l1.length : Int) := of_decide_eq_true (by assumption)
 obtain ⟨Aq, Ay, AH, AM⟩ := at_T65 Ap.out AA Ah Al
 obtain rfl : Ar = Aq := (by injection Ay)
 replace AH := (HB.out.cell (World.block_lt_of_cell? w _ AH)).trans AH
 replace AM := (HB.out.cell (World.block_lt_of_cell? w _ AM)).trans AM
 replace Ah := eq_true Ah
 replace Al := eq_true Al
 go_wp2
 repeat (go_quiet (fail); try go_wp2)
 go_ret
 exact ⟨rfl, zB HB.out⟩
 }
 {
 rw [if_neg A0] at H
 have BN : (((rd_T65 l1 AE).f0) == ((rd_T65 l1 AA).f0)) = false := beq_eq_false_iff_ne.mpr A0
 have BH : (((rd_T65 l1 AE).f0) != ((rd_T65 l1 AA).f0)) = true := bne_iff_ne.mpr A0
 have H' := ak H
 clear H
 have Ak : 0 ≤ (AE : Int) := of_decide_eq_true (by assumption)
 have Ag : AE < (l1.length : Int) := of_decide_eq_true (by assumption)
 obtain ⟨Ar, A6, AJ, AI⟩ := at_T65 Ap.out AE Ak Ag
 cases A6
 replace AJ := (HB.out.cell (World.block_lt_of_cell? w _ AJ)).trans AJ
 replace AI := (HB.out.cell (World.block_lt_of_cell? w _ AI)).trans AI
 replace Ak := eq_true Ak
 replace Ag := eq_true Ag
 have Ah : 0 ≤ (AA : Int) := of_decide_eq_true (by assumption)
 have Al : AA < (l1.length : Int) := of_decide_eq_true (by assumption)
 obtain ⟨Aq, Ay, AH, AM⟩ := at_T65 Ap.out AA Ah Al
 obtain rfl : Ar = Aq := (by injection Ay)
 replace AH := (HB.out.cell (World.block_lt_of_cell? w _ AH)).trans AH
 replace AM := (HB.out.cell (World.block_lt_of_cell? w _ AM)).trans AM
 replace Ah := eq_true Ah
 replace Al := eq_true Al
 go_wp2
 repeat (go_quiet (fail); try go_wp2)
 go_roundg k4
 case measure => have := Av.out; have := BC.out; have := Au.out; have := BR.out; omega
 case rel => exact ⟨(wrap64 (AE + 1)), rfl, H', ⟨by have := Av.out; have := BC.out; have := Au.out; have := BR.out; omega⟩, ⟨(zK AF.out)⟩, ⟨zB HB.out⟩⟩
 }
 }
 · rw [if_neg BQ] at H; exact absurd H (by simp)
 }
 · rw [if_neg BS] at H; exact absurd H (by simp)
 }
 · rw [if_neg BV] at H; exact absurd H (by simp)
 }
 · rw [if_neg BW] at H; exact absurd H (by simp)
 }
 {
 rw [if_neg BA] at H
 have BK : decide (AE < AA) = false := decide_eq_false BA
 clear BA
 have H' := ak H
 clear H
 go_wp2
 repeat (go_quiet (fail); try go_wp2)
 go_roundg k4
 case measure => have := Av.out; have := BC.out; have := Au.out; have := BR.out; omega
 case rel => exact ⟨(wrap64 (AA + 1)), rfl, H', ⟨by have := Av.out; have := BC.out; have := Au.out; have := BR.out; omega⟩, ⟨(zK AF.out)⟩, ⟨zB HB.out⟩⟩
 }
 )
 )
 }
 )
 )
 }
 )
 )
 }
 {
 rw [if_neg c6] at H
 have As : decide (AA < (l1.length : Int)) = false := decide_eq_false c6
 clear c6
 obtain rfl := Option.some.inj H
 go_wp2
 repeat (go_quiet (fail); try go_wp2)
 go_ret
 exact ⟨rfl, zB HB.out⟩
 }
 )
 )
 }
 {
 replace c4 := Bool.eq_false_iff.mpr c4
 subst c4
 rw [if_neg (show ¬ (false = true) by decide)] at H
 obtain rfl := Option.some.inj H
 go_enter Try.func69, Try.ntmps69
 go_wp2_with (first | (go_at_call 88; (with_reducible refine (spec_l03Ok.calls k b0 AG AO AN AD false _ ?side1 ?side2 ?side3 A3.out).mono ?_); (case side1 => exact sD AS); (case side2 => exact AT.out); (case side3 => exact (zK AF.out)); rintro e Bt ⟨rfl, hb⟩; replace AF := kK AF hb; replace HB := kB HB hb; (try clear hb)))
 repeat (go_quiet (first | (go_at_call 88; (with_reducible refine (spec_l03Ok.calls k b0 AG AO AN AD false _ ?side1 ?side2 ?side3 A3.out).mono ?_); (case side1 => exact sQ AS.out); (case side2 => exact AT.out); (case side3 => exact (zK AF.out)); rintro e Bt ⟨rfl, hb⟩; have BL := ak (blk_below (g := b0) (o := .cells #[.int .i16 AG, .slice AO AD.length AN] 32 (0, 0)) (zK AF.out) hb); have BF := ak (below_step (zB HB.out) hb); clear AF HB; have AF := BL; have HB := BF; clear BL BF; (try clear hb); (try clear hb2); (try clear hk); (try clear hi))); try go_wp2_with (first | (go_at_call 88; (with_reducible refine (spec_l03Ok.calls k b0 AG AO AN AD false _ ?side1 ?side2 ?side3 A3.out).mono ?_); (case side1 => exact sD AS); (case side2 => exact AT.out); (case side3 => exact (zK AF.out)); rintro e Bt ⟨rfl, hb⟩; replace AF := kK AF hb; replace HB := kB HB hb; (try clear hb))))
 go_ret
 exact ⟨rfl, zB HB.out⟩
 }
end Go.Proofs.Ytooidjdgfoioiaa.P
