-- Printed by wip/print (my turned copy of the kit's print) out of the translation; Lean checks it.
import Derived.Test.YtlggjfhoecaelaaGreatDoorP0
import Derived.Test.YtlggjfhoecaelaaGreatDoorP3
import Derived.Test.YtlggjfhoecaelaaGreatDoorP4
import Derived.Test.YtlggjfhoecaelaaGreatDoorP5
import Derived.Test.YtlggjfhoecaelaaGreatDoorP8
namespace Go.Proofs.YtlggjfhoecaelaaGreatDoor.P
open Go.RowKit Go.Proofs.YtlggjfhoecaelaaGreatDoorW.PrintWords Go.Proofs.YtlggjfhoecaelaaGreatDoorW.PrintLast Go.Proofs.YtlggjfhoecaelaaGreatDoorW.PrintMore
attribute [local go_sem] max2_int min2_int max_two min_two max_three min_three max_four min_four   -- for this text's walks alone
set_option linter.unusedVariables false
set_option linter.unusedSimpArgs false

/-! ### impl_NearestKnot: function 19 -/
def impl_NearestKnot.l0 : Nat → Int → Int → Int → List Int → Int → Int → Option (Int × Int)
  | 0, _, _, _, _, _, _ => none
  | k + 1, x1, x6, x7, AB, AC, AA => if AA < AC then (if 0 ≤ AA then (if AA < (AB.length : Int) then (if (mx (wrap64 (x1 - (wrap64 (rd AB AA)))) (wrap64 ((wrap64 (rd AB AA)) - x1))) < x7 then (impl_NearestKnot.l0 k x1 AA (mx (wrap64 (x1 - (wrap64 (rd AB AA)))) (wrap64 ((wrap64 (rd AB AA)) - x1))) AB AC (wrap64 (AA + 1))) else (impl_NearestKnot.l0 k x1 x6 x7 AB AC (wrap64 (AA + 1)))) else (none)) else (none)) else (some (x6, 0))
def impl_NearestKnot.f (k : Nat) (AB : Int) (AA : List Int) (a1 : Int) : Option (Int × Int) := (impl_ValidRope.f k AB AA).bind fun AD => (if AD = true then ((impl_within.f a1 0 (wrap64 (AB))).bind fun AC => (if AC = true then (impl_NearestKnot.l0 k a1 0 a1 AA (AA.length : Int) 0) else (some (0, 2)))) else (some (0, 1)))
set_option maxHeartbeats 8000000 in
set_option maxRecDepth 100000 in
theorem impl_NearestKnot.calls (k : Nat) (AF : Int) (AG : Option Addr) (AH : Nat) (AB : List Int) (a1 : Int) (r1 : Int) (r2 : Int) (w : World) (AV : Kd.C (Kd.int .i16) w AG AB.length AB) (AW : AB.length ≤ AH) (h : impl_NearestKnot.f k AF AB a1 = some (r1, r2)) :
    Calls Tryz.prog 19 #[.agg #[.int .i16 AF, .slice AG AB.length AH], .int .i64 a1] w fun e w' => e = .returned (.tuple #[.int .i64 r1, .int .i64 r2]) ∧ Below w.heap.size w w' := by
 have A8 := Tryz.underlying27
 have AI := ak AV
 have AN := ak AW
 clear AV AW
 have HB := ak (Below.refl w.heap.size w)
 have H := h
 unfold impl_NearestKnot.f at H
 clear h
 replace H := Option.bind_eq_some_iff.mp H
 obtain ⟨Az, A2, H⟩ := H
 have A3 := ak A2
 clear A2
 by_cases c4 : Az = true
 {
 subst c4
 rw [if_pos rfl] at H
 replace H := Option.bind_eq_some_iff.mp H
 obtain ⟨Ax, A4, H⟩ := H
 have A5 := ak A4
 clear A4
 by_cases c6 : Ax = true
 {
 subst c6
 rw [if_pos rfl] at H
 have H' := ak H
 clear H
 go_enter Tryz.func19, Tryz.ntmps19
 go_wp2_with (first | ((with_reducible refine gate_dst (N := 2) rfl ?_); refine box_event ?hg (N := 2) ?hd (cs := #[.int .i16 AF, .slice AG AB.length AH]) (t := 27) ?hr ?_; (case hd => rfl); (case hg => rfl); (case hr => first | (go_simp; done) | (go_simp; rfl)); intro AP hg w7 hbox hb; have AC := ak (hbox); have AX := gS HB hg; have AE := gS HB hg; replace HB := kB HB hb; clear hb hbox hg; obtain ⟨Aa, AZ, Ab, AY⟩ := cz2 w7 AC) | ((with_reducible refine gate_callee (f := 13) rfl ?_); refine goesL_ (some 13) rfl rfl Tryz.func13 (by kernel_rfl) rfl #[.agg #[.int .i16 AF, .slice AG AB.length AH]] rfl gl_ ?_; (with_reducible refine (impl_ValidRope.calls k AF _ _ AB true _ ?side1 ?side2 A3.out).mono ?_); (case side1 => exact sQ (Kd.C_below AI.out HB.out)); (case side2 => exact AN.out); rintro e w9 ⟨rfl, hb⟩; refine ⟨_, rfl, ?_⟩; replace AC := kK AC hb; replace HB := kB1 HB AE hb; (try clear hb); obtain ⟨AQ, AT, AS, AR⟩ := cz2 w9 AC) | ((with_reducible refine gate_callee (f := 41) rfl ?_); refine goesL_ (some 20) rfl rfl Tryz.func41 (by kernel_rfl) rfl #[.int .i64 a1, .int .i64 0, .int .i64 (wrap64 (AF))] rfl gl_ ?_; (with_reducible refine (impl_within.calls a1 0 (wrap64 (AF)) true _ A5.out).mono ?_); rintro e w' ⟨rfl, ⟨nd, rfl⟩⟩; refine ⟨_, rfl, ?_⟩))
 go_loopg [6, 7, 26] k (fun kq v6 v7 BA w' => ∃ (AU : Int) (AK : Int) (AA : Int), v6 = .int .i64 AU ∧ v7 = .int .i64 AK ∧ BA = .int .i64 AA ∧ Aside0 (impl_NearestKnot.l0 kq a1 AU AK AB (AB.length : Int) AA = some (r1, r2)) ∧ Aside0 (kq ≤ k) ∧ Aside0 (w'.heap[AP]? = some (.cells #[.int .i16 AF, (.slice AG AB.length AH)] 27 (0, 0))) ∧ Aside0 (Below w.heap.size w w'))
 case atStart => exact ⟨(0), (a1), (0), rfl, rfl, rfl, H', ⟨Nat.le_refl _⟩, ⟨(zK AC.out)⟩, ⟨zBG HB.out AE.out⟩⟩
 case round => (
 clear H'
 obtain ⟨AU, AK, AA, rfl, rfl, rfl, HA, Aw, AC, HB⟩ := hrel
 cases gk with
 | zero => exact absurd HA.out (by simp [impl_NearestKnot.l0])
 | succ k1 => (
 have H := HA.out
 clear HA
 simp only [impl_NearestKnot.l0] at H
 by_cases Ad : AA < (AB.length : Int)
 {
 rw [if_pos Ad] at H
 have Ag : decide (AA < (AB.length : Int)) = true := decide_eq_true Ad
 clear Ad
 by_cases Au : 0 ≤ AA
 {
 rw [if_pos Au] at H
 have A0 : decide (0 ≤ AA) = true := decide_eq_true Au
 clear Au
 by_cases Ar : AA < (AB.length : Int)
 {
 rw [if_pos Ar] at H
 have A1 : decide (AA < (AB.length : Int)) = true := decide_eq_true Ar
 clear Ar
 obtain ⟨AO, AM⟩ : ∃ j_ : Int, (mx (wrap64 (a1 - (wrap64 (rd AB AA)))) (wrap64 ((wrap64 (rd AB AA)) - a1))) = j_ := ⟨_, rfl⟩
 first | rw [AM] at H | simp only [AM] at H
 have Ay : (if (wrap64 (a1 - (wrap64 (rd AB AA)))) < (wrap64 ((wrap64 (rd AB AA)) - a1)) then (wrap64 ((wrap64 (rd AB AA)) - a1)) else (wrap64 (a1 - (wrap64 (rd AB AA))))) = AO := AM
 by_cases Ae : (AO) < AK
 {
 rw [if_pos Ae] at H
 have Ah : decide ((AO) < AK) = true := decide_eq_true Ae
 clear Ae
 have H' := ak H
 clear H
 have AL : 0 ≤ (AA : Int) := of_decide_eq_true (by assumption)
 have AJ : AA < (AB.length : Int) := of_decide_eq_true (by assumption)
 obtain ⟨Af, Ac, AD⟩ := Kd.at_int AI.out AA AL AJ
 cases Ac
 replace AD := (HB.out.cell (World.block_lt_of_cell? w _ AD)).trans AD
 replace AL := eq_true AL
 replace AJ := eq_true AJ
 go_wp2
 go_roundg k1
 case measure => have := Aw.out; omega
 case rel => exact ⟨(AA), (AO), (wrap64 (AA + 1)), rfl, (by first | rfl | (simp; done) | (simp only [← AM] <;> (first | rfl | simp)) | (simp [*]; done)), rfl, H', ⟨by have := Aw.out; omega⟩, ⟨(zK AC.out)⟩, ⟨zBG HB.out AE.out⟩⟩
 }
 {
 rw [if_neg Ae] at H
 have Ah : decide ((AO) < AK) = false := decide_eq_false Ae
 clear Ae
 have H' := ak H
 clear H
 have AL : 0 ≤ (AA : Int) := of_decide_eq_true (by assumption)
 have AJ : AA < (AB.length : Int) := of_decide_eq_true (by assumption)
 obtain ⟨Af, Ac, AD⟩ := Kd.at_int AI.out AA AL AJ
 cases Ac
 replace AD := (HB.out.cell (World.block_lt_of_cell? w _ AD)).trans AD
 replace AL := eq_true AL
 replace AJ := eq_true AJ
 go_wp2
 go_roundg k1
 case measure => have := Aw.out; omega
 case rel => exact ⟨(AU), (AK), (wrap64 (AA + 1)), rfl, rfl, rfl, H', ⟨by have := Aw.out; omega⟩, ⟨(zK AC.out)⟩, ⟨zBG HB.out AE.out⟩⟩
 }
 }
 · rw [if_neg Ar] at H; exact absurd H (by simp)
 }
 · rw [if_neg Au] at H; exact absurd H (by simp)
 }
 {
 rw [if_neg Ad] at H
 have Ag : decide (AA < (AB.length : Int)) = false := decide_eq_false Ad
 clear Ad
 simp only [Option.some.injEq, Prod.mk.injEq] at H
 obtain ⟨rfl, rfl⟩ := H
 go_wp2
 go_ret2
 exact ⟨rfl, zBG HB.out AE.out⟩
 }
 )
 )
 }
 {
 replace c6 := Bool.eq_false_iff.mpr c6
 subst c6
 rw [if_neg (show ¬ (false = true) by decide)] at H
 simp only [Option.some.injEq, Prod.mk.injEq] at H
 obtain ⟨rfl, rfl⟩ := H
 go_enter Tryz.func19, Tryz.ntmps19
 go_wp2_with (first | ((with_reducible refine gate_dst (N := 2) rfl ?_); refine box_event ?hg (N := 2) ?hd (cs := #[.int .i16 AF, .slice AG AB.length AH]) (t := 27) ?hr ?_; (case hd => rfl); (case hg => rfl); (case hr => first | (go_simp; done) | (go_simp; rfl)); intro AP hg A9 hbox hb; have AC := ak (hbox); have AX := gS HB hg; have AE := gS HB hg; replace HB := kB HB hb; clear hb hbox hg; obtain ⟨An, Aj, Ai, Ao⟩ := cz2 A9 AC) | ((with_reducible refine gate_callee (f := 13) rfl ?_); refine goesL_ (some 13) rfl rfl Tryz.func13 (by kernel_rfl) rfl #[.agg #[.int .i16 AF, .slice AG AB.length AH]] rfl gl_ ?_; (with_reducible refine (impl_ValidRope.calls k AF _ _ AB true _ ?side1 ?side2 A3.out).mono ?_); (case side1 => exact sQ (Kd.C_below AI.out HB.out)); (case side2 => exact AN.out); rintro e A7 ⟨rfl, hb⟩; refine ⟨_, rfl, ?_⟩; replace AC := kK AC hb; replace HB := kB1 HB AE hb; (try clear hb); obtain ⟨Ap, Am, Av, As⟩ := cz2 A7 AC) | ((with_reducible refine gate_callee (f := 41) rfl ?_); refine goesL_ (some 20) rfl rfl Tryz.func41 (by kernel_rfl) rfl #[.int .i64 a1, .int .i64 0, .int .i64 (wrap64 (AF))] rfl gl_ ?_; (with_reducible refine (impl_within.calls a1 0 (wrap64 (AF)) false _ A5.out).mono ?_); rintro e w' ⟨rfl, ⟨nd, rfl⟩⟩; refine ⟨_, rfl, ?_⟩))
 go_ret2
 exact ⟨rfl, zBG HB.out AE.out⟩
 }
 }
 {
 replace c4 := Bool.eq_false_iff.mpr c4
 subst c4
 rw [if_neg (show ¬ (false = true) by decide)] at H
 simp only [Option.some.injEq, Prod.mk.injEq] at H
 obtain ⟨rfl, rfl⟩ := H
 go_enter Tryz.func19, Tryz.ntmps19
 go_wp2_with (first | ((with_reducible refine gate_dst (N := 2) rfl ?_); refine box_event ?hg (N := 2) ?hd (cs := #[.int .i16 AF, .slice AG AB.length AH]) (t := 27) ?hr ?_; (case hd => rfl); (case hg => rfl); (case hr => first | (go_simp; done) | (go_simp; rfl)); intro AP hg A6 hbox hb; have AC := ak (hbox); have AX := gS HB hg; have AE := gS HB hg; replace HB := kB HB hb; clear hb hbox hg; obtain ⟨Aq, Al, Ak, At⟩ := cz2 A6 AC) | ((with_reducible refine gate_callee (f := 13) rfl ?_); refine goesL_ (some 13) rfl rfl Tryz.func13 (by kernel_rfl) rfl #[.agg #[.int .i16 AF, .slice AG AB.length AH]] rfl gl_ ?_; (with_reducible refine (impl_ValidRope.calls k AF _ _ AB false _ ?side1 ?side2 A3.out).mono ?_); (case side1 => exact sQ (Kd.C_below AI.out HB.out)); (case side2 => exact AN.out); rintro e BB ⟨rfl, hb⟩; refine ⟨_, rfl, ?_⟩; replace AC := kK AC hb; replace HB := kB1 HB AE hb; (try clear hb)))
 go_ret2
 exact ⟨rfl, zBG HB.out AE.out⟩
 }
/-! ### spec_l00Max: function 70 -/
def spec_l00Max.f (a0 : Int) (a1 : Int) : Option (Int) := if a0 > a1 then (some a0) else (some a1)
set_option maxHeartbeats 8000000 in
set_option maxRecDepth 100000 in
theorem spec_l00Max.calls (a0 : Int) (a1 : Int) (r : Int) (w : World) (h : spec_l00Max.f a0 a1 = some r) :
    Calls Tryz.prog 70 #[.int .i64 a0, .int .i64 a1] w fun e w' => e = .returned (.int .i64 r) ∧ Drawn0 w w' := by
 have H := h
 unfold spec_l00Max.f at H
 clear h
 by_cases c3 : a0 > a1
 {
 rw [if_pos c3] at H
 have AA : decide (a1 < a0) = true := decide_eq_true c3
 clear c3
 obtain rfl := Option.some.inj H
 go_enter Tryz.func70, Tryz.ntmps70
 go_wp2
 go_ret
 exact ⟨by first | rfl | (simp; done) | (simp [*]; done), by repeat (first | exact Drawn0.refl _ | apply Drawn0.step)⟩
 }
 {
 rw [if_neg c3] at H
 have AA : decide (a1 < a0) = false := decide_eq_false c3
 clear c3
 obtain rfl := Option.some.inj H
 go_enter Tryz.func70, Tryz.ntmps70
 go_wp2
 go_ret
 exact ⟨by first | rfl | (simp; done) | (simp [*]; done), by repeat (first | exact Drawn0.refl _ | apply Drawn0.step)⟩
 }
/-! ### spec_l03Size: function 50 -/
def spec_l03Size.f (a0 : Int) : Option (Int) := (spec_l00Max.f a0 (wrap64 (-a0))).bind fun AA => (some AA)
set_option maxHeartbeats 8000000 in
set_option maxRecDepth 100000 in
theorem spec_l03Size.calls (a0 : Int) (r : Int) (w : World) (h : spec_l03Size.f a0 = some r) :
    Calls Tryz.prog 50 #[.int .i64 a0] w fun e w' => e = .returned (.int .i64 r) ∧ Drawn0 w w' := by
 have H := h
 unfold spec_l03Size.f at H
 clear h
 replace H := Option.bind_eq_some_iff.mp H
 obtain ⟨AA, AB, H⟩ := H
 have A2 := ak AB
 clear AB
 obtain rfl := Option.some.inj H
 go_enter Tryz.func50, Tryz.ntmps50
 go_wp2_with (first | ((with_reducible refine gate_callee (f := 70) rfl ?_); refine goesL_ (some 6) rfl rfl Tryz.func70 (by kernel_rfl) rfl #[.int .i64 a0, .int .i64 (wrap64 (-a0))] rfl gl_ ?_; (with_reducible refine (spec_l00Max.calls a0 (wrap64 (-a0)) AA _ A2.out).mono ?_); rintro e w' ⟨rfl, ⟨nd, rfl⟩⟩; refine ⟨_, rfl, ?_⟩))
 go_ret
 exact ⟨by first | rfl | (simp; done) | (simp [*]; done), by repeat (first | exact Drawn0.refl _ | apply Drawn0.step)⟩
/-! ### spec_NearestKnot: function 20 -/
def spec_NearestKnot.l0 : Nat → Int → Int → Int → Int → List Int → Option (Int × Int)
  | 0, _, _, _, _, _ => none
  | k + 1, x1, x6, x7, AB, AA => if x7 < (AA.length : Int) then (if 0 ≤ x7 then ((spec_l03Size.f (wrap64 ((wrap64 (rd AA x7)) - x1))).bind fun AD => (if 0 ≤ x6 then (if x6 < (AA.length : Int) then ((spec_l03Size.f (wrap64 ((wrap64 (rd AA x6)) - x1))).bind fun AC => (if AD < AC then (spec_NearestKnot.l0 k x1 x7 (wrap64 (x7 + 1)) AB AA) else (spec_NearestKnot.l0 k x1 x6 (wrap64 (x7 + 1)) AB AA))) else (none)) else (none))) else (none)) else (some (x6, 0))
def spec_NearestKnot.f (k : Nat) (AA : Int) (AB : List Int) (a1 : Int) : Option (Int × Int) := (spec_l03Ok.f k AA AB).bind fun AD => (if AD = true then ((spec_l00In.f a1 0 (wrap64 (AA))).bind fun AC => (if AC = true then (spec_NearestKnot.l0 k a1 0 1 AA AB) else (some (0, 2)))) else (some (0, 1)))
set_option maxHeartbeats 8000000 in
set_option maxRecDepth 100000 in
theorem spec_NearestKnot.calls (k : Nat) (AG : Int) (AK : Option Addr) (AL : Nat) (AC : List Int) (a1 : Int) (r1 : Int) (r2 : Int) (w : World) (Af : Kd.C (Kd.int .i16) w AK AC.length AC) (Ag : AC.length ≤ AL) (h : spec_NearestKnot.f k AG AC a1 = some (r1, r2)) :
    Calls Tryz.prog 20 #[.agg #[.int .i16 AG, .slice AK AC.length AL], .int .i64 a1] w fun e w' => e = .returned (.tuple #[.int .i64 r1, .int .i64 r2]) ∧ Below w.heap.size w w' := by
 have BL := Tryz.underlying27
 have AJ := ak Af
 have AR := ak Ag
 clear Af Ag
 have HB := ak (Below.refl w.heap.size w)
 have H := h
 unfold spec_NearestKnot.f at H
 clear h
 replace H := Option.bind_eq_some_iff.mp H
 obtain ⟨BA, BH, H⟩ := H
 have A3 := ak BH
 clear BH
 by_cases c4 : BA = true
 {
 subst c4
 rw [if_pos rfl] at H
 replace H := Option.bind_eq_some_iff.mp H
 obtain ⟨A9, BI, H⟩ := H
 have A5 := ak BI
 clear BI
 by_cases c6 : A9 = true
 {
 subst c6
 rw [if_pos rfl] at H
 have H' := ak H
 clear H
 go_enter Tryz.func20, Tryz.ntmps20
 go_wp2_with (first | ((with_reducible refine gate_dst (N := 2) rfl ?_); refine box_event ?hg (N := 2) ?hd (cs := #[.int .i16 AG, .slice AK AC.length AL]) (t := 27) ?hr ?_; (case hd => rfl); (case hg => rfl); (case hr => first | (go_simp; done) | (go_simp; rfl)); intro AD hg w7 hbox hb; have AA := ak (hbox); have AS := gS HB hg; have AF := gS HB hg; replace HB := kB HB hb; clear hb hbox hg) | (go_at_call 39; (with_reducible refine (spec_l03Ok.calls k AD AG AK AL AC true _ ?side1 ?side2 ?side3 A3.out).mono ?_); (case side1 => exact sQ (Kd.C_below AJ.out HB.out)); (case side2 => exact AR.out); (case side3 => exact (zK AA.out)); rintro e w8 ⟨rfl, hb⟩; replace AA := kK AA hb; replace HB := kB1 HB AF hb; (try clear hb); obtain ⟨AW, AY, AX, AZ⟩ := cz2 w8 AA) | (go_at_call 48; (with_reducible refine (spec_l00In.calls a1 0 (wrap64 (AG)) true _ A5.out).mono ?_); rintro e w' ⟨rfl, ⟨nd, rfl⟩⟩))
 repeat (go_quiet (first | ((with_reducible refine gate_dst (N := 2) rfl ?_); refine box_event ?hg (N := 2) ?hd (cs := #[.int .i16 AG, .slice AK AC.length AL]) (t := 27) ?hr ?_; (case hd => rfl); (case hg => rfl); (case hr => first | (go_simp; done) | (go_simp; rfl)); intro AD hg w7 hbox hb; have AA := ak (hbox); have AS := gS HB hg; have AF := gS HB hg; replace HB := kB HB hb; clear hb hbox hg) | (go_at_call 39; (with_reducible refine (spec_l03Ok.calls k AD AG AK AL AC true _ ?side1 ?side2 ?side3 A3.out).mono ?_); (case side1 => exact sQ (Kd.C_below AJ.out HB.out)); (case side2 => exact AR.out); (case side3 => exact (zK AA.out)); rintro e w8 ⟨rfl, hb⟩; replace AA := kK AA hb; replace HB := kB1 HB AF hb; (try clear hb); obtain ⟨AW, AY, AX, AZ⟩ := cz2 w8 AA) | (go_at_call 48; (with_reducible refine (spec_l00In.calls a1 0 (wrap64 (AG)) true _ A5.out).mono ?_); rintro e w' ⟨rfl, ⟨nd, rfl⟩⟩; (try first | exact ⟨rfl, _, World.drewN_drewN _ _ _⟩ | exact ⟨rfl, _, Eq.trans (World.drewN_drewN _ _ _) (congrArg (World.drewN _) (Nat.add_assoc _ _ _))⟩))); try go_wp2_with (first | ((with_reducible refine gate_dst (N := 2) rfl ?_); refine box_event ?hg (N := 2) ?hd (cs := #[.int .i16 AG, .slice AK AC.length AL]) (t := 27) ?hr ?_; (case hd => rfl); (case hg => rfl); (case hr => first | (go_simp; done) | (go_simp; rfl)); intro AD hg w7 hbox hb; have AA := ak (hbox); have AS := gS HB hg; have AF := gS HB hg; replace HB := kB HB hb; clear hb hbox hg) | (go_at_call 39; (with_reducible refine (spec_l03Ok.calls k AD AG AK AL AC true _ ?side1 ?side2 ?side3 A3.out).mono ?_); (case side1 => exact sQ (Kd.C_below AJ.out HB.out)); (case side2 => exact AR.out); (case side3 => exact (zK AA.out)); rintro e w8 ⟨rfl, hb⟩; replace AA := kK AA hb; replace HB := kB1 HB AF hb; (try clear hb); obtain ⟨AW, AY, AX, AZ⟩ := cz2 w8 AA) | (go_at_call 48; (with_reducible refine (spec_l00In.calls a1 0 (wrap64 (AG)) true _ A5.out).mono ?_); rintro e w' ⟨rfl, ⟨nd, rfl⟩⟩; (try first | exact ⟨rfl, _, World.drewN_drewN _ _ _⟩ | exact ⟨rfl, _, Eq.trans (World.drewN_drewN _ _ _) (congrArg (World.drewN _) (Nat.add_assoc _ _ _))⟩))))
 go_loopg [6, 7] k (fun kq v6 v7 w' => ∃ (AE : Int) (AN : Int), v6 = .int .i64 AE ∧ v7 = .int .i64 AN ∧ Aside0 (spec_NearestKnot.l0 kq a1 AE AN AG AC = some (r1, r2)) ∧ Aside0 (kq ≤ k) ∧ Aside0 (w'.heap[AD]? = some (.cells #[.int .i16 AG, (.slice AK AC.length AL)] 27 (0, 0))) ∧ Aside0 (Below w.heap.size w w'))
 case atStart => exact ⟨(0), (1), rfl, rfl, H', ⟨Nat.le_refl _⟩, ⟨(zK AA.out)⟩, ⟨zBG HB.out AF.out⟩⟩
 case round => (
 clear H'
 obtain ⟨AE, AN, rfl, rfl, HA, A8, AA, HB⟩ := hrel
 cases gk with
 | zero => exact absurd HA.out (by simp [spec_NearestKnot.l0])
 | succ k1 => (
 have H := HA.out
 clear HA
 simp only [spec_NearestKnot.l0] at H
 by_cases Al : AN < (AC.length : Int)
 {
 rw [if_pos Al] at H
 have Aq : decide (AN < (AC.length : Int)) = true := decide_eq_true Al
 clear Al
 by_cases A4 : 0 ≤ AN
 {
 rw [if_pos A4] at H
 have BE : decide (0 ≤ AN) = true := decide_eq_true A4
 clear A4
 replace H := Option.bind_eq_some_iff.mp H
 obtain ⟨AU, Ap, H⟩ := H
 have Ai := ak Ap
 clear Ap
 by_cases Az : 0 ≤ AE
 {
 rw [if_pos Az] at H
 have BD : decide (0 ≤ AE) = true := decide_eq_true Az
 clear Az
 by_cases A6 : AE < (AC.length : Int)
 {
 rw [if_pos A6] at H
 have BJ : decide (AE < (AC.length : Int)) = true := decide_eq_true A6
 clear A6
 replace H := Option.bind_eq_some_iff.mp H
 obtain ⟨AT, Ao, H⟩ := H
 have Aj := ak Ao
 clear Ao
 by_cases Ak : AU < AT
 {
 rw [if_pos Ak] at H
 have An : decide (AU < AT) = true := decide_eq_true Ak
 clear Ak
 have H' := ak H
 clear H
 have Av : wr.cell? ⟨AD, 0, none⟩ = some (.int .i16 AG) := (blk_cell AA.out 0).trans rfl
 have At : wr.cell? ⟨AD, 1, none⟩ = some (.slice AK AC.length AL) := (blk_cell AA.out 1).trans rfl
 have Ar := blk_frozen AA.out 0
 have Aw := blk_frozen AA.out 1
 have AV : 0 ≤ (AN : Int) := of_decide_eq_true (by assumption)
 have Aa : AN < (AC.length : Int) := of_decide_eq_true (by assumption)
 obtain ⟨AQ, Ah, AO⟩ := Kd.at_int AJ.out AN AV Aa
 cases Ah
 replace AO := (HB.out.cell (World.block_lt_of_cell? w _ AO)).trans AO
 replace AV := eq_true AV
 replace Aa := eq_true Aa
 go_wp2_with (first | (go_at_call 50; (with_reducible refine (spec_l03Size.calls (wrap64 ((wrap64 (rd AC AN)) - a1)) AU _ Ai.out).mono ?_); rintro e w' ⟨rfl, ⟨nd, rfl⟩⟩; have AI : 0 ≤ (AE : Int) := of_decide_eq_true (by assumption); have AH : AE < (AC.length : Int) := of_decide_eq_true (by assumption); obtain ⟨AM, AP, AB⟩ := Kd.at_int AJ.out AE AI AH; obtain rfl : AQ = AM := (by injection AP); replace AB := (HB.out.cell (World.block_lt_of_cell? w _ AB)).trans AB; replace AI := eq_true AI; replace AH := eq_true AH) | (go_at_call 50; (with_reducible refine (spec_l03Size.calls (wrap64 ((wrap64 (rd AC AE)) - a1)) AT _ Aj.out).mono ?_); rintro e w' ⟨rfl, ⟨nd, rfl⟩⟩))
 try (have AI : 0 ≤ (AE : Int) := of_decide_eq_true (by assumption); have AH : AE < (AC.length : Int) := of_decide_eq_true (by assumption); obtain ⟨AM, AP, AB⟩ := Kd.at_int AJ.out AE AI AH; obtain rfl : AQ = AM := (by injection AP); replace AB := (HB.out.cell (World.block_lt_of_cell? w _ AB)).trans AB; replace AI := eq_true AI; replace AH := eq_true AH)
 repeat (go_quiet (first | (go_at_call 50; (with_reducible refine (spec_l03Size.calls (wrap64 ((wrap64 (rd AC AN)) - a1)) AU _ Ai.out).mono ?_); rintro e w' ⟨rfl, ⟨nd, rfl⟩⟩; (try first | exact ⟨rfl, _, World.drewN_drewN _ _ _⟩ | exact ⟨rfl, _, Eq.trans (World.drewN_drewN _ _ _) (congrArg (World.drewN _) (Nat.add_assoc _ _ _))⟩); try (have AI : 0 ≤ (AE : Int) := of_decide_eq_true (by assumption); have AH : AE < (AC.length : Int) := of_decide_eq_true (by assumption); obtain ⟨AM, AP, AB⟩ := Kd.at_int AJ.out AE AI AH; obtain rfl : AQ = AM := (by injection AP); replace AB := (HB.out.cell (World.block_lt_of_cell? w _ AB)).trans AB; replace AI := eq_true AI; replace AH := eq_true AH)) | (go_at_call 50; (with_reducible refine (spec_l03Size.calls (wrap64 ((wrap64 (rd AC AE)) - a1)) AT _ Aj.out).mono ?_); rintro e w' ⟨rfl, ⟨nd, rfl⟩⟩; (try first | exact ⟨rfl, _, World.drewN_drewN _ _ _⟩ | exact ⟨rfl, _, Eq.trans (World.drewN_drewN _ _ _) (congrArg (World.drewN _) (Nat.add_assoc _ _ _))⟩))); try go_wp2_with (first | (go_at_call 50; (with_reducible refine (spec_l03Size.calls (wrap64 ((wrap64 (rd AC AN)) - a1)) AU _ Ai.out).mono ?_); rintro e w' ⟨rfl, ⟨nd, rfl⟩⟩; (try first | exact ⟨rfl, _, World.drewN_drewN _ _ _⟩ | exact ⟨rfl, _, Eq.trans (World.drewN_drewN _ _ _) (congrArg (World.drewN _) (Nat.add_assoc _ _ _))⟩); try (have AI : 0 ≤ (AE : Int) := of_decide_eq_true (by assumption); have AH : AE < (AC.length : Int) := of_decide_eq_true (by assumption); obtain ⟨AM, AP, AB⟩ := Kd.at_int AJ.out AE AI AH; obtain rfl : AQ = AM := (by injection AP); replace AB := (HB.out.cell (World.block_lt_of_cell? w _ AB)).trans AB; replace AI := eq_true AI; replace AH := eq_true AH)) | (go_at_call 50; (with_reducible refine (spec_l03Size.calls (wrap64 ((wrap64 (rd AC AE)) - a1)) AT _ Aj.out).mono ?_); rintro e w' ⟨rfl, ⟨nd, rfl⟩⟩; (try first | exact ⟨rfl, _, World.drewN_drewN _ _ _⟩ | exact ⟨rfl, _, Eq.trans (World.drewN_drewN _ _ _) (congrArg (World.drewN _) (Nat.add_assoc _ _ _))⟩))))
 go_roundg k1
 case measure => have := A8.out; omega
 case rel => exact ⟨(AN), (wrap64 (AN + 1)), rfl, rfl, H', ⟨by have := A8.out; omega⟩, ⟨(zK AA.out)⟩, ⟨zBG HB.out AF.out⟩⟩
 }
 {
 rw [if_neg Ak] at H
 have An : decide (AU < AT) = false := decide_eq_false Ak
 clear Ak
 have H' := ak H
 clear H
 have Ay : wr.cell? ⟨AD, 0, none⟩ = some (.int .i16 AG) := (blk_cell AA.out 0).trans rfl
 have As : wr.cell? ⟨AD, 1, none⟩ = some (.slice AK AC.length AL) := (blk_cell AA.out 1).trans rfl
 have A2 := blk_frozen AA.out 0
 have A0 := blk_frozen AA.out 1
 have AV : 0 ≤ (AN : Int) := of_decide_eq_true (by assumption)
 have Aa : AN < (AC.length : Int) := of_decide_eq_true (by assumption)
 obtain ⟨AQ, Ah, AO⟩ := Kd.at_int AJ.out AN AV Aa
 cases Ah
 replace AO := (HB.out.cell (World.block_lt_of_cell? w _ AO)).trans AO
 replace AV := eq_true AV
 replace Aa := eq_true Aa
 go_wp2_with (first | (go_at_call 50; (with_reducible refine (spec_l03Size.calls (wrap64 ((wrap64 (rd AC AN)) - a1)) AU _ Ai.out).mono ?_); rintro e w' ⟨rfl, ⟨nd, rfl⟩⟩; have AI : 0 ≤ (AE : Int) := of_decide_eq_true (by assumption); have AH : AE < (AC.length : Int) := of_decide_eq_true (by assumption); obtain ⟨AM, AP, AB⟩ := Kd.at_int AJ.out AE AI AH; obtain rfl : AQ = AM := (by injection AP); replace AB := (HB.out.cell (World.block_lt_of_cell? w _ AB)).trans AB; replace AI := eq_true AI; replace AH := eq_true AH) | (go_at_call 50; (with_reducible refine (spec_l03Size.calls (wrap64 ((wrap64 (rd AC AE)) - a1)) AT _ Aj.out).mono ?_); rintro e w' ⟨rfl, ⟨nd, rfl⟩⟩))
 try (have AI : 0 ≤ (AE : Int) := of_decide_eq_true (by assumption); have AH : AE < (AC.length : Int) := of_decide_eq_true (by assumption); obtain ⟨AM, AP, AB⟩ := Kd.at_int AJ.out AE AI AH; obtain rfl : AQ = AM := (by injection AP); replace AB := (HB.out.cell (World.block_lt_of_cell? w _ AB)).trans AB; replace AI := eq_true AI; replace AH := eq_true AH)
 repeat (go_quiet (first | (go_at_call 50; (with_reducible refine (spec_l03Size.calls (wrap64 ((wrap64 (rd AC AN)) - a1)) AU _ Ai.out).mono ?_); rintro e w' ⟨rfl, ⟨nd, rfl⟩⟩; (try first | exact ⟨rfl, _, World.drewN_drewN _ _ _⟩ | exact ⟨rfl, _, Eq.trans (World.drewN_drewN _ _ _) (congrArg (World.drewN _) (Nat.add_assoc _ _ _))⟩); try (have AI : 0 ≤ (AE : Int) := of_decide_eq_true (by assumption); have AH : AE < (AC.length : Int) := of_decide_eq_true (by assumption); obtain ⟨AM, AP, AB⟩ := Kd.at_int AJ.out AE AI AH; obtain rfl : AQ = AM := (by injection AP); replace AB := (HB.out.cell (World.block_lt_of_cell? w _ AB)).trans AB; replace AI := eq_true AI; replace AH := eq_true AH)) | (go_at_call 50; (with_reducible refine (spec_l03Size.calls (wrap64 ((wrap64 (rd AC AE)) - a1)) AT _ Aj.out).mono ?_); rintro e w' ⟨rfl, ⟨nd, rfl⟩⟩; (try first | exact ⟨rfl, _, World.drewN_drewN _ _ _⟩ | exact ⟨rfl, _, Eq.trans (World.drewN_drewN _ _ _) (congrArg (World.drewN _) (Nat.add_assoc _ _ _))⟩))); try go_wp2_with (first | (go_at_call 50; (with_reducible refine (spec_l03Size.calls (wrap64 ((wrap64 (rd AC AN)) - a1)) AU _ Ai.out).mono ?_); rintro e w' ⟨rfl, ⟨nd, rfl⟩⟩; (try first | exact ⟨rfl, _, World.drewN_drewN _ _ _⟩ | exact ⟨rfl, _, Eq.trans (World.drewN_drewN _ _ _) (congrArg (World.drewN _) (Nat.add_assoc _ _ _))⟩); try (have AI : 0 ≤ (AE : Int) := of_decide_eq_true (by assumption); have AH : AE < (AC.length : Int) := of_decide_eq_true (by assumption); obtain ⟨AM, AP, AB⟩ := Kd.at_int AJ.out AE AI AH; obtain rfl : AQ = AM := (by injection AP); replace AB := (HB.out.cell (World.block_lt_of_cell? w _ AB)).trans AB; replace AI := eq_true AI; replace AH := eq_true AH)) | (go_at_call 50; (with_reducible refine (spec_l03Size.calls (wrap64 ((wrap64 (rd AC AE)) - a1)) AT _ Aj.out).mono ?_); rintro e w' ⟨rfl, ⟨nd, rfl⟩⟩; (try first | exact ⟨rfl, _, World.drewN_drewN _ _ _⟩ | exact ⟨rfl, _, Eq.trans (World.drewN_drewN _ _ _) (congrArg (World.drewN _) (Nat.add_assoc _ _ _))⟩))))
 go_roundg k1
 case measure => have := A8.out; omega
 case rel => exact ⟨(AE), (wrap64 (AN + 1)), rfl, rfl, H', ⟨by have := A8.out; omega⟩, ⟨(zK AA.out)⟩, ⟨zBG HB.out AF.out⟩⟩
 }
 }
 · rw [if_neg A6] at H; exact absurd H (by simp)
 }
 · rw [if_neg Az] at H; exact absurd H (by simp)
 }
 · rw [if_neg A4] at H; exact absurd H (by simp)
 }
 {
 rw [if_neg Al] at H
 have Aq : decide (AN < (AC.length : Int)) = false := decide_eq_false Al
 clear Al
 simp only [Option.some.injEq, Prod.mk.injEq] at H
 obtain ⟨rfl, rfl⟩ := H
 have Ax : wr.cell? ⟨AD, 0, none⟩ = some (.int .i16 AG) := (blk_cell AA.out 0).trans rfl
 have Au : wr.cell? ⟨AD, 1, none⟩ = some (.slice AK AC.length AL) := (blk_cell AA.out 1).trans rfl
 have A7 := blk_frozen AA.out 0
 have A1 := blk_frozen AA.out 1
 go_wp2
 repeat (go_quiet (fail); try go_wp2)
 go_ret2
 exact ⟨rfl, zBG HB.out AF.out⟩
 }
 )
 )
 }
 {
 replace c6 := Bool.eq_false_iff.mpr c6
 subst c6
 rw [if_neg (show ¬ (false = true) by decide)] at H
 simp only [Option.some.injEq, Prod.mk.injEq] at H
 obtain ⟨rfl, rfl⟩ := H
 go_enter Tryz.func20, Tryz.ntmps20
 go_wp2_with (first | ((with_reducible refine gate_dst (N := 2) rfl ?_); refine box_event ?hg (N := 2) ?hd (cs := #[.int .i16 AG, .slice AK AC.length AL]) (t := 27) ?hr ?_; (case hd => rfl); (case hg => rfl); (case hr => first | (go_simp; done) | (go_simp; rfl)); intro AD hg BC hbox hb; have AA := ak (hbox); have AS := gS HB hg; have AF := gS HB hg; replace HB := kB HB hb; clear hb hbox hg) | (go_at_call 39; (with_reducible refine (spec_l03Ok.calls k AD AG AK AL AC true _ ?side1 ?side2 ?side3 A3.out).mono ?_); (case side1 => exact sQ (Kd.C_below AJ.out HB.out)); (case side2 => exact AR.out); (case side3 => exact (zK AA.out)); rintro e Am ⟨rfl, hb⟩; replace AA := kK AA hb; replace HB := kB1 HB AF hb; (try clear hb); obtain ⟨Ab, Ac, Ae, Ad⟩ := cz2 Am AA) | (go_at_call 48; (with_reducible refine (spec_l00In.calls a1 0 (wrap64 (AG)) false _ A5.out).mono ?_); rintro e w' ⟨rfl, ⟨nd, rfl⟩⟩))
 repeat (go_quiet (first | ((with_reducible refine gate_dst (N := 2) rfl ?_); refine box_event ?hg (N := 2) ?hd (cs := #[.int .i16 AG, .slice AK AC.length AL]) (t := 27) ?hr ?_; (case hd => rfl); (case hg => rfl); (case hr => first | (go_simp; done) | (go_simp; rfl)); intro AD hg BC hbox hb; have AA := ak (hbox); have AS := gS HB hg; have AF := gS HB hg; replace HB := kB HB hb; clear hb hbox hg) | (go_at_call 39; (with_reducible refine (spec_l03Ok.calls k AD AG AK AL AC true _ ?side1 ?side2 ?side3 A3.out).mono ?_); (case side1 => exact sQ (Kd.C_below AJ.out HB.out)); (case side2 => exact AR.out); (case side3 => exact (zK AA.out)); rintro e Am ⟨rfl, hb⟩; replace AA := kK AA hb; replace HB := kB1 HB AF hb; (try clear hb); obtain ⟨Ab, Ac, Ae, Ad⟩ := cz2 Am AA) | (go_at_call 48; (with_reducible refine (spec_l00In.calls a1 0 (wrap64 (AG)) false _ A5.out).mono ?_); rintro e w' ⟨rfl, ⟨nd, rfl⟩⟩; (try first | exact ⟨rfl, _, World.drewN_drewN _ _ _⟩ | exact ⟨rfl, _, Eq.trans (World.drewN_drewN _ _ _) (congrArg (World.drewN _) (Nat.add_assoc _ _ _))⟩))); try go_wp2_with (first | ((with_reducible refine gate_dst (N := 2) rfl ?_); refine box_event ?hg (N := 2) ?hd (cs := #[.int .i16 AG, .slice AK AC.length AL]) (t := 27) ?hr ?_; (case hd => rfl); (case hg => rfl); (case hr => first | (go_simp; done) | (go_simp; rfl)); intro AD hg BC hbox hb; have AA := ak (hbox); have AS := gS HB hg; have AF := gS HB hg; replace HB := kB HB hb; clear hb hbox hg) | (go_at_call 39; (with_reducible refine (spec_l03Ok.calls k AD AG AK AL AC true _ ?side1 ?side2 ?side3 A3.out).mono ?_); (case side1 => exact sQ (Kd.C_below AJ.out HB.out)); (case side2 => exact AR.out); (case side3 => exact (zK AA.out)); rintro e Am ⟨rfl, hb⟩; replace AA := kK AA hb; replace HB := kB1 HB AF hb; (try clear hb); obtain ⟨Ab, Ac, Ae, Ad⟩ := cz2 Am AA) | (go_at_call 48; (with_reducible refine (spec_l00In.calls a1 0 (wrap64 (AG)) false _ A5.out).mono ?_); rintro e w' ⟨rfl, ⟨nd, rfl⟩⟩; (try first | exact ⟨rfl, _, World.drewN_drewN _ _ _⟩ | exact ⟨rfl, _, Eq.trans (World.drewN_drewN _ _ _) (congrArg (World.drewN _) (Nat.add_assoc _ _ _))⟩))))
 go_ret2
 exact ⟨rfl, zBG HB.out AF.out⟩
 }
 }
 {
 replace c4 := Bool.eq_false_iff.mpr c4
 subst c4
 rw [if_neg (show ¬ (false = true) by decide)] at H
 simp only [Option.some.injEq, Prod.mk.injEq] at H
 obtain ⟨rfl, rfl⟩ := H
 go_enter Tryz.func20, Tryz.ntmps20
 go_wp2_with (first | ((with_reducible refine gate_dst (N := 2) rfl ?_); refine box_event ?hg (N := 2) ?hd (cs := #[.int .i16 AG, .slice AK AC.length AL]) (t := 27) ?hr ?_; (case hd => rfl); (case hg => rfl); (case hr => first | (go_simp; done) | (go_simp; rfl)); intro AD hg BG hbox hb; have AA := ak (hbox); have AS := gS HB hg; have AF := gS HB hg; replace HB := kB HB hb; clear hb hbox hg) | (go_at_call 39; (with_reducible refine (spec_l03Ok.calls k AD AG AK AL AC false _ ?side1 ?side2 ?side3 A3.out).mono ?_); (case side1 => exact sQ (Kd.C_below AJ.out HB.out)); (case side2 => exact AR.out); (case side3 => exact (zK AA.out)); rintro e BF ⟨rfl, hb⟩; replace AA := kK AA hb; replace HB := kB1 HB AF hb; (try clear hb)))
 repeat (go_quiet (first | ((with_reducible refine gate_dst (N := 2) rfl ?_); refine box_event ?hg (N := 2) ?hd (cs := #[.int .i16 AG, .slice AK AC.length AL]) (t := 27) ?hr ?_; (case hd => rfl); (case hg => rfl); (case hr => first | (go_simp; done) | (go_simp; rfl)); intro AD hg BG hbox hb; have AA := ak (hbox); have AS := gS HB hg; have AF := gS HB hg; replace HB := kB HB hb; clear hb hbox hg) | (go_at_call 39; (with_reducible refine (spec_l03Ok.calls k AD AG AK AL AC false _ ?side1 ?side2 ?side3 A3.out).mono ?_); (case side1 => exact sQ (Kd.C_below AJ.out HB.out)); (case side2 => exact AR.out); (case side3 => exact (zK AA.out)); rintro e BF ⟨rfl, hb⟩; have BB := ak (blk_below (g := AD) (o := .cells #[.int .i16 AG, .slice AK AC.length AL] 27 (0, 0)) (zK AA.out) hb); have BK := ak (below_step (zBG HB.out AF.out) hb); clear AA HB; have AA := BB; have HB := BK; clear BB BK; (try clear hb); (try clear hb2); (try clear hk); (try clear hi))); try go_wp2_with (first | ((with_reducible refine gate_dst (N := 2) rfl ?_); refine box_event ?hg (N := 2) ?hd (cs := #[.int .i16 AG, .slice AK AC.length AL]) (t := 27) ?hr ?_; (case hd => rfl); (case hg => rfl); (case hr => first | (go_simp; done) | (go_simp; rfl)); intro AD hg BG hbox hb; have AA := ak (hbox); have AS := gS HB hg; have AF := gS HB hg; replace HB := kB HB hb; clear hb hbox hg) | (go_at_call 39; (with_reducible refine (spec_l03Ok.calls k AD AG AK AL AC false _ ?side1 ?side2 ?side3 A3.out).mono ?_); (case side1 => exact sQ (Kd.C_below AJ.out HB.out)); (case side2 => exact AR.out); (case side3 => exact (zK AA.out)); rintro e BF ⟨rfl, hb⟩; replace AA := kK AA hb; replace HB := kB1 HB AF hb; (try clear hb))))
 go_ret2
 exact ⟨rfl, zBG HB.out AF.out⟩
 }
/-! ### slices_Clone_Hold: function 51 -/
def slices_Clone_Hold.f (l0 : List (S52)) : Option ((List (S52))) := (some (([] : List (S52)) : List (S52))).bind fun AA => (if AA.length + l0.length < 35184372088832 then (some (AA ++ l0)) else (none))
set_option maxHeartbeats 8000000 in
set_option maxRecDepth 100000 in
theorem slices_Clone_Hold.calls (A0 : Option Addr) (c0 : Nat) (l0 : List (S52)) (r : List (S52)) (w : World) (AM : Kd.C k52 w A0 l0.length l0) (AP : l0.length ≤ c0) (h : slices_Clone_Hold.f l0 = some r) :
    Calls Tryz.prog 51 #[.slice A0 l0.length c0] w fun e w' => ∃ v0_ : Value, e = .returned (v0_) ∧ Kd.R k52 52 w' w.heap.size (fun _ => True) v0_ r ∧ Below w.heap.size w w' := by
 rcases A0 with _ | A0
 {
 obtain rfl : l0 = [] := by cases l0 with | nil => rfl | cons x_ xs_ => (obtain ⟨AU, AT, _⟩ := AM.2.2 (Nat.succ_pos _); exact absurd AT (by simp))
 obtain rfl : r = [] := by first | (simp [slices_Clone_Hold.f] at h; exact h) | (simp [slices_Clone_Hold.f] at h; exact h.symm) | simpa [slices_Clone_Hold.f] using h
 have AH : ∀ (w : World) (n c : Nat), (binOp .eql 29 (.slice none n c) (.slice none 0 0)).run Tryz.prog w = .ok (.bool true) w := fun w n c => Go.Lib.run_eql_slice_nil w 29 _ none n c 0 0 Tryz.underlying29
 go_enter Tryz.func51, Tryz.ntmps51
 go_wp2
 go_ret
 exact ⟨_, rfl, Kd.R_nil _ _ _ _ _, Below.refl _ _⟩
 }
 have AH : ∀ (w : World) (n c : Nat), (binOp .eql 29 (.slice (some A0) n c) (.slice none 0 0)).run Tryz.prog w = .ok (.bool false) w := fun w n c => Go.Lib.run_eql_slice_nil w 29 _ (some A0) n c 0 0 Tryz.underlying29
 have AS := ak AM
 have AV := ak AP
 clear AM AP
 have HB := ak (Below.refl w.heap.size w)
 have H := h
 unfold slices_Clone_Hold.f at H
 clear h
 obtain ⟨AC, AB⟩ : ∃ y_ : List (S52), y_ = (([] : List (S52))) := ⟨_, rfl⟩
 replace H : (if AC.length + l0.length < 35184372088832 then (some (AC ++ l0)) else (none)) = some r := by first | (rw [AB]; with_reducible exact H) | (have AF := (Option.bind_some _ _).symm.trans H; rw [AB]; with_reducible exact AF) | (have AF := (Option.bind_some _ _).symm.trans H; with_reducible exact AF) | with_reducible exact H | (rw [AB]; exact H) | exact H
 have AE := ak AB
 clear AB
 by_cases c2 : AC.length + l0.length < 35184372088832
 {
 rw [if_pos c2] at H
 have AN := ak c2
 clear c2
 obtain ⟨AL, AA⟩ : ∃ y_ : List (S52), y_ = (AC ++ l0) := ⟨_, rfl⟩
 replace H : (some AL) = some r := by first | (rw [AA]; with_reducible exact H) | (have AF := (Option.bind_some _ _).symm.trans H; rw [AA]; with_reducible exact AF) | (have AF := (Option.bind_some _ _).symm.trans H; with_reducible exact AF) | with_reducible exact H | (rw [AA]; exact H) | exact H
 have AI := ak AA
 clear AA
 obtain rfl := Option.some.inj H
 go_enter Tryz.func51, Tryz.ntmps51
 go_wp2_with (first | ((with_reducible refine gate_dst (N := 5) rfl ?_); refine Kd.R_lit k52 _ 52 ?hg (N := 5) ?hd (xs := ([] : List (S52))) (inner := []) (ok := fun _ => True) (okp := fun _ => True) ?hr ?hp (fun _ hk => hk) trivial (Below.refl _ _) (Nat.le_refl _) (by simp) ?_; (case hd => rfl); (case hg => rfl); (case hr => first | (go_simp; done) | (go_simp; rfl)); (case hp => exact (Reps.none _ _)); intro AO w3 AJ hb AQ AK; clear AQ AK; (first | rw [← AE.out] at AJ | (simp only [Int.reduceToNat] at AJ; rw [← AE.out] at AJ)); have AD := ak (Kd.R_lower AJ (below_size (zB HB.out))); replace HB := kB HB hb; clear hb AJ) | ((with_reducible refine gate_builtin (b := .append) (xs := #[.tmp 5, .tmp 6]) rfl ?_); at_builtin; refine Kd.R_append_rows k52 (w0 := w) w.heap.size rfl (.tmp 5) (.tmp 6) 29 52 (.agg #[(.int .i16 0), (.int .i8 0)]) 4 rfl Tryz.underlying29 info52 rfl (by decide) (by omega) AO AC l0 _ _ _ (fun _ => True) (fun _ => False) rfl rfl ?aO ?aR (fun _ _ h => h) (fun _ h => h.elim) ?aF ?aB ?aS ?aL ?_; (case aR => repeat (first | exact (Kd.C_below AS.out HB.out) | (with_reducible refine Kd.C_alloc ?_ _) | (with_reducible refine Kd.C_drewN ?_ _) | (with_reducible refine Kd.C_drew ?_))); (case aB => exact (zB HB.out)); (case aF => exact (fun _ _ => trivial)); (case aO => exact (zR AD.out)); (case aS => exact (below_size (zB HB.out))); (case aL => have := AN.out; omega); intro AR w5 ho hb hg hat; rw [← AI.out] at ho; have AG := ak (ho); replace HB := ak (hb); clear AD ho hb hg hat))
 go_ret
 exact ⟨_, rfl, AG.out, zB HB.out⟩
 }
 · rw [if_neg c2] at H; exact absurd H (by simp)
/-! ### impl_CloseUp: function 21 -/
def impl_CloseUp.l0 : Nat → List (S52) → Int → Int → Option ((List (S52)) × Int)
  | 0, _, _, _ => none
  | k + 1, x6, AB, AA => if AA < AB then (if 0 ≤ AA then (if AA < (x6.length : Int) then (impl_CloseUp.l0 k (x6.set (AA : Int).toNat (⟨(rd_T52 x6 AA).f0, IntKind.i8.wrap (AA)⟩ : S52)) AB (wrap64 (AA + 1))) else (none)) else (none)) else (some (x6, 0))
def impl_CloseUp.f (k : Nat) (AB : Int) (AD : List Int) (l1 : List (S52)) : Option ((List (S52)) × Int) := (impl_ValidHolds.f k AB AD l1).bind fun AC => (if AC = true then ((slices_Clone_Hold.f l1).bind fun AA => (impl_CloseUp.l0 k AA (AA.length : Int) 0)) else (some (([] : List (S52)), 1)))
set_option maxHeartbeats 8000000 in
set_option maxRecDepth 100000 in
theorem impl_CloseUp.calls (k : Nat) (AH : Int) (AL : Option Addr) (AM : Nat) (AE : List Int) (A1 : Option Addr) (c1 : Nat) (l1 : List (S52)) (r1 : List (S52)) (r2 : Int) (w : World) (AR : Kd.C (Kd.int .i16) w AL AE.length AE) (AW : AE.length ≤ AM) (BG : Kd.C k52 w A1 l1.length l1) (BK : l1.length ≤ c1) (h : impl_CloseUp.f k AH AE l1 = some (r1, r2)) :
    Calls Tryz.prog 21 #[.agg #[.int .i16 AH, .slice AL AE.length AM], .slice A1 l1.length c1] w fun e w' => ∃ v0_ : Value, e = .returned (.tuple #[v0_, .int .i64 r2]) ∧ Kd.R k52 52 w' w.heap.size (fun _ => True) v0_ r1 ∧ Below w.heap.size w w' := by
 have BS := Tryz.underlying27
 have AV := ak AR
 have AS := ak AW
 clear AR AW
 have BE := ak BG
 have A0 := ak BK
 clear BG BK
 have HB := ak (Below.refl w.heap.size w)
 have H := h
 unfold impl_CloseUp.f at H
 clear h
 replace H := Option.bind_eq_some_iff.mp H
 obtain ⟨BB, BL, H⟩ := H
 have A3 := ak BL
 clear BL
 by_cases c4 : BB = true
 {
 subst c4
 rw [if_pos rfl] at H
 replace H := Option.bind_eq_some_iff.mp H
 obtain ⟨AI, BM, H⟩ := H
 have A5 := ak BM
 clear BM
 have H' := ak H
 clear H
 go_enter Tryz.func21, Tryz.ntmps21
 go_wp2_with (first | ((with_reducible refine gate_dst (N := 2) rfl ?_); refine box_event ?hg (N := 2) ?hd (cs := #[.int .i16 AH, .slice AL AE.length AM]) (t := 27) ?hr ?_; (case hd => rfl); (case hg => rfl); (case hr => first | (go_simp; done) | (go_simp; rfl)); intro AP hg w6 hbox hb; have AB := ak (hbox); have Al := gS HB hg; have AD := gS HB hg; replace HB := kB HB hb; clear hb hbox hg; obtain ⟨Ab, AZ, Ae, Af⟩ := cz2 w6 AB) | ((with_reducible refine gate_callee (f := 15) rfl ?_); refine goesL_ (some 10) rfl rfl Tryz.func15 (by kernel_rfl) rfl #[.agg #[.int .i16 AH, .slice AL AE.length AM], .slice A1 l1.length c1] rfl gl_ ?_; (with_reducible refine (impl_ValidHolds.calls k AH _ _ AE _ _ l1 true _ ?side1 ?side2 ?side3 ?side4 A3.out).mono ?_); (case side1 => exact sQ (Kd.C_below AV.out HB.out)); (case side2 => exact AS.out); (case side3 => exact sQ (Kd.C_below BE.out HB.out)); (case side4 => exact A0.out); rintro e w8 ⟨rfl, hb⟩; refine ⟨_, rfl, ?_⟩; replace AB := kK AB hb; replace HB := kB1 HB AD hb; (try clear hb)) | ((with_reducible refine gate_callee (f := 51) rfl ?_); refine goesL_ (some 13) rfl rfl Tryz.func51 (by kernel_rfl) rfl #[.slice A1 l1.length c1] rfl gl_ ?_; (with_reducible refine (slices_Clone_Hold.calls _ _ l1 AI _ ?side1 ?side2 A5.out).mono ?_); (case side1 => exact sQ (Kd.C_below BE.out HB.out)); (case side2 => exact A0.out); rintro e w9 ⟨BQ, rfl, BI, hb⟩; refine ⟨_, rfl, ?_⟩; have AY := ak (Kd.R_lower BI (below_size (zBG HB.out AD.out))); replace AB := kK AB hb; replace HB := kB1 HB AD hb; (try clear hb); (try clear BI); obtain ⟨Ay, Ah, A6⟩ := Kd.R_slice AY.out; subst A6))
 go_loopg [16] k (fun kq BT w' => ∃ (AC : List (S52)) (AA : Int), BT = .int .i64 AA ∧ Aside0 (impl_CloseUp.l0 kq AC (AI.length : Int) AA = some (r1, r2)) ∧ Aside0 (kq ≤ k) ∧ Aside0 (Kd.R k52 52 w' w.heap.size (fun _ => True) (.slice Ay AI.length Ah) AC) ∧ Aside0 (w'.heap[AP]? = some (.cells #[.int .i16 AH, (.slice AL AE.length AM)] 27 (0, 0))) ∧ Aside0 (Below w.heap.size w w'))
 case atStart => exact ⟨(AI), (0), rfl, H', ⟨Nat.le_refl _⟩, ⟨(zR AY.out)⟩, ⟨(zK AB.out)⟩, ⟨zBG HB.out AD.out⟩⟩
 case round => (
 clear H'
 obtain ⟨AC, AA, rfl, HA, BO, AF, AB, HB⟩ := hrel
 have AG := (Kd.R_reads' AF.out).1
 rw [AG] at AF
 (try simp only [AG])
 (try simp only [AG] at AB)
 cases gk with
 | zero => exact absurd HA.out (by simp [impl_CloseUp.l0])
 | succ k1 => (
 have H := HA.out
 clear HA
 simp only [impl_CloseUp.l0] at H
 by_cases Ai : AA < (AI.length : Int)
 {
 rw [if_pos Ai] at H
 have AU : decide (AA < (AI.length : Int)) = true := decide_eq_true Ai
 clear Ai
 by_cases Ax : 0 ≤ AA
 {
 rw [if_pos Ax] at H
 have BH : decide (0 ≤ AA) = true := decide_eq_true Ax
 clear Ax
 by_cases Au : AA < (AC.length : Int)
 {
 rw [if_pos Au] at H
 have BJ : decide (AA < (AC.length : Int)) = true := decide_eq_true Au
 clear Au
 obtain ⟨Aa, AJ⟩ : ∃ y_ : List (S52), y_ = (AC.set (AA : Int).toNat (⟨(rd_T52 AC AA).f0, IntKind.i8.wrap (AA)⟩ : S52)) := ⟨_, rfl⟩
 replace H : (impl_CloseUp.l0 k1 Aa (AI.length : Int) (wrap64 (AA + 1))) = some (r1, r2) := by first | (rw [AJ]; with_reducible exact H) | (have A2 := (Option.bind_some _ _).symm.trans H; rw [AJ]; with_reducible exact A2) | (have A2 := (Option.bind_some _ _).symm.trans H; with_reducible exact A2) | with_reducible exact H | (rw [AJ]; exact H) | exact H
 have An := ak AJ
 clear AJ
 have H' := ak H
 clear H
 have A7 : 0 ≤ (AA : Int) := of_decide_eq_true (by assumption)
 have A9 : (AA : Int) < ((AC.length : Int) : Int) := of_decide_eq_true (by assumption)
 obtain ⟨AK, BW, Ap, Ak, BC, BV, Aj⟩ := Kd.R_form AF.out (by omega)
 (first | cases Ap | (injection Ap with ea_ en_ ec_; (first | subst ea_ | (injection ea_ with ea_; subst ea_)); subst ec_; clear en_))
 have A4 := ak Ak
 have BP := ak Aj
 clear Ak BC Aj
 obtain ⟨BU, Ar, Ao, AQ, AO⟩ := Kd.R_elem AF.out z52 (AA : Int) A7 A9
 obtain rfl := k52_openM Ao
 have Az : wr.cell? ⟨AK, (AA : Int).toNat * 2, none⟩ = some (.int .i16 ((rd_T52 AC AA).f0)) := AQ 0 _ rfl
 have BF : wr.cell? ⟨AK, (AA : Int).toNat * 2 + 1, none⟩ = some (.int .i8 ((rd_T52 AC AA).f1)) := AQ 1 _ rfl
 have BD : wr.frozen? ⟨AK, (AA : Int).toNat * 2, none⟩ = false := AO 0
 have A8 : wr.frozen? ⟨AK, (AA : Int).toNat * 2 + 1, none⟩ = false := AO 1
 clear Ar AQ AO Ao
 replace A7 := eq_true A7
 replace A9 := eq_true A9
 have Am := ak (show Kd.R k52 52 wr w.heap.size (fun _ => True) (.slice (some ⟨AK, 0, none⟩) AC.length Ah) AC from (zR AF.out))
 obtain ⟨BY, AT, Aq, AN, AX⟩ := Kd.R_elem Am.out z52 (AA : Int) (of_decide_eq_true (by assumption)) (by have h_ : (AA : Int) < ((AC.length : Int) : Int) := of_decide_eq_true (by assumption); first | exact h_ | (have e_ := (Kd.R_reads' AF.out).1; omega) | simpa using h_)
 obtain rfl := k52_openM Aq
 have Ad := Kd.R_seg Am.out (AA : Int) (of_decide_eq_true (by assumption)) (by have h_ : (AA : Int) < ((AC.length : Int) : Int) := of_decide_eq_true (by assumption); first | exact h_ | (have e_ := (Kd.R_reads' AF.out).1; omega) | simpa using h_) (seg := [.int .i8 (IntKind.i8.wrap (AA))]) (j := 1) AT AN (show 2 ≤ 2 from by decide) (x' := (⟨(rd_T52 AC AA).f0, IntKind.i8.wrap (AA)⟩ : S52)) (k52_mkM _ _ _ (⟨(rd_T52 AC AA).f0, IntKind.i8.wrap (AA)⟩ : S52) ) (fun _ hk => hk)
 have Ag := AN 1 _ rfl
 (try simp only [show (k52).sz = 2 from rfl, Nat.mul_one, Nat.add_zero] at Ag)
 have Ac := AX 1
 (try simp only [show (k52).sz = 2 from rfl, Nat.mul_one, Nat.add_zero] at Ac)
 clear AT AN AX Aq
 go_wp2_with (first | ((with_reducible refine gate_store (t := 50) (p := 24) rfl ?_); refine store_event (t := 50) (p := 24) (v := ?vo_w16) (w1 := (wr.setCell ⟨AK, (AA : Int).toNat * 2 + 1, none⟩ (.int .i8 (IntKind.i8.wrap (AA))))) ?hg ?ho ?hn ?hr ?_; (case ho => rfl); (case hg => rfl); (case hn => rfl); (case hr => first | (go_simp; done) | (go_simp; rfl)); intro BA hw; have hg : wr.grownBy BA (some AK) := (by rw [hw]; exact Ad.2); have BN : Kd.R k52 52 BA w.heap.size (fun _ => True) (.slice (some ⟨AK, 0, none⟩) AC.length Ah) Aa := (by rw [hw, An.out]; exact Ad.1); clear Ad; replace AB := ak (blk_grown (g := AP) (o := .cells #[.int .i16 AH, .slice AL AE.length AM] 27 (0, 0)) (zK AB.out) hg (Kd.R_ne AF.out AB.out (by decide))); replace AF := ak (BN); replace HB := ak ((by rw [hw]; exact below_set (HB.out) A4.out : Below w.heap.size w BA)); clear hg hw BN))
 (try simp only [← AG])
 go_roundg k1
 case measure => have := BO.out; omega
 case rel => exact ⟨(Aa), (wrap64 (AA + 1)), rfl, H', ⟨by have := BO.out; omega⟩, ⟨by (try simp only [AG]); (with_reducible repeat (first | apply Kd.R_alloc | apply Kd.R_drewN | apply Kd.R_drew)); exact AF.out⟩, ⟨by (try simp only [AG]); exact AB.out⟩, ⟨zBG HB.out AD.out⟩⟩
 }
 · rw [if_neg Au] at H; exact absurd H (by simp)
 }
 · rw [if_neg Ax] at H; exact absurd H (by simp)
 }
 {
 rw [if_neg Ai] at H
 have AU : decide (AA < (AI.length : Int)) = false := decide_eq_false Ai
 have BX : decide (AA < (AC.length : Int)) = false := by rw [← AG]; exact AU
 clear Ai
 simp only [Option.some.injEq, Prod.mk.injEq] at H
 obtain ⟨rfl, rfl⟩ := H
 go_wp2
 go_ret2
 exact ⟨_, rfl, AF.out, zBG HB.out AD.out⟩
 }
 )
 )
 }
 {
 replace c4 := Bool.eq_false_iff.mpr c4
 subst c4
 rw [if_neg (show ¬ (false = true) by decide)] at H
 simp only [Option.some.injEq, Prod.mk.injEq] at H
 obtain ⟨rfl, rfl⟩ := H
 go_enter Tryz.func21, Tryz.ntmps21
 go_wp2_with (first | ((with_reducible refine gate_dst (N := 2) rfl ?_); refine box_event ?hg (N := 2) ?hd (cs := #[.int .i16 AH, .slice AL AE.length AM]) (t := 27) ?hr ?_; (case hd => rfl); (case hg => rfl); (case hr => first | (go_simp; done) | (go_simp; rfl)); intro AP hg BR hbox hb; have AB := ak (hbox); have Al := gS HB hg; have AD := gS HB hg; replace HB := kB HB hb; clear hb hbox hg; obtain ⟨At, As, Aw, Av⟩ := cz2 BR AB) | ((with_reducible refine gate_callee (f := 15) rfl ?_); refine goesL_ (some 10) rfl rfl Tryz.func15 (by kernel_rfl) rfl #[.agg #[.int .i16 AH, .slice AL AE.length AM], .slice A1 l1.length c1] rfl gl_ ?_; (with_reducible refine (impl_ValidHolds.calls k AH _ _ AE _ _ l1 false _ ?side1 ?side2 ?side3 ?side4 A3.out).mono ?_); (case side1 => exact sQ (Kd.C_below AV.out HB.out)); (case side2 => exact AS.out); (case side3 => exact sQ (Kd.C_below BE.out HB.out)); (case side4 => exact A0.out); rintro e BZ ⟨rfl, hb⟩; refine ⟨_, rfl, ?_⟩; replace AB := kK AB hb; replace HB := kB1 HB AD hb; (try clear hb)))
 go_ret2
 exact ⟨_, rfl, by first | exact Kd.R_nil _ _ _ _ _ | exact Kd.N_nil _ _ _ _ _ | exact Kd.V_nil _ _ _ _ _ | exact Kd.Q_nil _ _ _ _ _ | exact Kd.S_nil _ _ _ _ _, zBG HB.out AD.out⟩
 }
end Go.Proofs.YtlggjfhoecaelaaGreatDoor.P
