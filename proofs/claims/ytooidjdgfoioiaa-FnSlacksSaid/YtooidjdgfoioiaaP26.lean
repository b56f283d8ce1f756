-- Printed by wip/print (my turned copy of the kit's print) out of the translation; Lean checks it.
import Derived.Test.YtooidjdgfoioiaaP0
import Derived.Test.YtooidjdgfoioiaaP6
import Derived.Test.YtooidjdgfoioiaaP7
import Derived.Test.YtooidjdgfoioiaaP11
namespace Go.Proofs.Ytooidjdgfoioiaa.P
open Go.RowKit Go.Proofs.YtooidjdgfoioiaaW.PrintWords Go.Proofs.YtooidjdgfoioiaaW.PrintLast Go.Proofs.YtooidjdgfoioiaaW.PrintMore
attribute [local go_sem] max2_int min2_int max_two min_two max_three min_three max_four min_four   -- for this text's walks alone
set_option linter.unusedVariables false
set_option linter.unusedSimpArgs false

/-! ### slices_Index_Sint64_int64: function 80 -/
def slices_Index_Sint64_int64.l0 : Nat → List Int → Int → Int → Int → Option (Int)
  | 0, _, _, _, _ => none
  | k + 1, x0, x1, x7, x8 => if x8 < x7 then (if 0 ≤ x8 then (if x8 < (x0.length : Int) then (if x1 = (rd x0 x8) then (some x8) else (slices_Index_Sint64_int64.l0 k x0 x1 x7 (wrap64 (x8 + 1)))) else (none)) else (none)) else (some (-1))
def slices_Index_Sint64_int64.f (k : Nat) (l0 : List Int) (a1 : Int) : Option (Int) := slices_Index_Sint64_int64.l0 k l0 a1 (l0.length : Int) 0
set_option maxHeartbeats 8000000 in
set_option maxRecDepth 100000 in
theorem slices_Index_Sint64_int64.calls (k : Nat) (A0 : Option Addr) (c0 : Nat) (l0 : List Int) (a1 : Int) (r : Int) (w : World) (AK : Kd.C (Kd.int .i64) w A0 l0.length l0) (AJ : l0.length ≤ c0) (h : slices_Index_Sint64_int64.f k l0 a1 = some r) :
    Calls Try.prog 80 #[.slice A0 l0.length c0, .int .i64 a1] w fun e w' => e = .returned (.int .i64 r) ∧ Drawn0 w w' := by
 have AM := ak AK
 have AP := ak AJ
 clear AK AJ
 have H := h
 unfold slices_Index_Sint64_int64.f at H
 clear h
 have H' := ak H
 clear H
 go_enter Try.func80, Try.ntmps80
 go_wp2
 go_loopg [8] k (fun kq v8 w' => ∃ (AA : Int), v8 = .int .i64 AA ∧ Aside0 (slices_Index_Sint64_int64.l0 kq l0 a1 (l0.length : Int) AA = some r) ∧ Aside0 (kq ≤ k) ∧ Drawn0 w w')
 case atStart => exact ⟨(0), rfl, H', ⟨Nat.le_refl _⟩, by repeat (first | exact Drawn0.refl _ | apply Drawn0.step)⟩
 case round => (
 clear H'
 obtain ⟨AA, rfl, HA, AL, ⟨m1, rfl⟩⟩ := hrel
 cases gk with
 | zero => exact absurd HA.out (by simp [slices_Index_Sint64_int64.l0])
 | succ k1 => (
 have H := HA.out
 clear HA
 simp only [slices_Index_Sint64_int64.l0] at H
 by_cases c3 : AA < (l0.length : Int)
 {
 rw [if_pos c3] at H
 have AI : decide (AA < (l0.length : Int)) = true := decide_eq_true c3
 clear c3
 by_cases c4 : 0 ≤ AA
 {
 rw [if_pos c4] at H
 have AO : decide (0 ≤ AA) = true := decide_eq_true c4
 clear c4
 by_cases c5 : AA < (l0.length : Int)
 {
 rw [if_pos c5] at H
 have AN : decide (AA < (l0.length : Int)) = true := decide_eq_true c5
 clear c5
 by_cases c6 : a1 = (rd l0 AA)
 {
 rw [if_pos c6] at H
 have AG : (a1 == (rd l0 AA)) = true := beq_iff_eq.mpr c6
 have AH : (a1 != (rd l0 AA)) = false := bne_eq_false_iff_eq.mpr c6
 clear c6
 obtain rfl := Option.some.inj H
 have AB : 0 ≤ (AA : Int) := of_decide_eq_true (by assumption)
 have AC : AA < (l0.length : Int) := of_decide_eq_true (by assumption)
 obtain ⟨AF, AE, AD⟩ := Kd.at_int AM.out AA AB AC
 cases AE
 replace AB := eq_true AB
 replace AC := eq_true AC
 go_wp2
 go_ret
 exact ⟨by first | rfl | (simp; done) | (simp [*]; done), by repeat (first | exact Drawn0.refl _ | apply Drawn0.step)⟩
 }
 {
 rw [if_neg c6] at H
 have AG : (a1 == (rd l0 AA)) = false := beq_eq_false_iff_ne.mpr c6
 have AH : (a1 != (rd l0 AA)) = true := bne_iff_ne.mpr c6
 have H' := ak H
 clear H
 have AB : 0 ≤ (AA : Int) := of_decide_eq_true (by assumption)
 have AC : AA < (l0.length : Int) := of_decide_eq_true (by assumption)
 obtain ⟨AF, AE, AD⟩ := Kd.at_int AM.out AA AB AC
 cases AE
 replace AB := eq_true AB
 replace AC := eq_true AC
 go_wp2
 go_roundg k1
 case measure => have := AL.out; omega
 case rel => exact ⟨(wrap64 (AA + 1)), rfl, H', ⟨by have := AL.out; omega⟩, by repeat (first | exact Drawn0.refl _ | apply Drawn0.step)⟩
 }
 }
 · rw [if_neg c5] at H; exact absurd H (by simp)
 }
 · rw [if_neg c4] at H; exact absurd H (by simp)
 }
 {
 rw [if_neg c3] at H
 have AI : decide (AA < (l0.length : Int)) = false := decide_eq_false c3
 clear c3
 obtain rfl := Option.some.inj H
 go_wp2
 go_ret
 exact ⟨by first | rfl | (simp; done) | (simp [*]; done), by repeat (first | exact Drawn0.refl _ | apply Drawn0.step)⟩
 }
 )
 )
/-! ### slices_Contains_Sint64_int64: function 48 -/
def slices_Contains_Sint64_int64.f (k : Nat) (l0 : List Int) (a1 : Int) : Option (Bool) := (slices_Index_Sint64_int64.f k l0 a1).bind fun AA => (some (decide (AA ≥ 0)))
set_option maxHeartbeats 8000000 in
set_option maxRecDepth 100000 in
theorem slices_Contains_Sint64_int64.calls (k : Nat) (A0 : Option Addr) (c0 : Nat) (l0 : List Int) (a1 : Int) (r : Bool) (w : World) (AD : Kd.C (Kd.int .i64) w A0 l0.length l0) (AC : l0.length ≤ c0) (h : slices_Contains_Sint64_int64.f k l0 a1 = some r) :
    Calls Try.prog 48 #[.slice A0 l0.length c0, .int .i64 a1] w fun e w' => e = .returned (.bool r) ∧ Drawn0 w w' := by
 have AF := ak AD
 have AE := ak AC
 clear AD AC
 have H := h
 unfold slices_Contains_Sint64_int64.f at H
 clear h
 replace H := Option.bind_eq_some_iff.mp H
 obtain ⟨AA, AB, H⟩ := H
 have A3 := ak AB
 clear AB
 obtain rfl := Option.some.inj H
 go_enter Try.func48, Try.ntmps48
 go_wp2_with (first | ((with_reducible refine gate_callee (f := 80) rfl ?_); refine goesL_ (some 7) rfl rfl Try.func80 (by kernel_rfl) rfl #[.slice A0 l0.length c0, .int .i64 a1] rfl gl_ ?_; (with_reducible refine (slices_Index_Sint64_int64.calls k _ _ l0 a1 AA _ ?side1 ?side2 A3.out).mono ?_); (case side1 => exact sD AF); (case side2 => exact AE.out); rintro e w' ⟨rfl, ⟨nd, rfl⟩⟩; refine ⟨_, rfl, ?_⟩))
 go_ret
 exact ⟨by first | rfl | (simp; done) | (simp [*]; done), by repeat (first | exact Drawn0.refl _ | apply Drawn0.step)⟩
/-! ### impl_RopeFor: function 11 -/
def impl_RopeFor.l0 : Nat → Int → List Int → List Int → Int → Int → Option (Int × List Int × Int)
  | 0, _, _, _, _, _ => none
  | k + 1, x9, AC, AB, AD, AA => if AA < AD then (if 0 ≤ AA then (if AA < (AB.length : Int) then (if AC.length < 70368744177664 then (impl_RopeFor.l0 k (wrap64 (x9 + (rd AB AA))) (AC ++ [IntKind.i16.wrap (wrap64 (x9 + (rd AB AA)))]) AB AD (wrap64 (AA + 1))) else (none)) else (none)) else (none)) else (if x9 > 400 then (some (0, ([] : List Int), 3)) else (some (IntKind.i16.wrap (x9), AC, 0)))
def impl_RopeFor.f (k : Nat) (AI : Int) (AK : Int) (AE : Int) (AF : Int) (AH : Int) (AG : Int) (AL : Int) (AJ : Int) (AM : Int) (AD : Int) (AC : Int) (AB : Int) (l1 : List (S62)) : Option (Int × List Int × Int) := (impl_ValidRoom.f AI AK AE AF AH AG AL AJ AM AD AC AB).bind fun AO => (if AO = true then (if (l1.length : Int) > 40 then (some (0, ([] : List Int), 3)) else (if (l1.length : Int) < 2 then (some (0, ([] : List Int), 2)) else ((impl_cellCode.f k AI AK AE AF AH AG AL AJ AM AD AC AB l1).bind fun AN => (if AN = 0 then ((impl_stepsAlong.f k AI AK AE AF AH AG AL AJ AM AD AC AB l1).bind fun AA => (if AA.2 = 0 then ((slices_Contains_Sint64_int64.f k AA.1 0).bind fun AP => (if AP = true then (some (0, ([] : List Int), 4)) else (impl_RopeFor.l0 k 0 (([0] : List Int)) AA.1 (AA.1.length : Int) 0))) else (some (0, ([] : List Int), AA.2)))) else (some (0, ([] : List Int), AN)))))) else (some (0, ([] : List Int), 1)))
set_option maxHeartbeats 8000000 in
set_option maxRecDepth 100000 in
theorem impl_RopeFor.calls (k : Nat) (AN : Int) (AK : Int) (AI : Int) (AO : Int) (AQ : Int) (AL : Int) (AJ : Int) (AR : Int) (AP : Int) (AM : Int) (AE : Int) (AD : Int) (A1 : Option Addr) (c1 : Nat) (l1 : List (S62)) (r1 : Int) (r2 : List Int) (r3 : Int) (w : World) (Hl : Kd.C k62 w A1 l1.length l1) (H8 : l1.length ≤ c1) (h : impl_RopeFor.f k AN AK AI AO AQ AL AJ AR AP AM AE AD l1 = some (r1, r2, r3)) :
    Calls Try.prog 11 #[.agg #[.int .i8 AN, .int .i8 AK, .int .u16 AI, .int .u16 AO, .int .u16 AQ, .int .u16 AL, .int .u16 AJ, .int .u16 AR, .int .u16 AP, .int .u16 AM, .int .u16 AE, .int .u16 AD], .slice A1 l1.length c1] w fun e w' => ∃ v1_ : Value, e = .returned (.tuple #[.agg #[.int .i16 r1, v1_], .int .i64 r3]) ∧ Kd.R (Kd.int .i16) 29 w' w.heap.size (fun _ => True) v1_ r2 ∧ Below w.heap.size w w' := by
 have IZ := Try.underlying35
 have IP := Try.underlying32
 have CE := ak Hl
 have CC := ak H8
 clear Hl H8
 have HB := ak (Below.refl w.heap.size w)
 have H := h
 unfold impl_RopeFor.f at H
 clear h
 replace H := Option.bind_eq_some_iff.mp H
 obtain ⟨HZ, Hs, H⟩ := H
 have A3 := ak Hs
 clear Hs
 by_cases c4 : HZ = true
 {
 subst c4
 rw [if_pos rfl] at H
 by_cases c5 : (l1.length : Int) > 40
 {
 rw [if_pos c5] at H
 have Cb : decide (40 < (l1.length : Int)) = true := decide_eq_true c5
 have DI : decide (40 < l1.length) = true := decide_eq_true (by omega)
 clear c5
 simp only [Option.some.injEq, Prod.mk.injEq] at H
 obtain ⟨rfl, rfl, rfl⟩ := H
 go_enter Try.func11, Try.ntmps11
 go_wp2_with (first | ((with_reducible refine gate_dst (N := 2) rfl ?_); refine box_event ?hg (N := 2) ?hd (cs := #[.int .i8 AN, .int .i8 AK, .int .u16 AI, .int .u16 AO, .int .u16 AQ, .int .u16 AL, .int .u16 AJ, .int .u16 AR, .int .u16 AP, .int .u16 AM, .int .u16 AE, .int .u16 AD]) (t := 35) ?hr ?_; (case hd => rfl); (case hg => rfl); (case hr => first | (go_simp; done) | (go_simp; rfl)); intro AW hg w6 hbox hb; have AA := ak (hbox); have Ab := gS HB hg; have AC := gS HB hg; replace HB := kB HB hb; clear hb hbox hg) | ((with_reducible refine gate_dst (N := 4) rfl ?_); refine box_event ?hg (N := 4) ?hd (cs := #[.int .i16 0, .slice none 0 0]) (t := 32) ?hr ?_; (case hd => rfl); (case hg => rfl); (case hr => first | (go_simp; done) | (go_simp; rfl)); intro AS hg w7 hbox hb; have AB := ak (hbox); have Aa := gS1 HB AC hg; have AF := gS1 HB AC hg; have AG := nL AA hg; have AH := nG AA hg; replace AA := kK AA hb; replace HB := kB1 HB AC hb; clear hb hbox hg; have IU := AG.out; have IA := AH.out; obtain ⟨Hd, HM, HV, HH, HS, HT, Ha, Hg, HX, HI, E8, Ec, HN, Hb, HU, HR, Hf, He, HK, Hc, HJ, HL, Dx, Ee⟩ := cz12 w7 AA) | ((with_reducible refine gate_callee (f := 45) rfl ?_); refine goesL_ (some 15) rfl rfl Try.func45 (by kernel_rfl) rfl #[.agg #[.int .i8 AN, .int .i8 AK, .int .u16 AI, .int .u16 AO, .int .u16 AQ, .int .u16 AL, .int .u16 AJ, .int .u16 AR, .int .u16 AP, .int .u16 AM, .int .u16 AE, .int .u16 AD]] rfl gl_ ?_; (with_reducible refine (impl_ValidRoom.calls AN AK AI AO AQ AL AJ AR AP AM AE AD true _ A3.out).mono ?_); rintro e IE ⟨rfl, hb⟩; refine ⟨_, rfl, ?_⟩; replace AA := kK AA hb; replace AB := kK AB hb; replace HB := kB2 HB AC AF hb; (try clear hb); obtain ⟨Di, Ev, EG, GV⟩ := cz2 IE AB))
 refine bodyPost_ret (results_ct rfl _ _ AS 32 #[.int .i16 0, .slice none 0 0] (0, 0) _ rfl (by refine blk_put (cs := #[.int .i16 0, .slice none 0 0]) ?_ 1 _ rfl; refine blk_put (cs := #[.int .i16 0, .slice none 0 0]) ?_ 0 _ rfl; exact AB.out) Try.underlying32 rfl (by kernel_rfl)) rfl ?_
 exact ⟨_, rfl, by first | exact Kd.R_nil _ _ _ _ _ | exact Kd.N_nil _ _ _ _ _ | exact Kd.V_nil _ _ _ _ _ | exact Kd.Q_nil _ _ _ _ _ | exact Kd.S_nil _ _ _ _ _, zH2 HB AC AF⟩
 }
 {
 rw [if_neg c5] at H
 have Cb : decide (40 < (l1.length : Int)) = false := decide_eq_false c5
 have DI : decide (40 < l1.length) = false := decide_eq_false (by omega)
 clear c5
 by_cases CD : (l1.length : Int) < 2
 {
 rw [if_pos CD] at H
 have Bv : decide ((l1.length : Int) < 2) = true := decide_eq_true CD
 have Bx : decide (l1.length < 2) = true := decide_eq_true (by omega)
 clear CD
 simp only [Option.some.injEq, Prod.mk.injEq] at H
 obtain ⟨rfl, rfl, rfl⟩ := H
 go_enter Try.func11, Try.ntmps11
 go_wp2_with (first | ((with_reducible refine gate_dst (N := 2) rfl ?_); refine box_event ?hg (N := 2) ?hd (cs := #[.int .i8 AN, .int .i8 AK, .int .u16 AI, .int .u16 AO, .int .u16 AQ, .int .u16 AL, .int .u16 AJ, .int .u16 AR, .int .u16 AP, .int .u16 AM, .int .u16 AE, .int .u16 AD]) (t := 35) ?hr ?_; (case hd => rfl); (case hg => rfl); (case hr => first | (go_simp; done) | (go_simp; rfl)); intro AW hg Ig hbox hb; have AA := ak (hbox); have Ab := gS HB hg; have AC := gS HB hg; replace HB := kB HB hb; clear hb hbox hg) | ((with_reducible refine gate_dst (N := 4) rfl ?_); refine box_event ?hg (N := 4) ?hd (cs := #[.int .i16 0, .slice none 0 0]) (t := 32) ?hr ?_; (case hd => rfl); (case hg => rfl); (case hr => first | (go_simp; done) | (go_simp; rfl)); intro AS hg II hbox hb; have AB := ak (hbox); have Aa := gS1 HB AC hg; have AF := gS1 HB AC hg; have AG := nL AA hg; have AH := nG AA hg; replace AA := kK AA hb; replace HB := kB1 HB AC hb; clear hb hbox hg; have Hp := AG.out; have Hy := AH.out; obtain ⟨HC, Fu, ER, Fg, EM, Gs, Em, Fa, EO, GC, Ck, Cd, HE, Dm, GK, Gd, Fe, E1, Dt, GB, EJ, E2, CL, Cn⟩ := cz12 II AA) | ((with_reducible refine gate_callee (f := 45) rfl ?_); refine goesL_ (some 15) rfl rfl Try.func45 (by kernel_rfl) rfl #[.agg #[.int .i8 AN, .int .i8 AK, .int .u16 AI, .int .u16 AO, .int .u16 AQ, .int .u16 AL, .int .u16 AJ, .int .u16 AR, .int .u16 AP, .int .u16 AM, .int .u16 AE, .int .u16 AD]] rfl gl_ ?_; (with_reducible refine (impl_ValidRoom.calls AN AK AI AO AQ AL AJ AR AP AM AE AD true _ A3.out).mono ?_); rintro e IF ⟨rfl, hb⟩; refine ⟨_, rfl, ?_⟩; replace AA := kK AA hb; replace AB := kK AB hb; replace HB := kB2 HB AC AF hb; (try clear hb); obtain ⟨Dw, Eg, Ga, EE⟩ := cz2 IF AB))
 refine bodyPost_ret (results_ct rfl _ _ AS 32 #[.int .i16 0, .slice none 0 0] (0, 0) _ rfl (by refine blk_put (cs := #[.int .i16 0, .slice none 0 0]) ?_ 1 _ rfl; refine blk_put (cs := #[.int .i16 0, .slice none 0 0]) ?_ 0 _ rfl; exact AB.out) Try.underlying32 rfl (by kernel_rfl)) rfl ?_
 exact ⟨_, rfl, by first | exact Kd.R_nil _ _ _ _ _ | exact Kd.N_nil _ _ _ _ _ | exact Kd.V_nil _ _ _ _ _ | exact Kd.Q_nil _ _ _ _ _ | exact Kd.S_nil _ _ _ _ _, zH2 HB AC AF⟩
 }
 {
 rw [if_neg CD] at H
 have Bv : decide ((l1.length : Int) < 2) = false := decide_eq_false CD
 have Bx : decide (l1.length < 2) = false := decide_eq_false (by omega)
 clear CD
 replace H := Option.bind_eq_some_iff.mp H
 obtain ⟨Ac, Cg, H⟩ := H
 have E5 := ak Cg
 clear Cg
 by_cases B9 : Ac = 0
 {
 rw [if_pos B9] at H
 have B3 : (Ac == 0) = true := beq_iff_eq.mpr B9
 have By : (Ac != 0) = false := bne_eq_false_iff_eq.mpr B9
 clear B9
 replace H := Option.bind_eq_some_iff.mp H
 obtain ⟨⟨AU, Af⟩, DG, H⟩ := H
 have HP := ak DG
 clear DG
 by_cases Bu : Af = 0
 {
 rw [if_pos Bu] at H
 have Bw : (Af == 0) = true := beq_iff_eq.mpr Bu
 have CA : (Af != 0) = false := bne_eq_false_iff_eq.mpr Bu
 clear Bu
 replace H := Option.bind_eq_some_iff.mp H
 obtain ⟨Hh, CS, H⟩ := H
 have H6 := ak CS
 clear CS
 by_cases CW : Hh = true
 {
 subst CW
 rw [if_pos rfl] at H
 simp only [Option.some.injEq, Prod.mk.injEq] at H
 obtain ⟨rfl, rfl, rfl⟩ := H
 go_enter Try.func11, Try.ntmps11
 go_wp2_with (first | ((with_reducible refine gate_dst (N := 2) rfl ?_); refine box_event ?hg (N := 2) ?hd (cs := #[.int .i8 AN, .int .i8 AK, .int .u16 AI, .int .u16 AO, .int .u16 AQ, .int .u16 AL, .int .u16 AJ, .int .u16 AR, .int .u16 AP, .int .u16 AM, .int .u16 AE, .int .u16 AD]) (t := 35) ?hr ?_; (case hd => rfl); (case hg => rfl); (case hr => first | (go_simp; done) | (go_simp; rfl)); intro AW hg Ie hbox hb; have AA := ak (hbox); have Ab := gS HB hg; have AC := gS HB hg; replace HB := kB HB hb; clear hb hbox hg) | ((with_reducible refine gate_dst (N := 4) rfl ?_); refine box_event ?hg (N := 4) ?hd (cs := #[.int .i16 0, .slice none 0 0]) (t := 32) ?hr ?_; (case hd => rfl); (case hg => rfl); (case hr => first | (go_simp; done) | (go_simp; rfl)); intro AS hg IY hbox hb; have AB := ak (hbox); have Aa := gS1 HB AC hg; have AF := gS1 HB AC hg; have AG := nL AA hg; have AH := nG AA hg; replace AA := kK AA hb; replace HB := kB1 HB AC hb; clear hb hbox hg; have H1 := AG.out; have Hi := AH.out; obtain ⟨Fv, GY, Eo, Ed, Ey, EU, E9, FL, DL, FF, Cu, Cm, Ff, DU, GF, ET, Es, Gh, Fy, EV, Ej, Fh, DA, Cv⟩ := cz12 IY AA) | ((with_reducible refine gate_callee (f := 45) rfl ?_); refine goesL_ (some 15) rfl rfl Try.func45 (by kernel_rfl) rfl #[.agg #[.int .i8 AN, .int .i8 AK, .int .u16 AI, .int .u16 AO, .int .u16 AQ, .int .u16 AL, .int .u16 AJ, .int .u16 AR, .int .u16 AP, .int .u16 AM, .int .u16 AE, .int .u16 AD]] rfl gl_ ?_; (with_reducible refine (impl_ValidRoom.calls AN AK AI AO AQ AL AJ AR AP AM AE AD true _ A3.out).mono ?_); rintro e IS ⟨rfl, hb⟩; refine ⟨_, rfl, ?_⟩; replace AA := kK AA hb; replace AB := kK AB hb; replace HB := kB2 HB AC AF hb; (try clear hb); obtain ⟨F0, DZ, DM, Gu, FQ, Ds, Dv, G8, F1, DW, Cp, DD, E7, GN, DQ, Gj, GE, Eu, Dz, EN, F4, GG, CU, CJ⟩ := cz12 IS AA) | ((with_reducible refine gate_callee (f := 46) rfl ?_); refine goesL_ (some 30) rfl rfl Try.func46 (by kernel_rfl) rfl #[.agg #[.int .i8 AN, .int .i8 AK, .int .u16 AI, .int .u16 AO, .int .u16 AQ, .int .u16 AL, .int .u16 AJ, .int .u16 AR, .int .u16 AP, .int .u16 AM, .int .u16 AE, .int .u16 AD], .slice A1 l1.length c1] rfl gl_ ?_; (with_reducible refine (impl_cellCode.calls k AN AK AI AO AQ AL AJ AR AP AM AE AD _ _ l1 Ac _ ?side1 ?side2 E5.out).mono ?_); (case side1 => exact sQ (Kd.C_below CE.out HB.out)); (case side2 => exact CC.out); rintro e IR ⟨rfl, hb⟩; refine ⟨_, rfl, ?_⟩; replace AA := kK AA hb; replace AB := kK AB hb; replace HB := kB2 HB AC AF hb; (try clear hb); obtain ⟨DN, Gk, Fx, G3, Da, F8, Du, Fi, Dj, FC, CO, Co, GH, EH, F9, Fr, Fl, FD, G7, GW, FK, DR, DC, DJ⟩ := cz12 IR AA) | ((with_reducible refine gate_callee (f := 47) rfl ?_); refine goesL_ (some 38) rfl rfl Try.func47 (by kernel_rfl) rfl #[.agg #[.int .i8 AN, .int .i8 AK, .int .u16 AI, .int .u16 AO, .int .u16 AQ, .int .u16 AL, .int .u16 AJ, .int .u16 AR, .int .u16 AP, .int .u16 AM, .int .u16 AE, .int .u16 AD], .slice A1 l1.length c1] rfl gl_ ?_; (with_reducible refine (impl_stepsAlong.calls k AN AK AI AO AQ AL AJ AR AP AM AE AD _ _ l1 AU Af _ ?side1 ?side2 HP.out).mono ?_); (case side1 => exact sQ (Kd.C_below CE.out HB.out)); (case side2 => exact CC.out); rintro e B0 ⟨CY, rfl, Bz, hb⟩; refine ⟨_, rfl, ?_⟩; have AV := ak (Kd.R_lower Bz (below_size (zH2 HB AC AF))); replace AA := kK AA hb; replace AB := kK AB hb; replace HB := kB2 HB AC AF hb; (try clear hb); (try clear Bz); obtain ⟨C7, C6, HW⟩ := Kd.R_slice AV.out; subst HW) | ((with_reducible refine gate_callee (f := 48) rfl ?_); refine goesL_ (some 48) rfl rfl Try.func48 (by kernel_rfl) rfl #[.slice C7 AU.length C6, .int .i64 0] rfl gl_ ?_; (with_reducible refine (slices_Contains_Sint64_int64.calls k _ _ AU 0 true _ ?side1 ?side2 H6.out).mono ?_); (case side1 => exact sC AV); (case side2 => exact sL AV); rintro e w' ⟨rfl, ⟨nd, rfl⟩⟩; refine ⟨_, rfl, ?_⟩; (try (rw [drewN_self B0]; generalize Cz : World.drewN B0 _ = B0; have H2 : Aside0 (Kd.R (Kd.int .i64) 2 B0 w.heap.size (fun _ => True) (.slice C7 AU.length C6) AU) := ⟨by rw [← Cz]; exact (zR AV.out)⟩; have Hw : Aside0 (B0.heap[AW]? = some (.cells #[.int .i8 AN, .int .i8 AK, .int .u16 AI, .int .u16 AO, .int .u16 AQ, .int .u16 AL, .int .u16 AJ, .int .u16 AR, .int .u16 AP, .int .u16 AM, .int .u16 AE, .int .u16 AD] 35 (0, 0))) := ⟨by rw [← Cz]; exact (zK AA.out)⟩; have Hz : Aside0 (B0.heap[AS]? = some (.cells #[.int .i16 0, .slice none 0 0] 32 (0, 0))) := ⟨by rw [← Cz]; exact (zK AB.out)⟩; have H7 : Aside0 (Below w.heap.size w B0) := ⟨by rw [← Cz]; exact (zH2 HB AC AF)⟩; clear AV AA AB HB Cz; have AV := H2; have AA := Hw; have AB := Hz; have HB := H7; clear H2 Hw Hz H7)); obtain ⟨Dk, Gr, Do, Et⟩ := cz2 B0 AB))
 refine bodyPost_ret (results_ct rfl _ _ AS 32 #[.int .i16 0, .slice none 0 0] (0, 0) _ rfl (by refine blk_put (cs := #[.int .i16 0, .slice none 0 0]) ?_ 1 _ rfl; refine blk_put (cs := #[.int .i16 0, .slice none 0 0]) ?_ 0 _ rfl; exact AB.out) Try.underlying32 rfl (by kernel_rfl)) rfl ?_
 exact ⟨_, rfl, by first | exact Kd.R_nil _ _ _ _ _ | exact Kd.N_nil _ _ _ _ _ | exact Kd.V_nil _ _ _ _ _ | exact Kd.Q_nil _ _ _ _ _ | exact Kd.S_nil _ _ _ _ _, zH2 HB AC AF⟩
 }
 {
 replace CW := Bool.eq_false_iff.mpr CW
 subst CW
 rw [if_neg (show ¬ (false = true) by decide)] at H
 obtain ⟨C2, Ae⟩ : ∃ y_ : List Int, y_ = (([0] : List Int)) := ⟨_, rfl⟩
 replace H : (impl_RopeFor.l0 k 0 C2 AU (AU.length : Int) 0) = some (r1, r2, r3) := by first | (rw [Ae]; with_reducible exact H) | (have CG := (Option.bind_some _ _).symm.trans H; rw [Ae]; with_reducible exact CG) | (have CG := (Option.bind_some _ _).symm.trans H; with_reducible exact CG) | with_reducible exact H | (rw [Ae]; exact H) | exact H
 have B8 := ak Ae
 clear Ae
 have H' := ak H
 clear H
 go_enter Try.func11, Try.ntmps11
 go_wp2_with (first | ((with_reducible refine gate_dst (N := 2) rfl ?_); refine box_event ?hg (N := 2) ?hd (cs := #[.int .i8 AN, .int .i8 AK, .int .u16 AI, .int .u16 AO, .int .u16 AQ, .int .u16 AL, .int .u16 AJ, .int .u16 AR, .int .u16 AP, .int .u16 AM, .int .u16 AE, .int .u16 AD]) (t := 35) ?hr ?_; (case hd => rfl); (case hg => rfl); (case hr => first | (go_simp; done) | (go_simp; rfl)); intro AW hg Ij hbox hb; have AA := ak (hbox); have Ab := gS HB hg; have AC := gS HB hg; replace HB := kB HB hb; clear hb hbox hg) | ((with_reducible refine gate_dst (N := 4) rfl ?_); refine box_event ?hg (N := 4) ?hd (cs := #[.int .i16 0, .slice none 0 0]) (t := 32) ?hr ?_; (case hd => rfl); (case hg => rfl); (case hr => first | (go_simp; done) | (go_simp; rfl)); intro AS hg IK hbox hb; have AB := ak (hbox); have Aa := gS1 HB AC hg; have AF := gS1 HB AC hg; have AG := nL AA hg; have AH := nG AA hg; replace AA := kK AA hb; replace HB := kB1 HB AC hb; clear hb hbox hg; have Hx := AG.out; have H3 := AH.out; obtain ⟨Bq, Bc, Bj, BW, Bs, BA, BK, BN, A0, A8, An, Ak, BH, BR, BI, Be, Bk, Av, BS, Au, BP, BO, As, Al⟩ := cz12 IK AA) | ((with_reducible refine gate_callee (f := 45) rfl ?_); refine goesL_ (some 15) rfl rfl Try.func45 (by kernel_rfl) rfl #[.agg #[.int .i8 AN, .int .i8 AK, .int .u16 AI, .int .u16 AO, .int .u16 AQ, .int .u16 AL, .int .u16 AJ, .int .u16 AR, .int .u16 AP, .int .u16 AM, .int .u16 AE, .int .u16 AD]] rfl gl_ ?_; (with_reducible refine (impl_ValidRoom.calls AN AK AI AO AQ AL AJ AR AP AM AE AD true _ A3.out).mono ?_); rintro e Ia ⟨rfl, hb⟩; refine ⟨_, rfl, ?_⟩; replace AA := kK AA hb; replace AB := kK AB hb; replace HB := kB2 HB AC AF hb; (try clear hb); obtain ⟨BG, Bh, BT, A6, A4, A5, BU, Bp, BV, A9, Ap, Ai, Bd, BC, BY, BQ, Aw, Bt, Bn, Bb, Bo, BJ, Ao, Am⟩ := cz12 Ia AA) | ((with_reducible refine gate_callee (f := 46) rfl ?_); refine goesL_ (some 30) rfl rfl Try.func46 (by kernel_rfl) rfl #[.agg #[.int .i8 AN, .int .i8 AK, .int .u16 AI, .int .u16 AO, .int .u16 AQ, .int .u16 AL, .int .u16 AJ, .int .u16 AR, .int .u16 AP, .int .u16 AM, .int .u16 AE, .int .u16 AD], .slice A1 l1.length c1] rfl gl_ ?_; (with_reducible refine (impl_cellCode.calls k AN AK AI AO AQ AL AJ AR AP AM AE AD _ _ l1 Ac _ ?side1 ?side2 E5.out).mono ?_); (case side1 => exact sQ (Kd.C_below CE.out HB.out)); (case side2 => exact CC.out); rintro e IT ⟨rfl, hb⟩; refine ⟨_, rfl, ?_⟩; replace AA := kK AA hb; replace AB := kK AB hb; replace HB := kB2 HB AC AF hb; (try clear hb); obtain ⟨BF, BE, Bi, Ba, BZ, BM, A7, BB, Bl, Ay, Ah, Aj, BX, Bg, Az, Ax, Br, Bf, BD, Bm, A2, BL, Ar, Aq⟩ := cz12 IT AA) | ((with_reducible refine gate_callee (f := 47) rfl ?_); refine goesL_ (some 38) rfl rfl Try.func47 (by kernel_rfl) rfl #[.agg #[.int .i8 AN, .int .i8 AK, .int .u16 AI, .int .u16 AO, .int .u16 AQ, .int .u16 AL, .int .u16 AJ, .int .u16 AR, .int .u16 AP, .int .u16 AM, .int .u16 AE, .int .u16 AD], .slice A1 l1.length c1] rfl gl_ ?_; (with_reducible refine (impl_stepsAlong.calls k AN AK AI AO AQ AL AJ AR AP AM AE AD _ _ l1 AU Af _ ?side1 ?side2 HP.out).mono ?_); (case side1 => exact sQ (Kd.C_below CE.out HB.out)); (case side2 => exact CC.out); rintro e Ii ⟨CY, rfl, Bz, hb⟩; refine ⟨_, rfl, ?_⟩; have AV := ak (Kd.R_lower Bz (below_size (zH2 HB AC AF))); replace AA := kK AA hb; replace AB := kK AB hb; replace HB := kB2 HB AC AF hb; (try clear hb); (try clear Bz); obtain ⟨DE, CN, HY⟩ := Kd.R_slice AV.out; subst HY) | ((with_reducible refine gate_callee (f := 48) rfl ?_); refine goesL_ (some 48) rfl rfl Try.func48 (by kernel_rfl) rfl #[.slice DE AU.length CN, .int .i64 0] rfl gl_ ?_; (with_reducible refine (slices_Contains_Sint64_int64.calls k _ _ AU 0 false _ ?side1 ?side2 H6.out).mono ?_); (case side1 => exact sC AV); (case side2 => exact sL AV); rintro e w' ⟨rfl, ⟨nd, rfl⟩⟩; refine ⟨_, rfl, ?_⟩) | ((with_reducible refine gate_dst (N := 50) rfl ?_); refine Kd.R_lit (Kd.int .i16) _ 29 ?hg (N := 50) ?hd (xs := ([0] : List Int)) (inner := [.int .i16 0]) (ok := fun _ => True) (okp := fun _ => True) ?hr ?hp (fun _ hk => hk) trivial (Below.refl _ _) (Nat.le_refl _) (by simp) ?_; (case hd => rfl); (case hg => rfl); (case hr => first | (go_simp; done) | (go_simp; rfl)); (case hp => exact (Reps.one (show Kd.M (Kd.int .i16) _ _ _ 0 [.int .i16 0] from rfl) (Reps.none _ _))); intro IB Ih At hb IM CT; clear IM CT; (first | rw [← B8.out] at At | (simp only [Int.reduceToNat] at At; rw [← B8.out] at At)); have CK := ak (Kd.R_lower At (below_size (zH2 HB AC AF))); replace AV := kR AV hb; replace AA := kK AA hb; replace AB := kK AB hb; replace HB := kB2 HB AC AF hb; clear hb At))
 go_loopg [9, 10, 53] k (fun kq v9 ID IC w' => ∃ (AX : Int) (AY : List Int) (AT : Int), v9 = .int .i64 AX ∧ IC = .int .i64 AT ∧ Aside0 (impl_RopeFor.l0 kq AX AY AU (AU.length : Int) AT = some (r1, r2, r3)) ∧ Aside0 (kq ≤ k) ∧ Aside0 (Kd.R (Kd.int .i16) 29 w' w.heap.size (fun _ => True) ID AY) ∧ Aside0 (Kd.R (Kd.int .i64) 2 w' w.heap.size (fun _ => True) (.slice DE AU.length CN) AU) ∧ Aside0 (w'.heap[AW]? = some (.cells #[.int .i8 AN, .int .i8 AK, .int .u16 AI, .int .u16 AO, .int .u16 AQ, .int .u16 AL, .int .u16 AJ, .int .u16 AR, .int .u16 AP, .int .u16 AM, .int .u16 AE, .int .u16 AD] 35 (0, 0))) ∧ Aside0 (w'.heap[AS]? = some (.cells #[.int .i16 0, (.slice none 0 0)] 32 (0, 0))) ∧ Aside0 (Below w.heap.size w w'))
 case atStart => exact ⟨(0), (C2), (0), rfl, rfl, H', ⟨Nat.le_refl _⟩, ⟨(zR CK.out)⟩, ⟨(zR AV.out)⟩, ⟨(zK AA.out)⟩, ⟨(zK AB.out)⟩, ⟨zH2 HB AC AF⟩⟩
 case round => (
 clear H'
 obtain ⟨AX, AY, AT, rfl, rfl, HA, H5, AZ, Ag, AA, AB, HB⟩ := hrel
 cases gk with
 | zero => exact absurd HA.out (by simp [impl_RopeFor.l0])
 | succ k1 => (
 have H := HA.out
 clear HA
 simp only [impl_RopeFor.l0] at H
 by_cases CI : AT < (AU.length : Int)
 {
 rw [if_pos CI] at H
 have CQ : decide (AT < (AU.length : Int)) = true := decide_eq_true CI
 clear CI
 by_cases D8 : 0 ≤ AT
 {
 rw [if_pos D8] at H
 have Hk : decide (0 ≤ AT) = true := decide_eq_true D8
 clear D8
 by_cases GJ : AT < (AU.length : Int)
 {
 rw [if_pos GJ] at H
 have Hv : decide (AT < (AU.length : Int)) = true := decide_eq_true GJ
 clear GJ
 by_cases E0 : AY.length < 70368744177664
 {
 rw [if_pos E0] at H
 have Cj := ak E0
 clear E0
 obtain ⟨DB, Ad⟩ : ∃ y_ : List Int, y_ = (AY ++ [IntKind.i16.wrap (wrap64 (AX + (rd AU AT)))]) := ⟨_, rfl⟩
 replace H : (impl_RopeFor.l0 k1 (wrap64 (AX + (rd AU AT))) DB AU (AU.length : Int) (wrap64 (AT + 1))) = some (r1, r2, r3) := by first | (rw [Ad]; with_reducible exact H) | (have CG := (Option.bind_some _ _).symm.trans H; rw [Ad]; with_reducible exact CG) | (have CG := (Option.bind_some _ _).symm.trans H; with_reducible exact CG) | with_reducible exact H | (rw [Ad]; exact H) | exact H
 have C9 := ak Ad
 clear Ad
 have H' := ak H
 clear H
 have CB : 0 ≤ (AT : Int) := of_decide_eq_true (by assumption)
 have CF : AT < (AU.length : Int) := of_decide_eq_true (by assumption)
 obtain ⟨Hn, HO, FY⟩ := Kd.at_int (Kd.R_reads' Ag.out).2.2 AT CB CF
 cases HO
 replace CB := eq_true CB
 replace CF := eq_true CF
 go_wp2_with (first | ((with_reducible refine gate_builtin (b := .append) (xs := #[.tmp 60, .tmp 63]) rfl ?_); at_builtin; refine Kd.R_append (Kd.int .i16) (w0 := w) w.heap.size rfl (.tmp 60) (.tmp 63) 30 29 (.int .i16 0) 2 rfl Try.underlying30 info29 rfl (by decide) (by omega) u10 AY (IntKind.i16.wrap (wrap64 (AX + (rd AU AT)))) [.int .i16 (IntKind.i16.wrap (wrap64 (AX + (rd AU AT))))] (fun _ => True) (fun _ => False) rfl rfl ?aP (fun _ hk => hk.elim) ?aF ?aO ?aB ?aS ?aL ?_; (case aP => exact rfl); (case aB => exact (zH2 HB AC AF)); (case aF => exact (fun _ _ => trivial)); (case aO => exact (zR AZ.out)); (case aS => exact (below_size (zH2 HB AC AF))); (case aL => have := Cj.out; omega); intro IW If ho hb hg hat; rw [← C9.out] at ho; have Cf := ak (ho); replace Ag := ak (Kd.R_over' (zR Ag.out) (Kd.R_typed (zR AZ.out)) (by decide) hg); replace AA := ak (blk_grown (g := AW) (o := .cells #[.int .i8 AN, .int .i8 AK, .int .u16 AI, .int .u16 AO, .int .u16 AQ, .int .u16 AL, .int .u16 AJ, .int .u16 AR, .int .u16 AP, .int .u16 AM, .int .u16 AE, .int .u16 AD] 35 (0, 0)) (zK AA.out) hg (Kd.R_ne AZ.out AA.out (by decide))); replace AB := ak (blk_grown (g := AS) (o := .cells #[.int .i16 0, .slice none 0 0] 32 (0, 0)) (zK AB.out) hg (Kd.R_ne AZ.out AB.out (by decide))); replace HB := ak (hb); clear AZ ho hb hg hat))
 go_roundg k1
 case measure => have := H5.out; omega
 case rel => exact ⟨(wrap64 (AX + (rd AU AT))), (DB), (wrap64 (AT + 1)), rfl, rfl, H', ⟨by have := H5.out; omega⟩, ⟨(zR Cf.out)⟩, ⟨(zR Ag.out)⟩, ⟨(zK AA.out)⟩, ⟨(zK AB.out)⟩, ⟨zH2 HB AC AF⟩⟩
 }
 · rw [if_neg E0] at H; exact absurd H (by simp)
 }
 · rw [if_neg GJ] at H; exact absurd H (by simp)
 }
 · rw [if_neg D8] at H; exact absurd H (by simp)
 }
 {
 rw [if_neg CI] at H
 have CQ : decide (AT < (AU.length : Int)) = false := decide_eq_false CI
 clear CI
 by_cases CH : AX > 400
 {
 rw [if_pos CH] at H
 have Cc : decide (400 < AX) = true := decide_eq_true CH
 clear CH
 simp only [Option.some.injEq, Prod.mk.injEq] at H
 obtain ⟨rfl, rfl, rfl⟩ := H
 have Hq := AH.out
 have H9 := AG.out
 have G1 : wr.cell? ⟨AS, 0, none⟩ = some (.int .i16 0) := (blk_cell AB.out 0).trans rfl
 have D4 : wr.cell? ⟨AS, 1, none⟩ = some (.slice none 0 0) := (blk_cell AB.out 1).trans rfl
 have Gi := blk_frozen AB.out 0
 have D5 := blk_frozen AB.out 1
 go_wp2
 refine bodyPost_ret (results_ct rfl _ _ AS 32 #[.int .i16 0, .slice none 0 0] (0, 0) _ rfl (by refine blk_put (cs := #[.int .i16 0, .slice none 0 0]) ?_ 1 _ rfl; refine blk_put (cs := #[.int .i16 0, .slice none 0 0]) ?_ 0 _ rfl; exact AB.out) Try.underlying32 rfl (by kernel_rfl)) rfl ?_
 exact ⟨_, rfl, by first | exact Kd.R_nil _ _ _ _ _ | exact Kd.N_nil _ _ _ _ _ | exact Kd.V_nil _ _ _ _ _ | exact Kd.Q_nil _ _ _ _ _ | exact Kd.S_nil _ _ _ _ _, zH2 HB AC AF⟩
 }
 {
 rw [if_neg CH] at H
 have Cc : decide (400 < AX) = false := decide_eq_false CH
 clear CH
 simp only [Option.some.injEq, Prod.mk.injEq] at H
 obtain ⟨rfl, rfl, rfl⟩ := H
 obtain ⟨C1, DF, HQ⟩ := Kd.R_slice AZ.out
 subst HQ
 have Hm := AH.out
 have H4 := AG.out
 have G4 : wr.cell? ⟨AS, 0, none⟩ = some (.int .i16 0) := (blk_cell AB.out 0).trans rfl
 have EL : wr.cell? ⟨AS, 1, none⟩ = some (.slice none 0 0) := (blk_cell AB.out 1).trans rfl
 have En := blk_frozen AB.out 0
 have DP := blk_frozen AB.out 1
 go_wp2
 refine bodyPost_ret (results_ct rfl _ _ AS 32 #[.int .i16 (IntKind.i16.wrap (AX)), .slice C1 AY.length DF] (0, 0) _ rfl (by refine blk_put (cs := #[.int .i16 (IntKind.i16.wrap (AX)), .slice none 0 0]) ?_ 1 _ rfl; refine blk_put (cs := #[.int .i16 0, .slice none 0 0]) ?_ 0 _ rfl; exact AB.out) Try.underlying32 rfl (by kernel_rfl)) rfl ?_
 exact ⟨_, rfl, Kd.R_mono (Kd.R_far (p := ⟨AS, 1, none⟩) (Kd.R_far (p := ⟨AS, 0, none⟩) (Kd.R_types AZ.out AB.out (by decide)) (fun _ hk => hk.2) (.int .i16 (IntKind.i16.wrap (AX)))) (fun _ hk => hk.2) (.slice C1 AY.length DF)) (fun _ hk => trivial), zH2 HB AC AF⟩
 }
 }
 )
 )
 }
 }
 {
 rw [if_neg Bu] at H
 have Bw : (Af == 0) = false := beq_eq_false_iff_ne.mpr Bu
 have CA : (Af != 0) = true := bne_iff_ne.mpr Bu
 simp only [Option.some.injEq, Prod.mk.injEq] at H
 obtain ⟨rfl, rfl, rfl⟩ := H
 go_enter Try.func11, Try.ntmps11
 go_wp2_with (first | ((with_reducible refine gate_dst (N := 2) rfl ?_); refine box_event ?hg (N := 2) ?hd (cs := #[.int .i8 AN, .int .i8 AK, .int .u16 AI, .int .u16 AO, .int .u16 AQ, .int .u16 AL, .int .u16 AJ, .int .u16 AR, .int .u16 AP, .int .u16 AM, .int .u16 AE, .int .u16 AD]) (t := 35) ?hr ?_; (case hd => rfl); (case hg => rfl); (case hr => first | (go_simp; done) | (go_simp; rfl)); intro AW hg Ik hbox hb; have AA := ak (hbox); have Ab := gS HB hg; have AC := gS HB hg; replace HB := kB HB hb; clear hb hbox hg) | ((with_reducible refine gate_dst (N := 4) rfl ?_); refine box_event ?hg (N := 4) ?hd (cs := #[.int .i16 0, .slice none 0 0]) (t := 32) ?hr ?_; (case hd => rfl); (case hg => rfl); (case hr => first | (go_simp; done) | (go_simp; rfl)); intro AS hg IQ hbox hb; have AB := ak (hbox); have Aa := gS1 HB AC hg; have AF := gS1 HB AC hg; have AG := nL AA hg; have AH := nG AA hg; replace AA := kK AA hb; replace HB := kB1 HB AC hb; clear hb hbox hg; have Ht := AG.out; have Hr := AH.out; obtain ⟨F3, Dy, FH, Ek, GP, Gt, Fq, EA, F6, FE, Cy, Ch, DS, Fm, ES, E4, El, Dc, D3, E3, Er, HF, Cw, Ct⟩ := cz12 IQ AA) | ((with_reducible refine gate_callee (f := 45) rfl ?_); refine goesL_ (some 15) rfl rfl Try.func45 (by kernel_rfl) rfl #[.agg #[.int .i8 AN, .int .i8 AK, .int .u16 AI, .int .u16 AO, .int .u16 AQ, .int .u16 AL, .int .u16 AJ, .int .u16 AR, .int .u16 AP, .int .u16 AM, .int .u16 AE, .int .u16 AD]] rfl gl_ ?_; (with_reducible refine (impl_ValidRoom.calls AN AK AI AO AQ AL AJ AR AP AM AE AD true _ A3.out).mono ?_); rintro e IJ ⟨rfl, hb⟩; refine ⟨_, rfl, ?_⟩; replace AA := kK AA hb; replace AB := kK AB hb; replace HB := kB2 HB AC AF hb; (try clear hb); obtain ⟨Ea, Dl, Gm, EX, Db, FP, Gl, Go, Eb, EY, C3, CV, Ew, Fw, DX, Fc, Dn, Ez, G6, Gy, GT, DY, Cs, C8⟩ := cz12 IJ AA) | ((with_reducible refine gate_callee (f := 46) rfl ?_); refine goesL_ (some 30) rfl rfl Try.func46 (by kernel_rfl) rfl #[.agg #[.int .i8 AN, .int .i8 AK, .int .u16 AI, .int .u16 AO, .int .u16 AQ, .int .u16 AL, .int .u16 AJ, .int .u16 AR, .int .u16 AP, .int .u16 AM, .int .u16 AE, .int .u16 AD], .slice A1 l1.length c1] rfl gl_ ?_; (with_reducible refine (impl_cellCode.calls k AN AK AI AO AQ AL AJ AR AP AM AE AD _ _ l1 Ac _ ?side1 ?side2 E5.out).mono ?_); (case side1 => exact sQ (Kd.C_below CE.out HB.out)); (case side2 => exact CC.out); rintro e IG ⟨rfl, hb⟩; refine ⟨_, rfl, ?_⟩; replace AA := kK AA hb; replace AB := kK AB hb; replace HB := kB2 HB AC AF hb; (try clear hb); obtain ⟨FT, FB, ED, DV, G5, FO, Gp, GI, GZ, Ge, Ce, CR, EK, EP, De, Fj, EF, Gf, Dh, DK, F2, D7, Ca, CZ⟩ := cz12 IG AA) | ((with_reducible refine gate_callee (f := 47) rfl ?_); refine goesL_ (some 38) rfl rfl Try.func47 (by kernel_rfl) rfl #[.agg #[.int .i8 AN, .int .i8 AK, .int .u16 AI, .int .u16 AO, .int .u16 AQ, .int .u16 AL, .int .u16 AJ, .int .u16 AR, .int .u16 AP, .int .u16 AM, .int .u16 AE, .int .u16 AD], .slice A1 l1.length c1] rfl gl_ ?_; (with_reducible refine (impl_stepsAlong.calls k AN AK AI AO AQ AL AJ AR AP AM AE AD _ _ l1 AU Af _ ?side1 ?side2 HP.out).mono ?_); (case side1 => exact sQ (Kd.C_below CE.out HB.out)); (case side2 => exact CC.out); rintro e IN ⟨CY, rfl, Bz, hb⟩; refine ⟨_, rfl, ?_⟩; have AV := ak (Kd.R_lower Bz (below_size (zH2 HB AC AF))); replace AA := kK AA hb; replace AB := kK AB hb; replace HB := kB2 HB AC AF hb; (try clear hb); (try clear Bz); obtain ⟨G0, Gz, FV, GM⟩ := cz2 IN AB))
 refine bodyPost_ret (results_ct rfl _ _ AS 32 #[.int .i16 0, .slice none 0 0] (0, 0) _ rfl (by refine blk_put (cs := #[.int .i16 0, .slice none 0 0]) ?_ 1 _ rfl; refine blk_put (cs := #[.int .i16 0, .slice none 0 0]) ?_ 0 _ rfl; exact AB.out) Try.underlying32 rfl (by kernel_rfl)) rfl ?_
 exact ⟨_, rfl, by first | exact Kd.R_nil _ _ _ _ _ | exact Kd.N_nil _ _ _ _ _ | exact Kd.V_nil _ _ _ _ _ | exact Kd.Q_nil _ _ _ _ _ | exact Kd.S_nil _ _ _ _ _, zH2 HB AC AF⟩
 }
 }
 {
 rw [if_neg B9] at H
 have B3 : (Ac == 0) = false := beq_eq_false_iff_ne.mpr B9
 have By : (Ac != 0) = true := bne_iff_ne.mpr B9
 simp only [Option.some.injEq, Prod.mk.injEq] at H
 obtain ⟨rfl, rfl, rfl⟩ := H
 go_enter Try.func11, Try.ntmps11
 go_wp2_with (first | ((with_reducible refine gate_dst (N := 2) rfl ?_); refine box_event ?hg (N := 2) ?hd (cs := #[.int .i8 AN, .int .i8 AK, .int .u16 AI, .int .u16 AO, .int .u16 AQ, .int .u16 AL, .int .u16 AJ, .int .u16 AR, .int .u16 AP, .int .u16 AM, .int .u16 AE, .int .u16 AD]) (t := 35) ?hr ?_; (case hd => rfl); (case hg => rfl); (case hr => first | (go_simp; done) | (go_simp; rfl)); intro AW hg Ic hbox hb; have AA := ak (hbox); have Ab := gS HB hg; have AC := gS HB hg; replace HB := kB HB hb; clear hb hbox hg) | ((with_reducible refine gate_dst (N := 4) rfl ?_); refine box_event ?hg (N := 4) ?hd (cs := #[.int .i16 0, .slice none 0 0]) (t := 32) ?hr ?_; (case hd => rfl); (case hg => rfl); (case hr => first | (go_simp; done) | (go_simp; rfl)); intro AS hg Ib hbox hb; have AB := ak (hbox); have Aa := gS1 HB AC hg; have AF := gS1 HB AC hg; have AG := nL AA hg; have AH := nG AA hg; replace AA := kK AA hb; replace HB := kB1 HB AC hb; clear hb hbox hg; have H0 := AG.out; have Hj := AH.out; obtain ⟨Gx, FG, HG, Ei, EC, FZ, Ft, D9, Eh, D6, Cq, CX, Dg, HD, FW, FA, GA, Fd, GD, Dp, Ef, G2, CM, CP⟩ := cz12 Ib AA) | ((with_reducible refine gate_callee (f := 45) rfl ?_); refine goesL_ (some 15) rfl rfl Try.func45 (by kernel_rfl) rfl #[.agg #[.int .i8 AN, .int .i8 AK, .int .u16 AI, .int .u16 AO, .int .u16 AQ, .int .u16 AL, .int .u16 AJ, .int .u16 AR, .int .u16 AP, .int .u16 AM, .int .u16 AE, .int .u16 AD]] rfl gl_ ?_; (with_reducible refine (impl_ValidRoom.calls AN AK AI AO AQ AL AJ AR AP AM AE AD true _ A3.out).mono ?_); rintro e IX ⟨rfl, hb⟩; refine ⟨_, rfl, ?_⟩; replace AA := kK AA hb; replace AB := kK AB hb; replace HB := kB2 HB AC AF hb; (try clear hb); obtain ⟨DT, Gw, GX, Dd, EZ, Gg, GO, DO, Gv, FU, Cl, Cr, FJ, FS, EB, F7, FM, Ex, Dq, Gb, D2, Df, C4, DH⟩ := cz12 IX AA) | ((with_reducible refine gate_callee (f := 46) rfl ?_); refine goesL_ (some 30) rfl rfl Try.func46 (by kernel_rfl) rfl #[.agg #[.int .i8 AN, .int .i8 AK, .int .u16 AI, .int .u16 AO, .int .u16 AQ, .int .u16 AL, .int .u16 AJ, .int .u16 AR, .int .u16 AP, .int .u16 AM, .int .u16 AE, .int .u16 AD], .slice A1 l1.length c1] rfl gl_ ?_; (with_reducible refine (impl_cellCode.calls k AN AK AI AO AQ AL AJ AR AP AM AE AD _ _ l1 Ac _ ?side1 ?side2 E5.out).mono ?_); (case side1 => exact sQ (Kd.C_below CE.out HB.out)); (case side2 => exact CC.out); rintro e IV ⟨rfl, hb⟩; refine ⟨_, rfl, ?_⟩; replace AA := kK AA hb; replace AB := kK AB hb; replace HB := kB2 HB AC AF hb; (try clear hb); obtain ⟨Fo, FR, Gq, D1⟩ := cz2 IV AB))
 refine bodyPost_ret (results_ct rfl _ _ AS 32 #[.int .i16 0, .slice none 0 0] (0, 0) _ rfl (by refine blk_put (cs := #[.int .i16 0, .slice none 0 0]) ?_ 1 _ rfl; refine blk_put (cs := #[.int .i16 0, .slice none 0 0]) ?_ 0 _ rfl; exact AB.out) Try.underlying32 rfl (by kernel_rfl)) rfl ?_
 exact ⟨_, rfl, by first | exact Kd.R_nil _ _ _ _ _ | exact Kd.N_nil _ _ _ _ _ | exact Kd.V_nil _ _ _ _ _ | exact Kd.Q_nil _ _ _ _ _ | exact Kd.S_nil _ _ _ _ _, zH2 HB AC AF⟩
 }
 }
 }
 }
 {
 replace c4 := Bool.eq_false_iff.mpr c4
 subst c4
 rw [if_neg (show ¬ (false = true) by decide)] at H
 simp only [Option.some.injEq, Prod.mk.injEq] at H
 obtain ⟨rfl, rfl, rfl⟩ := H
 go_enter Try.func11, Try.ntmps11
 go_wp2_with (first | ((with_reducible refine gate_dst (N := 2) rfl ?_); refine box_event ?hg (N := 2) ?hd (cs := #[.int .i8 AN, .int .i8 AK, .int .u16 AI, .int .u16 AO, .int .u16 AQ, .int .u16 AL, .int .u16 AJ, .int .u16 AR, .int .u16 AP, .int .u16 AM, .int .u16 AE, .int .u16 AD]) (t := 35) ?hr ?_; (case hd => rfl); (case hg => rfl); (case hr => first | (go_simp; done) | (go_simp; rfl)); intro AW hg Id hbox hb; have AA := ak (hbox); have Ab := gS HB hg; have AC := gS HB hg; replace HB := kB HB hb; clear hb hbox hg) | ((with_reducible refine gate_dst (N := 4) rfl ?_); refine box_event ?hg (N := 4) ?hd (cs := #[.int .i16 0, .slice none 0 0]) (t := 32) ?hr ?_; (case hd => rfl); (case hg => rfl); (case hr => first | (go_simp; done) | (go_simp; rfl)); intro AS hg IH hbox hb; have AB := ak (hbox); have Aa := gS1 HB AC hg; have AF := gS1 HB AC hg; have AG := nL AA hg; have AH := nG AA hg; replace AA := kK AA hb; replace HB := kB1 HB AC hb; clear hb hbox hg; have Ho := AG.out; have Hu := AH.out; obtain ⟨Fs, Fk, Ep, EW, GS, Gn, D0, EI, Fb, EQ, Cx, C0, FI, GU, G9, GQ, Gc, FN, E6, Dr, FX, F5, Ci, C5⟩ := cz12 IH AA) | ((with_reducible refine gate_callee (f := 45) rfl ?_); refine goesL_ (some 15) rfl rfl Try.func45 (by kernel_rfl) rfl #[.agg #[.int .i8 AN, .int .i8 AK, .int .u16 AI, .int .u16 AO, .int .u16 AQ, .int .u16 AL, .int .u16 AJ, .int .u16 AR, .int .u16 AP, .int .u16 AM, .int .u16 AE, .int .u16 AD]] rfl gl_ ?_; (with_reducible refine (impl_ValidRoom.calls AN AK AI AO AQ AL AJ AR AP AM AE AD false _ A3.out).mono ?_); rintro e IL ⟨rfl, hb⟩; refine ⟨_, rfl, ?_⟩; replace AA := kK AA hb; replace AB := kK AB hb; replace HB := kB2 HB AC AF hb; (try clear hb); obtain ⟨Fn, Fp, GL, Fz⟩ := cz2 IL AB))
 refine bodyPost_ret (results_ct rfl _ _ AS 32 #[.int .i16 0, .slice none 0 0] (0, 0) _ rfl (by refine blk_put (cs := #[.int .i16 0, .slice none 0 0]) ?_ 1 _ rfl; refine blk_put (cs := #[.int .i16 0, .slice none 0 0]) ?_ 0 _ rfl; exact AB.out) Try.underlying32 rfl (by kernel_rfl)) rfl ?_
 exact ⟨_, rfl, by first | exact Kd.R_nil _ _ _ _ _ | exact Kd.N_nil _ _ _ _ _ | exact Kd.V_nil _ _ _ _ _ | exact Kd.Q_nil _ _ _ _ _ | exact Kd.S_nil _ _ _ _ _, zH2 HB AC AF⟩
 }
end Go.Proofs.Ytooidjdgfoioiaa.P
