-- Printed by wip/print (my turned copy of the kit's print) out of the translation; Lean checks it.
import Derived.Test.YtooidjdgfoioiaaP0
import Derived.Test.YtooidjdgfoioiaaP21
namespace Go.Proofs.Ytooidjdgfoioiaa.P
open Go.RowKit Go.Proofs.YtooidjdgfoioiaaW.PrintWords Go.Proofs.YtooidjdgfoioiaaW.PrintLast Go.Proofs.YtooidjdgfoioiaaW.PrintMore
attribute [local go_sem] max2_int min2_int max_two min_two max_three min_three max_four min_four   -- for this text's walks alone
set_option linter.unusedVariables false
set_option linter.unusedSimpArgs false

/-! ### impl_CanStand_1: function 57 -/
def impl_CanStand_1.f (a0 : Int) : Option (Bool) := some (decide (a0 < 0))
set_option maxHeartbeats 8000000 in
set_option maxRecDepth 100000 in
theorem impl_CanStand_1.calls (a0 : Int) (r : Bool) (w : World) (h : impl_CanStand_1.f a0 = some r) :
    Calls Try.prog 57 #[.int .i64 a0] w fun e w' => e = .returned (.bool r) ∧ Drawn0 w w' := by
 have H := h
 unfold impl_CanStand_1.f at H
 clear h
 obtain rfl := Option.some.inj H
 go_enter Try.func57, Try.ntmps57
 go_wp2
 go_ret
 exact ⟨by first | rfl | (simp; done) | (simp [*]; done), by repeat (first | exact Drawn0.refl _ | apply Drawn0.step)⟩
/-! ### slices_IndexFunc_Sint64_int64_at_CanStand_1: function 81 -/
def slices_IndexFunc_Sint64_int64_at_CanStand_1.l0 : Nat → List Int → Int → Int → Option (Int)
  | 0, _, _, _ => none
  | k + 1, x0, x7, x8 => if x8 < x7 then (if 0 ≤ x8 then (if x8 < (x0.length : Int) then ((impl_CanStand_1.f (rd x0 x8)).bind fun AA => (if AA = true then (some x8) else (slices_IndexFunc_Sint64_int64_at_CanStand_1.l0 k x0 x7 (wrap64 (x8 + 1))))) else (none)) else (none)) else (some (-1))
def slices_IndexFunc_Sint64_int64_at_CanStand_1.f (k : Nat) (l0 : List Int)  : Option (Int) := slices_IndexFunc_Sint64_int64_at_CanStand_1.l0 k l0 (l0.length : Int) 0
set_option maxHeartbeats 8000000 in
set_option maxRecDepth 100000 in
theorem slices_IndexFunc_Sint64_int64_at_CanStand_1.calls (k : Nat) (A0 : Option Addr) (c0 : Nat) (l0 : List Int)  (r : Int) (w : World) (AJ : Kd.C (Kd.int .i64) w A0 l0.length l0) (AI : l0.length ≤ c0) (h : slices_IndexFunc_Sint64_int64_at_CanStand_1.f k l0 = some r) :
    Calls Try.prog 81 #[.slice A0 l0.length c0, .func (.func 57) #[] #[]] w fun e w' => e = .returned (.int .i64 r) ∧ Drawn0 w w' := by
 have AM := ak AJ
 have AP := ak AI
 clear AJ AI
 have H := h
 unfold slices_IndexFunc_Sint64_int64_at_CanStand_1.f at H
 clear h
 have H' := ak H
 clear H
 go_enter Try.func81, Try.ntmps81
 go_wp2
 go_loopg [8] k (fun kq v8 w' => ∃ (AA : Int), v8 = .int .i64 AA ∧ Aside0 (slices_IndexFunc_Sint64_int64_at_CanStand_1.l0 kq l0 (l0.length : Int) AA = some r) ∧ Aside0 (kq ≤ k) ∧ Drawn0 w w')
 case atStart => exact ⟨(0), rfl, H', ⟨Nat.le_refl _⟩, by repeat (first | exact Drawn0.refl _ | apply Drawn0.step)⟩
 case round => (
 clear H'
 obtain ⟨AA, rfl, HA, AL, ⟨m1, rfl⟩⟩ := hrel
 cases gk with
 | zero => exact absurd HA.out (by simp [slices_IndexFunc_Sint64_int64_at_CanStand_1.l0])
 | succ k1 => (
 have H := HA.out
 clear HA
 simp only [slices_IndexFunc_Sint64_int64_at_CanStand_1.l0] at H
 by_cases c3 : AA < (l0.length : Int)
 {
 rw [if_pos c3] at H
 have AH : decide (AA < (l0.length : Int)) = true := decide_eq_true c3
 clear c3
 by_cases c4 : 0 ≤ AA
 {
 rw [if_pos c4] at H
 have AO : decide (0 ≤ AA) = true := decide_eq_true c4
 clear c4
 by_cases c5 : AA < (l0.length : Int)
 {
 rw [if_pos c5] at H
 have AN : decide (AA < (l0.length : Int)) = true := decide_eq_true c5
 clear c5
 replace H := Option.bind_eq_some_iff.mp H
 obtain ⟨AG, AK, H⟩ := H
 have A6 := ak AK
 clear AK
 by_cases c7 : AG = true
 {
 subst c7
 rw [if_pos rfl] at H
 obtain rfl := Option.some.inj H
 have AC : 0 ≤ (AA : Int) := of_decide_eq_true (by assumption)
 have AB : AA < (l0.length : Int) := of_decide_eq_true (by assumption)
 obtain ⟨AF, AE, AD⟩ := Kd.at_int AM.out AA AC AB
 cases AE
 replace AC := eq_true AC
 replace AB := eq_true AB
 go_wp2_with (first | ((with_reducible refine gate_tmpcall (t := 11) rfl ?_); refine goesF_ (some 16) rfl rfl Try.func57 (by kernel_rfl) rfl #[] #[.int .i64 (rd l0 AA)] rfl (by first | rfl | (go_simp; done) | (go_simp; rfl)) (by (try simp only [List.map_toArray, List.map_cons, List.map_nil]); first | done | rfl | (simp only [List.length_drop, List.length_take]; rfl) | (go_simp; done)) ?_; (with_reducible refine (impl_CanStand_1.calls (rd l0 AA) true _ A6.out).mono ?_); rintro e w' ⟨rfl, ⟨nd, rfl⟩⟩; refine ⟨_, rfl, ?_⟩))
 go_ret
 exact ⟨by first | rfl | (simp; done) | (simp [*]; done), by repeat (first | exact Drawn0.refl _ | apply Drawn0.step)⟩
 }
 {
 replace c7 := Bool.eq_false_iff.mpr c7
 subst c7
 rw [if_neg (show ¬ (false = true) by decide)] at H
 have H' := ak H
 clear H
 have AC : 0 ≤ (AA : Int) := of_decide_eq_true (by assumption)
 have AB : AA < (l0.length : Int) := of_decide_eq_true (by assumption)
 obtain ⟨AF, AE, AD⟩ := Kd.at_int AM.out AA AC AB
 cases AE
 replace AC := eq_true AC
 replace AB := eq_true AB
 go_wp2_with (first | ((with_reducible refine gate_tmpcall (t := 11) rfl ?_); refine goesF_ (some 16) rfl rfl Try.func57 (by kernel_rfl) rfl #[] #[.int .i64 (rd l0 AA)] rfl (by first | rfl | (go_simp; done) | (go_simp; rfl)) (by (try simp only [List.map_toArray, List.map_cons, List.map_nil]); first | done | rfl | (simp only [List.length_drop, List.length_take]; rfl) | (go_simp; done)) ?_; (with_reducible refine (impl_CanStand_1.calls (rd l0 AA) false _ A6.out).mono ?_); rintro e w' ⟨rfl, ⟨nd, rfl⟩⟩; refine ⟨_, rfl, ?_⟩))
 go_roundg k1
 case measure => have := AL.out; omega
 case rel => exact ⟨(wrap64 (AA + 1)), rfl, H', ⟨by have := AL.out; omega⟩, by repeat (first | exact Drawn0.refl _ | apply Drawn0.step)⟩
 }
 }
 · rw [if_neg c5] at H; exact absurd H (by simp)
 }
 · rw [if_neg c4] at H; exact absurd H (by simp)
 }
 {
 rw [if_neg c3] at H
 have AH : decide (AA < (l0.length : Int)) = false := decide_eq_false c3
 clear c3
 obtain rfl := Option.some.inj H
 go_wp2
 go_ret
 exact ⟨by first | rfl | (simp; done) | (simp [*]; done), by repeat (first | exact Drawn0.refl _ | apply Drawn0.step)⟩
 }
 )
 )
/-! ### slices_ContainsFunc_Sint64_int64_at_CanStand_1: function 56 -/
def slices_ContainsFunc_Sint64_int64_at_CanStand_1.f (k : Nat) (l0 : List Int)  : Option (Bool) := (slices_IndexFunc_Sint64_int64_at_CanStand_1.f k l0).bind fun AA => (some (decide (AA ≥ 0)))
set_option maxHeartbeats 8000000 in
set_option maxRecDepth 100000 in
theorem slices_ContainsFunc_Sint64_int64_at_CanStand_1.calls (k : Nat) (A0 : Option Addr) (c0 : Nat) (l0 : List Int)  (r : Bool) (w : World) (AD : Kd.C (Kd.int .i64) w A0 l0.length l0) (AC : l0.length ≤ c0) (h : slices_ContainsFunc_Sint64_int64_at_CanStand_1.f k l0 = some r) :
    Calls Try.prog 56 #[.slice A0 l0.length c0, .func (.func 57) #[] #[]] w fun e w' => e = .returned (.bool r) ∧ Drawn0 w w' := by
 have AF := ak AD
 have AE := ak AC
 clear AD AC
 have H := h
 unfold slices_ContainsFunc_Sint64_int64_at_CanStand_1.f at H
 clear h
 replace H := Option.bind_eq_some_iff.mp H
 obtain ⟨AA, AB, H⟩ := H
 have A3 := ak AB
 clear AB
 obtain rfl := Option.some.inj H
 go_enter Try.func56, Try.ntmps56
 go_wp2_with (first | ((with_reducible refine gate_callee (f := 81) rfl ?_); refine goesL_ (some 7) rfl rfl Try.func81 (by kernel_rfl) rfl #[.slice A0 l0.length c0, .func (.func 57) #[] #[]] rfl gl_ ?_; (with_reducible refine (slices_IndexFunc_Sint64_int64_at_CanStand_1.calls k _ _ l0  AA _ ?side1 ?side2 A3.out).mono ?_); (case side1 => exact sD AF); (case side2 => exact AE.out); rintro e w' ⟨rfl, ⟨nd, rfl⟩⟩; refine ⟨_, rfl, ?_⟩))
 go_ret
 exact ⟨by first | rfl | (simp; done) | (simp [*]; done), by repeat (first | exact Drawn0.refl _ | apply Drawn0.step)⟩
/-! ### impl_CanStand: function 22 -/
def impl_CanStand.f (k : Nat) (AD : Int) (AF : Int) (AN : Int) (AH : Int) (AI : Int) (AO : Int) (AM : Int) (AE : Int) (AP : Int) (AK : Int) (AB : Int) (AC : Int) (AJ : Int) (AG : List Int) (l2 : List (S65)) (l3 : List (S62)) : Option (Bool × Int) := (impl_SlacksOf.f k AD AF AN AH AI AO AM AE AP AK AB AC AJ AG l2 l3).bind fun AA => (if AA.2 = 0 then ((slices_ContainsFunc_Sint64_int64_at_CanStand_1.f k AA.1).bind fun AL => (some (!AL, 0))) else (some (false, AA.2)))
set_option maxHeartbeats 8000000 in
set_option maxRecDepth 100000 in
theorem impl_CanStand.calls (k : Nat) (AR : Int) (AL : Int) (AQ : Int) (AJ : Int) (AM : Int) (AO : Int) (AT : Int) (AS : Int) (AK : Int) (AP : Int) (AF : Int) (AE : Int) (AN : Int) (AX : Option Addr) (AW : Nat) (AG : List Int) (A2 : Option Addr) (c2 : Nat) (l2 : List (S65)) (A3 : Option Addr) (c3 : Nat) (l3 : List (S62)) (r1 : Bool) (r2 : Int) (w : World) (Ac : Kd.C (Kd.int .i16) w AX AG.length AG) (AZ : AG.length ≤ AW) (Bs : Kd.C k65 w A2 l2.length l2) (Bq : l2.length ≤ c2) (Bu : Kd.C k62 w A3 l3.length l3) (Br : l3.length ≤ c3) (h : impl_CanStand.f k AR AL AQ AJ AM AO AT AS AK AP AF AE AN AG l2 l3 = some (r1, r2)) :
    Calls Try.prog 22 #[.agg #[.int .i8 AR, .int .i8 AL, .int .u16 AQ, .int .u16 AJ, .int .u16 AM, .int .u16 AO, .int .u16 AT, .int .u16 AS, .int .u16 AK, .int .u16 AP, .int .u16 AF, .int .u16 AE], .agg #[.int .i16 AN, .slice AX AG.length AW], .slice A2 l2.length c2, .slice A3 l3.length c3] w fun e w' => e = .returned (.tuple #[.bool r1, .int .i64 r2]) ∧ Below w.heap.size w w' := by
 have B8 := Try.underlying35
 have B9 := Try.underlying32
 have Ab := ak Ac
 have Aa := ak AZ
 clear Ac AZ
 have B3 := ak Bs
 have Bt := ak Bq
 clear Bs Bq
 have Bz := ak Bu
 have B0 := ak Br
 clear Bu Br
 have HB := ak (Below.refl w.heap.size w)
 have H := h
 unfold impl_CanStand.f at H
 clear h
 replace H := Option.bind_eq_some_iff.mp H
 obtain ⟨⟨AY, AU⟩, Bn, H⟩ := H
 have A5 := ak Bn
 clear Bn
 by_cases c6 : AU = 0
 {
 rw [if_pos c6] at H
 have Bi : (AU == 0) = true := beq_iff_eq.mpr c6
 have Bj : (AU != 0) = false := bne_eq_false_iff_eq.mpr c6
 clear c6
 replace H := Option.bind_eq_some_iff.mp H
 obtain ⟨Bk, Bo, H⟩ := H
 have A7 := ak Bo
 clear Bo
 simp only [Option.some.injEq, Prod.mk.injEq] at H
 obtain ⟨rfl, rfl⟩ := H
 go_enter Try.func22, Try.ntmps22
 go_wp2_with (first | ((with_reducible refine gate_dst (N := 4) rfl ?_); refine box_event ?hg (N := 4) ?hd (cs := #[.int .i8 AR, .int .i8 AL, .int .u16 AQ, .int .u16 AJ, .int .u16 AM, .int .u16 AO, .int .u16 AT, .int .u16 AS, .int .u16 AK, .int .u16 AP, .int .u16 AF, .int .u16 AE]) (t := 35) ?hr ?_; (case hd => rfl); (case hg => rfl); (case hr => first | (go_simp; done) | (go_simp; rfl)); intro Al hg w8 hbox hb; have AA := ak (hbox); have Aj := gS HB hg; have AB := gS HB hg; replace HB := kB HB hb; clear hb hbox hg) | ((with_reducible refine gate_dst (N := 5) rfl ?_); refine box_event ?hg (N := 5) ?hd (cs := #[.int .i16 AN, .slice AX AG.length AW]) (t := 32) ?hr ?_; (case hd => rfl); (case hg => rfl); (case hr => first | (go_simp; done) | (go_simp; rfl)); intro Ag hg w9 hbox hb; have AH := ak (hbox); have Ai := gS1 HB AB hg; have AI := gS1 HB AB hg; have AC := nL AA hg; have AD := nG AA hg; replace AA := kK AA hb; replace HB := kB1 HB AB hb; clear hb hbox hg; have Bv := AC.out; have By := AD.out; obtain ⟨BF, BX, A1, BL, Ay, BG, Bb, A8, At, BM, An, Ae, Aw, A6, Aq, BN, Au, BW, BB, BE, A9, Be, Af, Ad⟩ := cz12 w9 AA; obtain ⟨BY, Bf, Ax, BH⟩ := cz2 w9 AH) | ((with_reducible refine gate_callee (f := 31) rfl ?_); refine goesL_ (some 17) rfl rfl Try.func31 (by kernel_rfl) rfl #[.agg #[.int .i8 AR, .int .i8 AL, .int .u16 AQ, .int .u16 AJ, .int .u16 AM, .int .u16 AO, .int .u16 AT, .int .u16 AS, .int .u16 AK, .int .u16 AP, .int .u16 AF, .int .u16 AE], .agg #[.int .i16 AN, .slice AX AG.length AW], .slice A2 l2.length c2, .slice A3 l3.length c3] rfl gl_ ?_; (with_reducible refine (impl_SlacksOf.calls k AR AL AQ AJ AM AO AT AS AK AP AF AE AN _ _ AG _ _ l2 _ _ l3 AY AU _ ?side1 ?side2 ?side3 ?side4 ?side5 ?side6 A5.out).mono ?_); (case side1 => exact sQ (Kd.C_below Ab.out HB.out)); (case side2 => exact Aa.out); (case side3 => exact sQ (Kd.C_below B3.out HB.out)); (case side4 => exact Bt.out); (case side5 => exact sQ (Kd.C_below Bz.out HB.out)); (case side6 => exact B0.out); rintro e CC ⟨Bl, rfl, Ak, hb⟩; refine ⟨_, rfl, ?_⟩; have AV := ak (Kd.R_lower Ak (below_size (zH2 HB AB AI))); replace AA := kK AA hb; replace AH := kK AH hb; replace HB := kB2 HB AB AI hb; (try clear hb); (try clear Ak); obtain ⟨Bm, Bg, Bh⟩ := Kd.R_slice AV.out; subst Bh) | ((with_reducible refine gate_callee (f := 56) rfl ?_); refine goesL_ (some 24) rfl rfl Try.func56 (by kernel_rfl) rfl #[.slice Bm AY.length Bg, .func (.func 57) #[] #[]] rfl gl_ ?_; (with_reducible refine (slices_ContainsFunc_Sint64_int64_at_CanStand_1.calls k _ _ AY  Bk _ ?side1 ?side2 A7.out).mono ?_); (case side1 => exact sC AV); (case side2 => exact sL AV); rintro e w' ⟨rfl, ⟨nd, rfl⟩⟩; refine ⟨_, rfl, ?_⟩))
 go_ret2
 exact ⟨rfl, zH2 HB AB AI⟩
 }
 {
 rw [if_neg c6] at H
 have Bi : (AU == 0) = false := beq_eq_false_iff_ne.mpr c6
 have Bj : (AU != 0) = true := bne_iff_ne.mpr c6
 simp only [Option.some.injEq, Prod.mk.injEq] at H
 obtain ⟨rfl, rfl⟩ := H
 go_enter Try.func22, Try.ntmps22
 go_wp2_with (first | ((with_reducible refine gate_dst (N := 4) rfl ?_); refine box_event ?hg (N := 4) ?hd (cs := #[.int .i8 AR, .int .i8 AL, .int .u16 AQ, .int .u16 AJ, .int .u16 AM, .int .u16 AO, .int .u16 AT, .int .u16 AS, .int .u16 AK, .int .u16 AP, .int .u16 AF, .int .u16 AE]) (t := 35) ?hr ?_; (case hd => rfl); (case hg => rfl); (case hr => first | (go_simp; done) | (go_simp; rfl)); intro Al hg CB hbox hb; have AA := ak (hbox); have Aj := gS HB hg; have AB := gS HB hg; replace HB := kB HB hb; clear hb hbox hg) | ((with_reducible refine gate_dst (N := 5) rfl ?_); refine box_event ?hg (N := 5) ?hd (cs := #[.int .i16 AN, .slice AX AG.length AW]) (t := 32) ?hr ?_; (case hd => rfl); (case hg => rfl); (case hr => first | (go_simp; done) | (go_simp; rfl)); intro Ag hg Bp hbox hb; have AH := ak (hbox); have Ai := gS1 HB AB hg; have AI := gS1 HB AB hg; have AC := nL AA hg; have AD := nG AA hg; replace AA := kK AA hb; replace HB := kB1 HB AB hb; clear hb hbox hg; have Bw := AC.out; have Bx := AD.out; obtain ⟨BO, BP, BQ, Az, Ba, BR, BT, BV, Bd, A0, Ah, Am, BC, As, A4, BD, BI, Av, Ar, BU, BA, BZ, Ap, Ao⟩ := cz12 Bp AA; obtain ⟨Bc, BK, BS, BJ⟩ := cz2 Bp AH) | ((with_reducible refine gate_callee (f := 31) rfl ?_); refine goesL_ (some 17) rfl rfl Try.func31 (by kernel_rfl) rfl #[.agg #[.int .i8 AR, .int .i8 AL, .int .u16 AQ, .int .u16 AJ, .int .u16 AM, .int .u16 AO, .int .u16 AT, .int .u16 AS, .int .u16 AK, .int .u16 AP, .int .u16 AF, .int .u16 AE], .agg #[.int .i16 AN, .slice AX AG.length AW], .slice A2 l2.length c2, .slice A3 l3.length c3] rfl gl_ ?_; (with_reducible refine (impl_SlacksOf.calls k AR AL AQ AJ AM AO AT AS AK AP AF AE AN _ _ AG _ _ l2 _ _ l3 AY AU _ ?side1 ?side2 ?side3 ?side4 ?side5 ?side6 A5.out).mono ?_); (case side1 => exact sQ (Kd.C_below Ab.out HB.out)); (case side2 => exact Aa.out); (case side3 => exact sQ (Kd.C_below B3.out HB.out)); (case side4 => exact Bt.out); (case side5 => exact sQ (Kd.C_below Bz.out HB.out)); (case side6 => exact B0.out); rintro e CA ⟨Bl, rfl, Ak, hb⟩; refine ⟨_, rfl, ?_⟩; have AV := ak (Kd.R_lower Ak (below_size (zH2 HB AB AI))); replace AA := kK AA hb; replace AH := kK AH hb; replace HB := kB2 HB AB AI hb; (try clear hb); (try clear Ak)))
 go_ret2
 exact ⟨rfl, zH2 HB AB AI⟩
 }
end Go.Proofs.Ytooidjdgfoioiaa.P
