-- Printed by wip/print (my turned copy of the kit's print) out of the translation; Lean checks it.
import Derived.Test.YtooidjdgfoioiaaP0
import Derived.Test.YtooidjdgfoioiaaP6
namespace Go.Proofs.Ytooidjdgfoioiaa.P
open Go.RowKit Go.Proofs.YtooidjdgfoioiaaW.PrintWords Go.Proofs.YtooidjdgfoioiaaW.PrintLast Go.Proofs.YtooidjdgfoioiaaW.PrintMore
attribute [local go_sem] max2_int min2_int max_two min_two max_three min_three max_four min_four   -- for this text's walks alone
set_option linter.unusedVariables false
set_option linter.unusedSimpArgs false

/-! ### slices_IndexFunc_Spot_at_cellCode_1: function 90 -/
def slices_IndexFunc_Spot_at_cellCode_1.l0 : Nat → List (S62) → Int → Int → Int → Int → Int → Int → Int → Int → Int → Int → Int → Int → Int → Int → Option (Int)
  | 0, _, _, _, _, _, _, _, _, _, _, _, _, _, _, _ => none
  | k + 1, x0, x7, x8, AC, AL, AE, AK, AH, AI, AB, AJ, AD, AF, AG, AA => if x8 < x7 then (if 0 ≤ x8 then (if x8 < (x0.length : Int) then ((impl_cellCode_1.f ((rd_T62 x0 x8).f0) ((rd_T62 x0 x8).f1) AC AL AE AK AH AI AB AJ AD AF AG AA).bind fun AM => (if AM = true then (some x8) else (slices_IndexFunc_Spot_at_cellCode_1.l0 k x0 x7 (wrap64 (x8 + 1)) AC AL AE AK AH AI AB AJ AD AF AG AA))) else (none)) else (none)) else (some (-1))
def slices_IndexFunc_Spot_at_cellCode_1.f (k : Nat) (l0 : List (S62)) (AI : Int) (AF : Int) (AH : Int) (AL : Int) (AE : Int) (AD : Int) (AG : Int) (AK : Int) (AC : Int) (AJ : Int) (AA : Int) (AB : Int) : Option (Int) := slices_IndexFunc_Spot_at_cellCode_1.l0 k l0 (l0.length : Int) 0 AI AF AH AL AE AD AG AK AC AJ AA AB
set_option maxHeartbeats 8000000 in
set_option maxRecDepth 100000 in
theorem slices_IndexFunc_Spot_at_cellCode_1.calls (k : Nat) (A0 : Option Addr) (c0 : Nat) (l0 : List (S62)) (AS : Nat) (AK : Int) (AN : Int) (AO : Int) (AM : Int) (AG : Int) (AJ : Int) (AH : Int) (AL : Int) (AF : Int) (AI : Int) (AE : Int) (AD : Int) (r : Int) (w : World) (AZ : Kd.C k62 w A0 l0.length l0) (AY : l0.length ≤ c0) (AV : w.heap[AS]? = some (.cells #[.int .i8 AK, .int .i8 AN, .int .u16 AO, .int .u16 AM, .int .u16 AG, .int .u16 AJ, .int .u16 AH, .int .u16 AL, .int .u16 AF, .int .u16 AI, .int .u16 AE, .int .u16 AD] 35 (0, 0))) (h : slices_IndexFunc_Spot_at_cellCode_1.f k l0 AK AN AO AM AG AJ AH AL AF AI AE AD = some r) :
    Calls Try.prog 90 #[.slice A0 l0.length c0, .func (.func 77) #[] #[.pointer (some ⟨AS, 0, none⟩)]] w fun e w' => e = .returned (.int .i64 r) ∧ Below w.heap.size w w' := by
 have Ae := Try.underlying62
 have Ac := ak AZ
 have Ag := ak AY
 clear AZ AY
 have AP := ak AV
 clear AV
 have HB := ak (Below.refl w.heap.size w)
 have H := h
 unfold slices_IndexFunc_Spot_at_cellCode_1.f at H
 clear h
 have H' := ak H
 clear H
 go_enter Try.func90, Try.ntmps90
 go_wp2
 go_loopg [8] k (fun kq v8 w' => ∃ (AA : Int), v8 = .int .i64 AA ∧ Aside0 (slices_IndexFunc_Spot_at_cellCode_1.l0 kq l0 (l0.length : Int) AA AK AN AO AM AG AJ AH AL AF AI AE AD = some r) ∧ Aside0 (kq ≤ k) ∧ Aside0 (w'.heap[AS]? = some (.cells #[.int .i8 AK, .int .i8 AN, .int .u16 AO, .int .u16 AM, .int .u16 AG, .int .u16 AJ, .int .u16 AH, .int .u16 AL, .int .u16 AF, .int .u16 AI, .int .u16 AE, .int .u16 AD] 35 (0, 0))) ∧ Aside0 (Below w.heap.size w w'))
 case atStart => exact ⟨(0), rfl, H', ⟨Nat.le_refl _⟩, ⟨(zK AP.out)⟩, ⟨zB HB.out⟩⟩
 case round => (
 clear H'
 obtain ⟨AA, rfl, HA, Ab, AP, HB⟩ := hrel
 cases gk with
 | zero => exact absurd HA.out (by simp [slices_IndexFunc_Spot_at_cellCode_1.l0])
 | succ k1 => (
 have H := HA.out
 clear HA
 simp only [slices_IndexFunc_Spot_at_cellCode_1.l0] at H
 by_cases c3 : AA < (l0.length : Int)
 {
 rw [if_pos c3] at H
 have AX : decide (AA < (l0.length : Int)) = true := decide_eq_true c3
 clear c3
 by_cases c4 : 0 ≤ AA
 {
 rw [if_pos c4] at H
 have Af : decide (0 ≤ AA) = true := decide_eq_true c4
 clear c4
 by_cases c5 : AA < (l0.length : Int)
 {
 rw [if_pos c5] at H
 have Ad : decide (AA < (l0.length : Int)) = true := decide_eq_true c5
 clear c5
 replace H := Option.bind_eq_some_iff.mp H
 obtain ⟨AW, Aa, H⟩ := H
 have A6 := ak Aa
 clear Aa
 by_cases c7 : AW = true
 {
 subst c7
 rw [if_pos rfl] at H
 obtain rfl := Option.some.inj H
 have AQ : 0 ≤ (AA : Int) := of_decide_eq_true (by assumption)
 have AR : AA < (l0.length : Int) := of_decide_eq_true (by assumption)
 obtain ⟨AU, AT, AB, AC⟩ := at_T62 Ac.out AA AQ AR
 cases AT
 replace AB := (HB.out.cell (World.block_lt_of_cell? w _ AB)).trans AB
 replace AC := (HB.out.cell (World.block_lt_of_cell? w _ AC)).trans AC
 replace AQ := eq_true AQ
 replace AR := eq_true AR
 go_wp2_with (first | ((with_reducible refine gate_tmpcall (t := 11) rfl ?_); refine goesF_ (some 16) rfl rfl Try.func77 (by kernel_rfl) rfl #[.pointer (some ⟨AS, 0, none⟩)] #[.agg #[.int .i8 ((rd_T62 l0 AA).f0), .int .i8 ((rd_T62 l0 AA).f1)], .pointer (some ⟨AS, 0, none⟩)] rfl (by first | rfl | (go_simp; done) | (go_simp; rfl)) (by (try simp only [List.map_toArray, List.map_cons, List.map_nil]); first | done | rfl | (simp only [List.length_drop, List.length_take]; rfl) | (go_simp; done)) ?_; (with_reducible refine (impl_cellCode_1.calls ((rd_T62 l0 AA).f0) ((rd_T62 l0 AA).f1) AS AK AN AO AM AG AJ AH AL AF AI AE AD true _ ?side1 A6.out).mono ?_); (case side1 => exact (zK AP.out)); rintro e w8 ⟨rfl, hb⟩; refine ⟨_, rfl, ?_⟩; replace AP := kK AP hb; replace HB := kB HB hb; (try clear hb)))
 go_ret
 exact ⟨rfl, zB HB.out⟩
 }
 {
 replace c7 := Bool.eq_false_iff.mpr c7
 subst c7
 rw [if_neg (show ¬ (false = true) by decide)] at H
 have H' := ak H
 clear H
 have AQ : 0 ≤ (AA : Int) := of_decide_eq_true (by assumption)
 have AR : AA < (l0.length : Int) := of_decide_eq_true (by assumption)
 obtain ⟨AU, AT, AB, AC⟩ := at_T62 Ac.out AA AQ AR
 cases AT
 replace AB := (HB.out.cell (World.block_lt_of_cell? w _ AB)).trans AB
 replace AC := (HB.out.cell (World.block_lt_of_cell? w _ AC)).trans AC
 replace AQ := eq_true AQ
 replace AR := eq_true AR
 go_wp2_with (first | ((with_reducible refine gate_tmpcall (t := 11) rfl ?_); refine goesF_ (some 16) rfl rfl Try.func77 (by kernel_rfl) rfl #[.pointer (some ⟨AS, 0, none⟩)] #[.agg #[.int .i8 ((rd_T62 l0 AA).f0), .int .i8 ((rd_T62 l0 AA).f1)], .pointer (some ⟨AS, 0, none⟩)] rfl (by first | rfl | (go_simp; done) | (go_simp; rfl)) (by (try simp only [List.map_toArray, List.map_cons, List.map_nil]); first | done | rfl | (simp only [List.length_drop, List.length_take]; rfl) | (go_simp; done)) ?_; (with_reducible refine (impl_cellCode_1.calls ((rd_T62 l0 AA).f0) ((rd_T62 l0 AA).f1) AS AK AN AO AM AG AJ AH AL AF AI AE AD false _ ?side1 A6.out).mono ?_); (case side1 => exact (zK AP.out)); rintro e w9 ⟨rfl, hb⟩; refine ⟨_, rfl, ?_⟩; replace AP := kK AP hb; replace HB := kB HB hb; (try clear hb)))
 go_roundg k1
 case measure => have := Ab.out; omega
 case rel => exact ⟨(wrap64 (AA + 1)), rfl, H', ⟨by have := Ab.out; omega⟩, ⟨(zK AP.out)⟩, ⟨zB HB.out⟩⟩
 }
 }
 · rw [if_neg c5] at H; exact absurd H (by simp)
 }
 · rw [if_neg c4] at H; exact absurd H (by simp)
 }
 {
 rw [if_neg c3] at H
 have AX : decide (AA < (l0.length : Int)) = false := decide_eq_false c3
 clear c3
 obtain rfl := Option.some.inj H
 go_wp2
 go_ret
 exact ⟨rfl, zB HB.out⟩
 }
 )
 )
/-! ### slices_ContainsFunc_Spot_at_cellCode_1: function 76 -/
def slices_ContainsFunc_Spot_at_cellCode_1.f (k : Nat) (l0 : List (S62)) (AI : Int) (AF : Int) (AH : Int) (AL : Int) (AE : Int) (AD : Int) (AG : Int) (AK : Int) (AC : Int) (AJ : Int) (AA : Int) (AB : Int) : Option (Bool) := (slices_IndexFunc_Spot_at_cellCode_1.f k l0 AI AF AH AL AE AD AG AK AC AJ AA AB).bind fun AM => (some (decide (AM ≥ 0)))
set_option maxHeartbeats 8000000 in
set_option maxRecDepth 100000 in
theorem slices_ContainsFunc_Spot_at_cellCode_1.calls (k : Nat) (A0 : Option Addr) (c0 : Nat) (l0 : List (S62)) (AO : Nat) (AH : Int) (AK : Int) (AL : Int) (AJ : Int) (AD : Int) (AG : Int) (AE : Int) (AI : Int) (AC : Int) (AF : Int) (AB : Int) (AA : Int) (r : Bool) (w : World) (AS : Kd.C k62 w A0 l0.length l0) (AR : l0.length ≤ c0) (AN : w.heap[AO]? = some (.cells #[.int .i8 AH, .int .i8 AK, .int .u16 AL, .int .u16 AJ, .int .u16 AD, .int .u16 AG, .int .u16 AE, .int .u16 AI, .int .u16 AC, .int .u16 AF, .int .u16 AB, .int .u16 AA] 35 (0, 0))) (h : slices_ContainsFunc_Spot_at_cellCode_1.f k l0 AH AK AL AJ AD AG AE AI AC AF AB AA = some r) :
    Calls Try.prog 76 #[.slice A0 l0.length c0, .func (.func 77) #[] #[.pointer (some ⟨AO, 0, none⟩)]] w fun e w' => e = .returned (.bool r) ∧ Below w.heap.size w w' := by
 have AU := ak AS
 have AT := ak AR
 clear AS AR
 have AM := ak AN
 clear AN
 have HB := ak (Below.refl w.heap.size w)
 have H := h
 unfold slices_ContainsFunc_Spot_at_cellCode_1.f at H
 clear h
 replace H := Option.bind_eq_some_iff.mp H
 obtain ⟨AP, AQ, H⟩ := H
 have A3 := ak AQ
 clear AQ
 obtain rfl := Option.some.inj H
 go_enter Try.func76, Try.ntmps76
 go_wp2_with (first | ((with_reducible refine gate_callee (f := 90) rfl ?_); refine goesL_ (some 7) rfl rfl Try.func90 (by kernel_rfl) rfl #[.slice A0 l0.length c0, .func (.func 77) #[] #[.pointer (some ⟨AO, 0, none⟩)]] rfl gl_ ?_; (with_reducible refine (slices_IndexFunc_Spot_at_cellCode_1.calls k _ _ l0 AO AH AK AL AJ AD AG AE AI AC AF AB AA AP _ ?side1 ?side2 ?side3 A3.out).mono ?_); (case side1 => exact sD AU); (case side2 => exact AT.out); (case side3 => exact (zK AM.out)); rintro e w4 ⟨rfl, hb⟩; refine ⟨_, rfl, ?_⟩; replace AM := kK AM hb; replace HB := kB HB hb; (try clear hb)))
 go_ret
 exact ⟨rfl, zB HB.out⟩
/-! ### impl_unless: function 75 -/
def impl_unless.f (a0 : Bool) (a1 : Int) : Option (Int) := if a0 = true then (some 0) else (some a1)
set_option maxHeartbeats 8000000 in
set_option maxRecDepth 100000 in
theorem impl_unless.calls (a0 : Bool) (a1 : Int) (r : Int) (w : World) (h : impl_unless.f a0 a1 = some r) :
    Calls Try.prog 75 #[.bool a0, .int .i64 a1] w fun e w' => e = .returned (.int .i64 r) ∧ Drawn0 w w' := by
 have H := h
 unfold impl_unless.f at H
 clear h
 by_cases c3 : a0 = true
 {
 subst c3
 rw [if_pos rfl] at H
 obtain rfl := Option.some.inj H
 go_enter Try.func75, Try.ntmps75
 go_wp2
 go_ret
 exact ⟨by first | rfl | (simp; done) | (simp [*]; done), by repeat (first | exact Drawn0.refl _ | apply Drawn0.step)⟩
 }
 {
 replace c3 := Bool.eq_false_iff.mpr c3
 subst c3
 rw [if_neg (show ¬ (false = true) by decide)] at H
 obtain rfl := Option.some.inj H
 go_enter Try.func75, Try.ntmps75
 go_wp2
 go_ret
 exact ⟨by first | rfl | (simp; done) | (simp [*]; done), by repeat (first | exact Drawn0.refl _ | apply Drawn0.step)⟩
 }
/-! ### impl_cellCode: function 46 -/
def impl_cellCode.f (k : Nat) (AG : Int) (AI : Int) (AL : Int) (AD : Int) (AF : Int) (AE : Int) (AJ : Int) (AH : Int) (AK : Int) (AC : Int) (AB : Int) (AA : Int) (l1 : List (S62)) : Option (Int) := (impl_ValidRoom.f AG AI AL AD AF AE AJ AH AK AC AB AA).bind fun AO => (if AO = true then ((slices_ContainsFunc_Spot_at_cellCode_1.f k l1 AG AI AL AD AF AE AJ AH AK AC AB AA).bind fun AN => ((impl_unless.f (!AN) 2).bind fun AM => (some AM))) else (some 1))
set_option maxHeartbeats 8000000 in
set_option maxRecDepth 100000 in
theorem impl_cellCode.calls (k : Nat) (AI : Int) (AJ : Int) (AG : Int) (AE : Int) (AL : Int) (AN : Int) (AM : Int) (AK : Int) (AH : Int) (AF : Int) (AB : Int) (AC : Int) (A1 : Option Addr) (c1 : Nat) (l1 : List (S62)) (r : Int) (w : World) (BK : Kd.C k62 w A1 l1.length l1) (BL : l1.length ≤ c1) (h : impl_cellCode.f k AI AJ AG AE AL AN AM AK AH AF AB AC l1 = some r) :
    Calls Try.prog 46 #[.agg #[.int .i8 AI, .int .i8 AJ, .int .u16 AG, .int .u16 AE, .int .u16 AL, .int .u16 AN, .int .u16 AM, .int .u16 AK, .int .u16 AH, .int .u16 AF, .int .u16 AB, .int .u16 AC], .slice A1 l1.length c1] w fun e w' => e = .returned (.int .i64 r) ∧ Below w.heap.size w w' := by
 have BQ := Try.underlying35
 have BR := ak BK
 have BO := ak BL
 clear BK BL
 have HB := ak (Below.refl w.heap.size w)
 have H := h
 unfold impl_cellCode.f at H
 clear h
 replace H := Option.bind_eq_some_iff.mp H
 obtain ⟨A7, BM, H⟩ := H
 have A3 := ak BM
 clear BM
 by_cases c4 : A7 = true
 {
 subst c4
 rw [if_pos rfl] at H
 replace H := Option.bind_eq_some_iff.mp H
 obtain ⟨AP, BJ, H⟩ := H
 have A5 := ak BJ
 clear BJ
 replace H := Option.bind_eq_some_iff.mp H
 obtain ⟨BA, BN, H⟩ := H
 have A6 := ak BN
 clear BN
 obtain rfl := Option.some.inj H
 go_enter Try.func46, Try.ntmps46
 go_wp2_with (first | ((with_reducible refine gate_dst (N := 2) rfl ?_); refine box_event ?hg (N := 2) ?hd (cs := #[.int .i8 AI, .int .i8 AJ, .int .u16 AG, .int .u16 AE, .int .u16 AL, .int .u16 AN, .int .u16 AM, .int .u16 AK, .int .u16 AH, .int .u16 AF, .int .u16 AB, .int .u16 AC]) (t := 35) ?hr ?_; (case hd => rfl); (case hg => rfl); (case hr => first | (go_simp; done) | (go_simp; rfl)); intro AO hg w7 hbox hb; have AA := ak (hbox); have AU := gS HB hg; have AD := gS HB hg; replace HB := kB HB hb; clear hb hbox hg; obtain ⟨Ax, BB, BH, Ay, Av, BF, Aw, BC, Az, BG, AZ, Aa, Au, BD, A9, A8, BE, A2, A4, A0, BI, At, Ae, Ar⟩ := cz12 w7 AA) | ((with_reducible refine gate_callee (f := 45) rfl ?_); refine goesL_ (some 6) rfl rfl Try.func45 (by kernel_rfl) rfl #[.agg #[.int .i8 AI, .int .i8 AJ, .int .u16 AG, .int .u16 AE, .int .u16 AL, .int .u16 AN, .int .u16 AM, .int .u16 AK, .int .u16 AH, .int .u16 AF, .int .u16 AB, .int .u16 AC]] rfl gl_ ?_; (with_reducible refine (impl_ValidRoom.calls AI AJ AG AE AL AN AM AK AH AF AB AC true _ A3.out).mono ?_); rintro e w9 ⟨rfl, hb⟩; refine ⟨_, rfl, ?_⟩; replace AA := kK AA hb; replace HB := kB1 HB AD hb; (try clear hb)) | ((with_reducible refine gate_callee (f := 76) rfl ?_); refine goesL_ (some 10) rfl rfl Try.func76 (by kernel_rfl) rfl #[.slice A1 l1.length c1, .func (.func 77) #[] #[.pointer (some ⟨AO, 0, none⟩)]] rfl gl_ ?_; (with_reducible refine (slices_ContainsFunc_Spot_at_cellCode_1.calls k _ _ l1 AO AI AJ AG AE AL AN AM AK AH AF AB AC AP _ ?side1 ?side2 ?side3 A5.out).mono ?_); (case side1 => exact sQ (Kd.C_below BR.out HB.out)); (case side2 => exact BO.out); (case side3 => exact (zK AA.out)); rintro e BS ⟨rfl, hb⟩; refine ⟨_, rfl, ?_⟩; replace AA := kK AA hb; replace HB := kB1 HB AD hb; (try clear hb)) | ((with_reducible refine gate_callee (f := 75) rfl ?_); refine goesL_ (some 12) rfl rfl Try.func75 (by kernel_rfl) rfl #[.bool (!AP), .int .i64 2] rfl gl_ ?_; (with_reducible refine (impl_unless.calls (!AP) 2 BA _ A6.out).mono ?_); rintro e w' ⟨rfl, ⟨nd, rfl⟩⟩; refine ⟨_, rfl, ?_⟩))
 go_ret
 exact ⟨rfl, zBG HB.out AD.out⟩
 }
 {
 replace c4 := Bool.eq_false_iff.mpr c4
 subst c4
 rw [if_neg (show ¬ (false = true) by decide)] at H
 obtain rfl := Option.some.inj H
 go_enter Try.func46, Try.ntmps46
 go_wp2_with (first | ((with_reducible refine gate_dst (N := 2) rfl ?_); refine box_event ?hg (N := 2) ?hd (cs := #[.int .i8 AI, .int .i8 AJ, .int .u16 AG, .int .u16 AE, .int .u16 AL, .int .u16 AN, .int .u16 AM, .int .u16 AK, .int .u16 AH, .int .u16 AF, .int .u16 AB, .int .u16 AC]) (t := 35) ?hr ?_; (case hd => rfl); (case hg => rfl); (case hr => first | (go_simp; done) | (go_simp; rfl)); intro AO hg BP hbox hb; have AA := ak (hbox); have AU := gS HB hg; have AD := gS HB hg; replace HB := kB HB hb; clear hb hbox hg; obtain ⟨Al, As, Ai, AV, Ah, Ak, Ab, Ao, An, Am, AS, AQ, Ad, Aq, Aj, AY, Af, Ac, AX, Ap, AW, Ag, AT, AR⟩ := cz12 BP AA) | ((with_reducible refine gate_callee (f := 45) rfl ?_); refine goesL_ (some 6) rfl rfl Try.func45 (by kernel_rfl) rfl #[.agg #[.int .i8 AI, .int .i8 AJ, .int .u16 AG, .int .u16 AE, .int .u16 AL, .int .u16 AN, .int .u16 AM, .int .u16 AK, .int .u16 AH, .int .u16 AF, .int .u16 AB, .int .u16 AC]] rfl gl_ ?_; (with_reducible refine (impl_ValidRoom.calls AI AJ AG AE AL AN AM AK AH AF AB AC false _ A3.out).mono ?_); rintro e BT ⟨rfl, hb⟩; refine ⟨_, rfl, ?_⟩; replace AA := kK AA hb; replace HB := kB1 HB AD hb; (try clear hb)))
 go_ret
 exact ⟨rfl, zBG HB.out AD.out⟩
 }
end Go.Proofs.Ytooidjdgfoioiaa.P
