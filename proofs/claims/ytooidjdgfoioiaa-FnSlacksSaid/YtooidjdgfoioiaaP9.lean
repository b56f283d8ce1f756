-- Printed by wip/print (my turned copy of the kit's print) out of the translation; Lean checks it.
import Derived.Test.YtooidjdgfoioiaaP0
import Derived.Test.YtooidjdgfoioiaaP7
import Derived.Test.YtooidjdgfoioiaaP8
namespace Go.Proofs.Ytooidjdgfoioiaa.P
open Go.RowKit Go.Proofs.YtooidjdgfoioiaaW.PrintWords Go.Proofs.YtooidjdgfoioiaaW.PrintLast Go.Proofs.YtooidjdgfoioiaaW.PrintMore
attribute [local go_sem] max2_int min2_int max_two min_two max_three min_three max_four min_four   -- for this text's walks alone
set_option linter.unusedVariables false
set_option linter.unusedSimpArgs false

/-! ### impl_stateCode_1: function 98 -/
def impl_stateCode_1.f (AH : Int) (AK : Int) (AF : Int) (AI : Int) (AC : Int) (AG : Int) (AO : Int) (AD : Int) (AM : Int) (AJ : Int) (AE : Int) (AL : Int) (AB : Int) (AA : Int) : Option (Bool) := (impl_Room_isFree.f AF AI AC AG AO AD AM AJ AE AL AB AA AH AK).bind fun AN => (some (!AN))
set_option maxHeartbeats 8000000 in
set_option maxRecDepth 100000 in
theorem impl_stateCode_1.calls (AC : Int) (AD : Int) (b1 : Nat) (AM : Int) (AO : Int) (AK : Int) (AL : Int) (AQ : Int) (AF : Int) (AP : Int) (AI : Int) (AN : Int) (AH : Int) (AA : Int) (AB : Int) (r : Bool) (w : World) (Az : w.heap[b1]? = some (.cells #[.int .i8 AM, .int .i8 AO, .int .u16 AK, .int .u16 AL, .int .u16 AQ, .int .u16 AF, .int .u16 AP, .int .u16 AI, .int .u16 AN, .int .u16 AH, .int .u16 AA, .int .u16 AB] 35 (0, 0))) (h : impl_stateCode_1.f AC AD AM AO AK AL AQ AF AP AI AN AH AA AB = some r) :
    Calls Try.prog 98 #[.agg #[.int .i8 AC, .int .i8 AD], .pointer (some ⟨b1, 0, none⟩)] w fun e w' => e = .returned (.bool r) ∧ Below w.heap.size w w' := by
 have A4 := Try.underlying62
 have A2 := Try.underlying35
 have AS := ak Az
 clear Az
 have HB := ak (Below.refl w.heap.size w)
 have H := h
 unfold impl_stateCode_1.f at H
 clear h
 replace H := Option.bind_eq_some_iff.mp H
 obtain ⟨Ab, Ax, H⟩ := H
 have A3 := ak Ax
 clear Ax
 obtain rfl := Option.some.inj H
 go_enter Try.func98, Try.ntmps98
 go_wp2_with (first | ((with_reducible refine gate_dst (N := 2) rfl ?_); refine box_event ?hg (N := 2) ?hd (cs := #[.int .i8 AC, .int .i8 AD]) (t := 62) ?hr ?_; (case hd => rfl); (case hg => rfl); (case hr => first | (go_simp; done) | (go_simp; rfl)); intro Aw hg w4 hbox hb; have AE := ak (hbox); have Ay := gS HB hg; have AR := gS HB hg; have AJ := nL AS hg; have AG := nG AS hg; replace AS := kK AS hb; replace HB := kB HB hb; clear hb hbox hg; have A1 := AJ.out; have A0 := AG.out; obtain ⟨Af, AY, Am, Ag, At, Av, Ar, Ad, Ao, An, AW, AV, AX, Aj, Ap, Aa, Au, Al, Aq, AZ, Ak, Ac, AU, AT⟩ := cz12 w4 AS; obtain ⟨Ah, Ae, As, Ai⟩ := cz2 w4 AE) | ((with_reducible refine gate_callee (f := 99) rfl ?_); refine goesL_ (some 6) rfl rfl Try.func99 (by kernel_rfl) rfl #[.agg #[.int .i8 AM, .int .i8 AO, .int .u16 AK, .int .u16 AL, .int .u16 AQ, .int .u16 AF, .int .u16 AP, .int .u16 AI, .int .u16 AN, .int .u16 AH, .int .u16 AA, .int .u16 AB], .agg #[.int .i8 AC, .int .i8 AD]] rfl gl_ ?_; (with_reducible refine (impl_Room_isFree.calls AM AO AK AL AQ AF AP AI AN AH AA AB AC AD Ab _ A3.out).mono ?_); rintro e w8 ⟨rfl, hb⟩; refine ⟨_, rfl, ?_⟩; replace AS := kK AS hb; replace AE := kK AE hb; replace HB := kB1 HB AR hb; (try clear hb)))
 go_ret
 exact ⟨rfl, zBG HB.out AR.out⟩
/-! ### slices_IndexFunc_Spot_at_stateCode_1: function 90 -/
def slices_IndexFunc_Spot_at_stateCode_1.l0 : Nat → List (S62) → Int → Int → Int → Int → Int → Int → Int → Int → Int → Int → Int → Int → Int → Int → Option (Int)
  | 0, _, _, _, _, _, _, _, _, _, _, _, _, _, _, _ => none
  | k + 1, x0, x7, x8, AC, AL, AE, AK, AH, AI, AB, AJ, AD, AF, AG, AA => if x8 < x7 then (if 0 ≤ x8 then (if x8 < (x0.length : Int) then ((impl_stateCode_1.f ((rd_T62 x0 x8).f0) ((rd_T62 x0 x8).f1) AC AL AE AK AH AI AB AJ AD AF AG AA).bind fun AM => (if AM = true then (some x8) else (slices_IndexFunc_Spot_at_stateCode_1.l0 k x0 x7 (wrap64 (x8 + 1)) AC AL AE AK AH AI AB AJ AD AF AG AA))) else (none)) else (none)) else (some (-1))
def slices_IndexFunc_Spot_at_stateCode_1.f (k : Nat) (l0 : List (S62)) (AI : Int) (AF : Int) (AH : Int) (AL : Int) (AE : Int) (AD : Int) (AG : Int) (AK : Int) (AC : Int) (AJ : Int) (AA : Int) (AB : Int) : Option (Int) := slices_IndexFunc_Spot_at_stateCode_1.l0 k l0 (l0.length : Int) 0 AI AF AH AL AE AD AG AK AC AJ AA AB
set_option maxHeartbeats 8000000 in
set_option maxRecDepth 100000 in
theorem slices_IndexFunc_Spot_at_stateCode_1.calls (k : Nat) (A0 : Option Addr) (c0 : Nat) (l0 : List (S62)) (AS : Nat) (AK : Int) (AN : Int) (AO : Int) (AM : Int) (AG : Int) (AJ : Int) (AH : Int) (AL : Int) (AF : Int) (AI : Int) (AE : Int) (AD : Int) (r : Int) (w : World) (AZ : Kd.C k62 w A0 l0.length l0) (AY : l0.length ≤ c0) (AV : w.heap[AS]? = some (.cells #[.int .i8 AK, .int .i8 AN, .int .u16 AO, .int .u16 AM, .int .u16 AG, .int .u16 AJ, .int .u16 AH, .int .u16 AL, .int .u16 AF, .int .u16 AI, .int .u16 AE, .int .u16 AD] 35 (0, 0))) (h : slices_IndexFunc_Spot_at_stateCode_1.f k l0 AK AN AO AM AG AJ AH AL AF AI AE AD = some r) :
    Calls Try.prog 90 #[.slice A0 l0.length c0, .func (.func 98) #[] #[.pointer (some ⟨AS, 0, none⟩)]] w fun e w' => e = .returned (.int .i64 r) ∧ Below w.heap.size w w' := by
 have Ae := Try.underlying62
 have Ac := ak AZ
 have Ag := ak AY
 clear AZ AY
 have AP := ak AV
 clear AV
 have HB := ak (Below.refl w.heap.size w)
 have H := h
 unfold slices_IndexFunc_Spot_at_stateCode_1.f at H
 clear h
 have H' := ak H
 clear H
 go_enter Try.func90, Try.ntmps90
 go_wp2
 go_loopg [8] k (fun kq v8 w' => ∃ (AA : Int), v8 = .int .i64 AA ∧ Aside0 (slices_IndexFunc_Spot_at_stateCode_1.l0 kq l0 (l0.length : Int) AA AK AN AO AM AG AJ AH AL AF AI AE AD = some r) ∧ Aside0 (kq ≤ k) ∧ Aside0 (w'.heap[AS]? = some (.cells #[.int .i8 AK, .int .i8 AN, .int .u16 AO, .int .u16 AM, .int .u16 AG, .int .u16 AJ, .int .u16 AH, .int .u16 AL, .int .u16 AF, .int .u16 AI, .int .u16 AE, .int .u16 AD] 35 (0, 0))) ∧ Aside0 (Below w.heap.size w w'))
 case atStart => exact ⟨(0), rfl, H', ⟨Nat.le_refl _⟩, ⟨(zK AP.out)⟩, ⟨zB HB.out⟩⟩
 case round => (
 clear H'
 obtain ⟨AA, rfl, HA, Ab, AP, HB⟩ := hrel
 cases gk with
 | zero => exact absurd HA.out (by simp [slices_IndexFunc_Spot_at_stateCode_1.l0])
 | succ k1 => (
 have H := HA.out
 clear HA
 simp only [slices_IndexFunc_Spot_at_stateCode_1.l0] at H
 by_cases c3 : AA < (l0.length : Int)
 {
 rw [if_pos c3] at H
 have AX : decide (AA < (l0.length : Int)) = true := decide_eq_true c3
 clear c3
 by_cases c4 : 0 ≤ AA
 {
 rw [if_pos c4] at H
 have Af : decide (0 ≤ AA) = true := decide_eq_true c4
 clear c4
 by_cases c5 : AA < (l0.length : Int)
 {
 rw [if_pos c5] at H
 have Ad : decide (AA < (l0.length : Int)) = true := decide_eq_true c5
 clear c5
 replace H := Option.bind_eq_some_iff.mp H
 obtain ⟨AW, Aa, H⟩ := H
 have A6 := ak Aa
 clear Aa
 by_cases c7 : AW = true
 {
 subst c7
 rw [if_pos rfl] at H
 obtain rfl := Option.some.inj H
 have AQ : 0 ≤ (AA : Int) := of_decide_eq_true (by assumption)
 have AR : AA < (l0.length : Int) := of_decide_eq_true (by assumption)
 obtain ⟨AU, AT, AB, AC⟩ := at_T62 Ac.out AA AQ AR
 cases AT
 replace AB := (HB.out.cell (World.block_lt_of_cell? w _ AB)).trans AB
 replace AC := (HB.out.cell (World.block_lt_of_cell? w _ AC)).trans AC
 replace AQ := eq_true AQ
 replace AR := eq_true AR
 go_wp2_with (first | ((with_reducible refine gate_tmpcall (t := 11) rfl ?_); refine goesF_ (some 16) rfl rfl Try.func98 (by kernel_rfl) rfl #[.pointer (some ⟨AS, 0, none⟩)] #[.agg #[.int .i8 ((rd_T62 l0 AA).f0), .int .i8 ((rd_T62 l0 AA).f1)], .pointer (some ⟨AS, 0, none⟩)] rfl (by first | rfl | (go_simp; done) | (go_simp; rfl)) (by (try simp only [List.map_toArray, List.map_cons, List.map_nil]); first | done | rfl | (simp only [List.length_drop, List.length_take]; rfl) | (go_simp; done)) ?_; (with_reducible refine (impl_stateCode_1.calls ((rd_T62 l0 AA).f0) ((rd_T62 l0 AA).f1) AS AK AN AO AM AG AJ AH AL AF AI AE AD true _ ?side1 A6.out).mono ?_); (case side1 => exact (zK AP.out)); rintro e w8 ⟨rfl, hb⟩; refine ⟨_, rfl, ?_⟩; replace AP := kK AP hb; replace HB := kB HB hb; (try clear hb)))
 go_ret
 exact ⟨rfl, zB HB.out⟩
 }
 {
 replace c7 := Bool.eq_false_iff.mpr c7
 subst c7
 rw [if_neg (show ¬ (false = true) by decide)] at H
 have H' := ak H
 clear H
 have AQ : 0 ≤ (AA : Int) := of_decide_eq_true (by assumption)
 have AR : AA < (l0.length : Int) := of_decide_eq_true (by assumption)
 obtain ⟨AU, AT, AB, AC⟩ := at_T62 Ac.out AA AQ AR
 cases AT
 replace AB := (HB.out.cell (World.block_lt_of_cell? w _ AB)).trans AB
 replace AC := (HB.out.cell (World.block_lt_of_cell? w _ AC)).trans AC
 replace AQ := eq_true AQ
 replace AR := eq_true AR
 go_wp2_with (first | ((with_reducible refine gate_tmpcall (t := 11) rfl ?_); refine goesF_ (some 16) rfl rfl Try.func98 (by kernel_rfl) rfl #[.pointer (some ⟨AS, 0, none⟩)] #[.agg #[.int .i8 ((rd_T62 l0 AA).f0), .int .i8 ((rd_T62 l0 AA).f1)], .pointer (some ⟨AS, 0, none⟩)] rfl (by first | rfl | (go_simp; done) | (go_simp; rfl)) (by (try simp only [List.map_toArray, List.map_cons, List.map_nil]); first | done | rfl | (simp only [List.length_drop, List.length_take]; rfl) | (go_simp; done)) ?_; (with_reducible refine (impl_stateCode_1.calls ((rd_T62 l0 AA).f0) ((rd_T62 l0 AA).f1) AS AK AN AO AM AG AJ AH AL AF AI AE AD false _ ?side1 A6.out).mono ?_); (case side1 => exact (zK AP.out)); rintro e w9 ⟨rfl, hb⟩; refine ⟨_, rfl, ?_⟩; replace AP := kK AP hb; replace HB := kB HB hb; (try clear hb)))
 go_roundg k1
 case measure => have := Ab.out; omega
 case rel => exact ⟨(wrap64 (AA + 1)), rfl, H', ⟨by have := Ab.out; omega⟩, ⟨(zK AP.out)⟩, ⟨zB HB.out⟩⟩
 }
 }
 · rw [if_neg c5] at H; exact absurd H (by simp)
 }
 · rw [if_neg c4] at H; exact absurd H (by simp)
 }
 {
 rw [if_neg c3] at H
 have AX : decide (AA < (l0.length : Int)) = false := decide_eq_false c3
 clear c3
 obtain rfl := Option.some.inj H
 go_wp2
 go_ret
 exact ⟨rfl, zB HB.out⟩
 }
 )
 )
/-! ### slices_ContainsFunc_Spot_at_stateCode_1: function 76 -/
def slices_ContainsFunc_Spot_at_stateCode_1.f (k : Nat) (l0 : List (S62)) (AI : Int) (AF : Int) (AH : Int) (AL : Int) (AD : Int) (AK : Int) (AG : Int) (AE : Int) (AC : Int) (AJ : Int) (AA : Int) (AB : Int) : Option (Bool) := (slices_IndexFunc_Spot_at_stateCode_1.f k l0 AI AF AH AL AD AK AG AE AC AJ AA AB).bind fun AM => (some (decide (AM ≥ 0)))
set_option maxHeartbeats 8000000 in
set_option maxRecDepth 100000 in
theorem slices_ContainsFunc_Spot_at_stateCode_1.calls (k : Nat) (A0 : Option Addr) (c0 : Nat) (l0 : List (S62)) (AO : Nat) (AH : Int) (AK : Int) (AL : Int) (AJ : Int) (AD : Int) (AG : Int) (AE : Int) (AI : Int) (AC : Int) (AF : Int) (AB : Int) (AA : Int) (r : Bool) (w : World) (AS : Kd.C k62 w A0 l0.length l0) (AR : l0.length ≤ c0) (AN : w.heap[AO]? = some (.cells #[.int .i8 AH, .int .i8 AK, .int .u16 AL, .int .u16 AJ, .int .u16 AD, .int .u16 AG, .int .u16 AE, .int .u16 AI, .int .u16 AC, .int .u16 AF, .int .u16 AB, .int .u16 AA] 35 (0, 0))) (h : slices_ContainsFunc_Spot_at_stateCode_1.f k l0 AH AK AL AJ AD AG AE AI AC AF AB AA = some r) :
    Calls Try.prog 76 #[.slice A0 l0.length c0, .func (.func 98) #[] #[.pointer (some ⟨AO, 0, none⟩)]] w fun e w' => e = .returned (.bool r) ∧ Below w.heap.size w w' := by
 have AU := ak AS
 have AT := ak AR
 clear AS AR
 have AM := ak AN
 clear AN
 have HB := ak (Below.refl w.heap.size w)
 have H := h
 unfold slices_ContainsFunc_Spot_at_stateCode_1.f at H
 clear h
 replace H := Option.bind_eq_some_iff.mp H
 obtain ⟨AP, AQ, H⟩ := H
 have A3 := ak AQ
 clear AQ
 obtain rfl := Option.some.inj H
 go_enter Try.func76, Try.ntmps76
 go_wp2_with (first | ((with_reducible refine gate_callee (f := 90) rfl ?_); refine goesL_ (some 7) rfl rfl Try.func90 (by kernel_rfl) rfl #[.slice A0 l0.length c0, .func (.func 98) #[] #[.pointer (some ⟨AO, 0, none⟩)]] rfl gl_ ?_; (with_reducible refine (slices_IndexFunc_Spot_at_stateCode_1.calls k _ _ l0 AO AH AK AL AJ AD AG AE AI AC AF AB AA AP _ ?side1 ?side2 ?side3 A3.out).mono ?_); (case side1 => exact sD AU); (case side2 => exact AT.out); (case side3 => exact (zK AM.out)); rintro e w4 ⟨rfl, hb⟩; refine ⟨_, rfl, ?_⟩; replace AM := kK AM hb; replace HB := kB HB hb; (try clear hb)))
 go_ret
 exact ⟨rfl, zB HB.out⟩
/-! ### impl_stateCode: function 92 -/
def impl_stateCode.f (k : Nat) (AI : Int) (AK : Int) (AN : Int) (AE : Int) (AG : Int) (AF : Int) (AL : Int) (AJ : Int) (AM : Int) (AD : Int) (AB : Int) (AA : Int) (l1 : List (S62)) : Option (Int) := (slices_ContainsFunc_Spot_at_stateCode_1.f k l1 AI AK AN AE AG AF AL AJ AM AD AB AA).bind fun AC => ((impl_unless.f (!AC) 4).bind fun AH => (some AH))
set_option maxHeartbeats 8000000 in
set_option maxRecDepth 100000 in
theorem impl_stateCode.calls (k : Nat) (AD : Int) (AF : Int) (AK : Int) (AG : Int) (AH : Int) (AL : Int) (AJ : Int) (AE : Int) (AM : Int) (AI : Int) (AA : Int) (AB : Int) (A1 : Option Addr) (c1 : Nat) (l1 : List (S62)) (r : Int) (w : World) (AU : Kd.C k62 w A1 l1.length l1) (AV : l1.length ≤ c1) (h : impl_stateCode.f k AD AF AK AG AH AL AJ AE AM AI AA AB l1 = some r) :
    Calls Try.prog 92 #[.agg #[.int .i8 AD, .int .i8 AF, .int .u16 AK, .int .u16 AG, .int .u16 AH, .int .u16 AL, .int .u16 AJ, .int .u16 AE, .int .u16 AM, .int .u16 AI, .int .u16 AA, .int .u16 AB], .slice A1 l1.length c1] w fun e w' => e = .returned (.int .i64 r) ∧ Below w.heap.size w w' := by
 have AW := Try.underlying35
 have AY := ak AU
 have AX := ak AV
 clear AU AV
 have HB := ak (Below.refl w.heap.size w)
 have H := h
 unfold impl_stateCode.f at H
 clear h
 replace H := Option.bind_eq_some_iff.mp H
 obtain ⟨AP, AR, H⟩ := H
 have A3 := ak AR
 clear AR
 replace H := Option.bind_eq_some_iff.mp H
 obtain ⟨AQ, AS, H⟩ := H
 have A4 := ak AS
 clear AS
 obtain rfl := Option.some.inj H
 go_enter Try.func92, Try.ntmps92
 go_wp2_with (first | ((with_reducible refine gate_dst (N := 2) rfl ?_); refine box_event ?hg (N := 2) ?hd (cs := #[.int .i8 AD, .int .i8 AF, .int .u16 AK, .int .u16 AG, .int .u16 AH, .int .u16 AL, .int .u16 AJ, .int .u16 AE, .int .u16 AM, .int .u16 AI, .int .u16 AA, .int .u16 AB]) (t := 35) ?hr ?_; (case hd => rfl); (case hg => rfl); (case hr => first | (go_simp; done) | (go_simp; rfl)); intro AO hg w5 hbox hb; have AC := ak (hbox); have AT := gS HB hg; have AN := gS HB hg; replace HB := kB HB hb; clear hb hbox hg) | ((with_reducible refine gate_callee (f := 76) rfl ?_); refine goesL_ (some 7) rfl rfl Try.func76 (by kernel_rfl) rfl #[.slice A1 l1.length c1, .func (.func 98) #[] #[.pointer (some ⟨AO, 0, none⟩)]] rfl gl_ ?_; (with_reducible refine (slices_ContainsFunc_Spot_at_stateCode_1.calls k _ _ l1 AO AD AF AK AG AH AL AJ AE AM AI AA AB AP _ ?side1 ?side2 ?side3 A3.out).mono ?_); (case side1 => exact sQ (Kd.C_below AY.out HB.out)); (case side2 => exact AX.out); (case side3 => exact (zK AC.out)); rintro e w6 ⟨rfl, hb⟩; refine ⟨_, rfl, ?_⟩; replace AC := kK AC hb; replace HB := kB1 HB AN hb; (try clear hb)) | ((with_reducible refine gate_callee (f := 75) rfl ?_); refine goesL_ (some 9) rfl rfl Try.func75 (by kernel_rfl) rfl #[.bool (!AP), .int .i64 4] rfl gl_ ?_; (with_reducible refine (impl_unless.calls (!AP) 4 AQ _ A4.out).mono ?_); rintro e w' ⟨rfl, ⟨nd, rfl⟩⟩; refine ⟨_, rfl, ?_⟩))
 go_ret
 exact ⟨rfl, zBG HB.out AN.out⟩
/-! ### impl_firstOf: function 91 -/
def impl_firstOf.l0 : Nat → List Int → Int → Int → Option (Int)
  | 0, _, _, _ => none
  | k + 1, x5, x6, x7 => if x7 < x6 then (if 0 ≤ x7 then (if x7 < (x5.length : Int) then (if (rd x5 x7) = 0 then (impl_firstOf.l0 k x5 x6 (wrap64 (x7 + 1))) else (some (rd x5 x7))) else (none)) else (none)) else (some 0)
def impl_firstOf.f (k : Nat) (l0 : List Int) : Option (Int) := impl_firstOf.l0 k l0 (l0.length : Int) 0
set_option maxHeartbeats 8000000 in
set_option maxRecDepth 100000 in
theorem impl_firstOf.calls (k : Nat) (A0 : Option Addr) (c0 : Nat) (l0 : List Int) (r : Int) (w : World) (AK : Kd.C (Kd.int .i64) w A0 l0.length l0) (AJ : l0.length ≤ c0) (h : impl_firstOf.f k l0 = some r) :
    Calls Try.prog 91 #[.slice A0 l0.length c0] w fun e w' => e = .returned (.int .i64 r) ∧ Drawn0 w w' := by
 have AM := ak AK
 have AP := ak AJ
 clear AK AJ
 have H := h
 unfold impl_firstOf.f at H
 clear h
 have H' := ak H
 clear H
 go_enter Try.func91, Try.ntmps91
 go_wp2
 go_loopg [7] k (fun kq v7 w' => ∃ (AA : Int), v7 = .int .i64 AA ∧ Aside0 (impl_firstOf.l0 kq l0 (l0.length : Int) AA = some r) ∧ Aside0 (kq ≤ k) ∧ Drawn0 w w')
 case atStart => exact ⟨(0), rfl, H', ⟨Nat.le_refl _⟩, by repeat (first | exact Drawn0.refl _ | apply Drawn0.step)⟩
 case round => (
 clear H'
 obtain ⟨AA, rfl, HA, AL, ⟨m1, rfl⟩⟩ := hrel
 cases gk with
 | zero => exact absurd HA.out (by simp [impl_firstOf.l0])
 | succ k1 => (
 have H := HA.out
 clear HA
 simp only [impl_firstOf.l0] at H
 by_cases c2 : AA < (l0.length : Int)
 {
 rw [if_pos c2] at H
 have AH : decide (AA < (l0.length : Int)) = true := decide_eq_true c2
 clear c2
 by_cases c3 : 0 ≤ AA
 {
 rw [if_pos c3] at H
 have AN : decide (0 ≤ AA) = true := decide_eq_true c3
 clear c3
 by_cases c4 : AA < (l0.length : Int)
 {
 rw [if_pos c4] at H
 have AO : decide (AA < (l0.length : Int)) = true := decide_eq_true c4
 clear c4
 by_cases c5 : (rd l0 AA) = 0
 {
 rw [if_pos c5] at H
 have AG : ((rd l0 AA) == 0) = true := beq_iff_eq.mpr c5
 have AI : ((rd l0 AA) != 0) = false := bne_eq_false_iff_eq.mpr c5
 clear c5
 have H' := ak H
 clear H
 have AB : 0 ≤ (AA : Int) := of_decide_eq_true (by assumption)
 have AC : AA < (l0.length : Int) := of_decide_eq_true (by assumption)
 obtain ⟨AF, AE, AD⟩ := Kd.at_int AM.out AA AB AC
 cases AE
 replace AB := eq_true AB
 replace AC := eq_true AC
 go_wp2
 go_roundg k1
 case measure => have := AL.out; omega
 case rel => exact ⟨(wrap64 (AA + 1)), rfl, H', ⟨by have := AL.out; omega⟩, by repeat (first | exact Drawn0.refl _ | apply Drawn0.step)⟩
 }
 {
 rw [if_neg c5] at H
 have AG : ((rd l0 AA) == 0) = false := beq_eq_false_iff_ne.mpr c5
 have AI : ((rd l0 AA) != 0) = true := bne_iff_ne.mpr c5
 obtain rfl := Option.some.inj H
 have AB : 0 ≤ (AA : Int) := of_decide_eq_true (by assumption)
 have AC : AA < (l0.length : Int) := of_decide_eq_true (by assumption)
 obtain ⟨AF, AE, AD⟩ := Kd.at_int AM.out AA AB AC
 cases AE
 replace AB := eq_true AB
 replace AC := eq_true AC
 go_wp2
 go_ret
 exact ⟨by first | rfl | (simp; done) | (simp [*]; done), by repeat (first | exact Drawn0.refl _ | apply Drawn0.step)⟩
 }
 }
 · rw [if_neg c4] at H; exact absurd H (by simp)
 }
 · rw [if_neg c3] at H; exact absurd H (by simp)
 }
 {
 rw [if_neg c2] at H
 have AH : decide (AA < (l0.length : Int)) = false := decide_eq_false c2
 clear c2
 obtain rfl := Option.some.inj H
 go_wp2
 go_ret
 exact ⟨by first | rfl | (simp; done) | (simp [*]; done), by repeat (first | exact Drawn0.refl _ | apply Drawn0.step)⟩
 }
 )
 )
/-! ### impl_NextSpot: function 102 -/
def impl_NextSpot.f (AB : Int) (AA : Int) (a1 : Int) : Option (Int × Int) := if a1 = 0 then (some (AB, IntKind.i8.wrap (AA - 1))) else (if a1 = 1 then (some (IntKind.i8.wrap (AB + 1), AA)) else (if a1 = 2 then (some (AB, IntKind.i8.wrap (AA + 1))) else (if a1 = 3 then (some (IntKind.i8.wrap (AB - 1), AA)) else (some (AB, AA)))))
set_option maxHeartbeats 8000000 in
set_option maxRecDepth 100000 in
theorem impl_NextSpot.calls (AF : Int) (AI : Int) (a1 : Int) (r1 : Int) (r2 : Int) (w : World) (h : impl_NextSpot.f AF AI a1 = some (r1, r2)) :
    Calls Try.prog 102 #[.agg #[.int .i8 AF, .int .i8 AI], .int .i64 a1] w fun e w' => e = .returned (.agg #[.int .i8 r1, .int .i8 r2]) ∧ Below w.heap.size w w' := by
 have BN := Try.underlying62
 have HB := ak (Below.refl w.heap.size w)
 have H := h
 unfold impl_NextSpot.f at H
 clear h
 by_cases c3 : a1 = 0
 {
 rw [if_pos c3] at H
 have A0 : (a1 == 0) = true := beq_iff_eq.mpr c3
 have A1 : (a1 != 0) = false := bne_eq_false_iff_eq.mpr c3
 clear c3
 simp only [Option.some.injEq, Prod.mk.injEq] at H
 obtain ⟨rfl, rfl⟩ := H
 go_enter Try.func102, Try.ntmps102
 go_wp2_with (first | ((with_reducible refine gate_dst (N := 2) rfl ?_); refine box_event ?hg (N := 2) ?hd (cs := #[.int .i8 AF, .int .i8 AI]) (t := 62) ?hr ?_; (case hd => rfl); (case hg => rfl); (case hr => first | (go_simp; done) | (go_simp; rfl)); intro AK hg w4 hbox hb; have AB := ak (hbox); have AJ := gS HB hg; have AC := gS HB hg; replace HB := kB HB hb; clear hb hbox hg) | ((with_reducible refine gate_dst (N := 4) rfl ?_); refine box_event ?hg (N := 4) ?hd (cs := #[.int .i8 0, .int .i8 0]) (t := 62) ?hr ?_; (case hd => rfl); (case hg => rfl); (case hr => first | (go_simp; done) | (go_simp; rfl)); intro AH hg w5 hbox hb; have AE := ak (hbox); have AL := gS1 HB AC hg; have AG := gS1 HB AC hg; have AD := nL AB hg; have AA := nG AB hg; replace AB := kK AB hb; replace HB := kB1 HB AC hb; clear hb hbox hg; have BM := AD.out; have BO := AA.out; obtain ⟨A2, A9, A6, A3⟩ := cz2 w5 AB; obtain ⟨Az, A4, Ay, A5⟩ := cz2 w5 AE))
 refine bodyPost_ret (results_cell_row rfl _ _ AH 62 #[.int .i8 AF, .int .i8 (IntKind.i8.wrap (AI - 1))] (0, 0) _ rfl (by refine blk_put (cs := #[.int .i8 AF, .int .i8 0]) ?_ 1 _ rfl; refine blk_put (cs := #[.int .i8 0, .int .i8 0]) ?_ 0 _ rfl; refine blk_far ?_ AA.out _; exact AE.out) Try.underlying62 rfl (by kernel_rfl)) rfl ?_
 exact ⟨rfl, zH2 HB AC AG⟩
 }
 {
 rw [if_neg c3] at H
 have A0 : (a1 == 0) = false := beq_eq_false_iff_ne.mpr c3
 have A1 : (a1 != 0) = true := bne_iff_ne.mpr c3
 by_cases c9 : a1 = 1
 {
 rw [if_pos c9] at H
 have A7 : (a1 == 1) = true := beq_iff_eq.mpr c9
 have A8 : (a1 != 1) = false := bne_eq_false_iff_eq.mpr c9
 clear c9
 simp only [Option.some.injEq, Prod.mk.injEq] at H
 obtain ⟨rfl, rfl⟩ := H
 go_enter Try.func102, Try.ntmps102
 go_wp2_with (first | ((with_reducible refine gate_dst (N := 2) rfl ?_); refine box_event ?hg (N := 2) ?hd (cs := #[.int .i8 AF, .int .i8 AI]) (t := 62) ?hr ?_; (case hd => rfl); (case hg => rfl); (case hr => first | (go_simp; done) | (go_simp; rfl)); intro AK hg BP hbox hb; have AB := ak (hbox); have AJ := gS HB hg; have AC := gS HB hg; replace HB := kB HB hb; clear hb hbox hg) | ((with_reducible refine gate_dst (N := 4) rfl ?_); refine box_event ?hg (N := 4) ?hd (cs := #[.int .i8 0, .int .i8 0]) (t := 62) ?hr ?_; (case hd => rfl); (case hg => rfl); (case hr => first | (go_simp; done) | (go_simp; rfl)); intro AH hg BC hbox hb; have AE := ak (hbox); have AL := gS1 HB AC hg; have AG := gS1 HB AC hg; have AD := nL AB hg; have AA := nG AB hg; replace AB := kK AB hb; replace HB := kB1 HB AC hb; clear hb hbox hg; have BD := AD.out; have BE := AA.out; obtain ⟨Ad, AS, Ap, Ax⟩ := cz2 BC AB; obtain ⟨Ao, Ai, Am, Af⟩ := cz2 BC AE))
 refine bodyPost_ret (results_cell_row rfl _ _ AH 62 #[.int .i8 (IntKind.i8.wrap (AF + 1)), .int .i8 AI] (0, 0) _ rfl (by refine blk_put (cs := #[.int .i8 (IntKind.i8.wrap (AF + 1)), .int .i8 0]) ?_ 1 _ rfl; refine blk_put (cs := #[.int .i8 0, .int .i8 0]) ?_ 0 _ rfl; refine blk_far ?_ AA.out _; exact AE.out) Try.underlying62 rfl (by kernel_rfl)) rfl ?_
 exact ⟨rfl, zH2 HB AC AG⟩
 }
 {
 rw [if_neg c9] at H
 have A7 : (a1 == 1) = false := beq_eq_false_iff_ne.mpr c9
 have A8 : (a1 != 1) = true := bne_iff_ne.mpr c9
 by_cases AN : a1 = 2
 {
 rw [if_pos AN] at H
 have AQ : (a1 == 2) = true := beq_iff_eq.mpr AN
 have AR : (a1 != 2) = false := bne_eq_false_iff_eq.mpr AN
 clear AN
 simp only [Option.some.injEq, Prod.mk.injEq] at H
 obtain ⟨rfl, rfl⟩ := H
 go_enter Try.func102, Try.ntmps102
 go_wp2_with (first | ((with_reducible refine gate_dst (N := 2) rfl ?_); refine box_event ?hg (N := 2) ?hd (cs := #[.int .i8 AF, .int .i8 AI]) (t := 62) ?hr ?_; (case hd => rfl); (case hg => rfl); (case hr => first | (go_simp; done) | (go_simp; rfl)); intro AK hg BS hbox hb; have AB := ak (hbox); have AJ := gS HB hg; have AC := gS HB hg; replace HB := kB HB hb; clear hb hbox hg) | ((with_reducible refine gate_dst (N := 4) rfl ?_); refine box_event ?hg (N := 4) ?hd (cs := #[.int .i8 0, .int .i8 0]) (t := 62) ?hr ?_; (case hd => rfl); (case hg => rfl); (case hr => first | (go_simp; done) | (go_simp; rfl)); intro AH hg BA hbox hb; have AE := ak (hbox); have AL := gS1 HB AC hg; have AG := gS1 HB AC hg; have AD := nL AB hg; have AA := nG AB hg; replace AB := kK AB hb; replace HB := kB1 HB AC hb; clear hb hbox hg; have BG := AD.out; have BI := AA.out; obtain ⟨Av, AV, Ak, AU⟩ := cz2 BA AB; obtain ⟨Aq, AZ, Ar, AT⟩ := cz2 BA AE))
 refine bodyPost_ret (results_cell_row rfl _ _ AH 62 #[.int .i8 AF, .int .i8 (IntKind.i8.wrap (AI + 1))] (0, 0) _ rfl (by refine blk_put (cs := #[.int .i8 AF, .int .i8 0]) ?_ 1 _ rfl; refine blk_put (cs := #[.int .i8 0, .int .i8 0]) ?_ 0 _ rfl; refine blk_far ?_ AA.out _; exact AE.out) Try.underlying62 rfl (by kernel_rfl)) rfl ?_
 exact ⟨rfl, zH2 HB AC AG⟩
 }
 {
 rw [if_neg AN] at H
 have AQ : (a1 == 2) = false := beq_eq_false_iff_ne.mpr AN
 have AR : (a1 != 2) = true := bne_iff_ne.mpr AN
 by_cases AM : a1 = 3
 {
 rw [if_pos AM] at H
 have AP : (a1 == 3) = true := beq_iff_eq.mpr AM
 have AO : (a1 != 3) = false := bne_eq_false_iff_eq.mpr AM
 clear AM
 simp only [Option.some.injEq, Prod.mk.injEq] at H
 obtain ⟨rfl, rfl⟩ := H
 go_enter Try.func102, Try.ntmps102
 go_wp2_with (first | ((with_reducible refine gate_dst (N := 2) rfl ?_); refine box_event ?hg (N := 2) ?hd (cs := #[.int .i8 AF, .int .i8 AI]) (t := 62) ?hr ?_; (case hd => rfl); (case hg => rfl); (case hr => first | (go_simp; done) | (go_simp; rfl)); intro AK hg BR hbox hb; have AB := ak (hbox); have AJ := gS HB hg; have AC := gS HB hg; replace HB := kB HB hb; clear hb hbox hg) | ((with_reducible refine gate_dst (N := 4) rfl ?_); refine box_event ?hg (N := 4) ?hd (cs := #[.int .i8 0, .int .i8 0]) (t := 62) ?hr ?_; (case hd => rfl); (case hg => rfl); (case hr => first | (go_simp; done) | (go_simp; rfl)); intro AH hg BJ hbox hb; have AE := ak (hbox); have AL := gS1 HB AC hg; have AG := gS1 HB AC hg; have AD := nL AB hg; have AA := nG AB hg; replace AB := kK AB hb; replace HB := kB1 HB AC hb; clear hb hbox hg; have BF := AD.out; have BB := AA.out; obtain ⟨Aj, Al, Ah, Ag⟩ := cz2 BJ AB; obtain ⟨At, Ac, Aa, AW⟩ := cz2 BJ AE))
 refine bodyPost_ret (results_cell_row rfl _ _ AH 62 #[.int .i8 (IntKind.i8.wrap (AF - 1)), .int .i8 AI] (0, 0) _ rfl (by refine blk_put (cs := #[.int .i8 (IntKind.i8.wrap (AF - 1)), .int .i8 0]) ?_ 1 _ rfl; refine blk_put (cs := #[.int .i8 0, .int .i8 0]) ?_ 0 _ rfl; refine blk_far ?_ AA.out _; exact AE.out) Try.underlying62 rfl (by kernel_rfl)) rfl ?_
 exact ⟨rfl, zH2 HB AC AG⟩
 }
 {
 rw [if_neg AM] at H
 have AP : (a1 == 3) = false := beq_eq_false_iff_ne.mpr AM
 have AO : (a1 != 3) = true := bne_iff_ne.mpr AM
 simp only [Option.some.injEq, Prod.mk.injEq] at H
 obtain ⟨rfl, rfl⟩ := H
 go_enter Try.func102, Try.ntmps102
 go_wp2_with (first | ((with_reducible refine gate_dst (N := 2) rfl ?_); refine box_event ?hg (N := 2) ?hd (cs := #[.int .i8 AF, .int .i8 AI]) (t := 62) ?hr ?_; (case hd => rfl); (case hg => rfl); (case hr => first | (go_simp; done) | (go_simp; rfl)); intro AK hg BQ hbox hb; have AB := ak (hbox); have AJ := gS HB hg; have AC := gS HB hg; replace HB := kB HB hb; clear hb hbox hg) | ((with_reducible refine gate_dst (N := 4) rfl ?_); refine box_event ?hg (N := 4) ?hd (cs := #[.int .i8 0, .int .i8 0]) (t := 62) ?hr ?_; (case hd => rfl); (case hg => rfl); (case hr => first | (go_simp; done) | (go_simp; rfl)); intro AH hg BK hbox hb; have AE := ak (hbox); have AL := gS1 HB AC hg; have AG := gS1 HB AC hg; have AD := nL AB hg; have AA := nG AB hg; replace AB := kK AB hb; replace HB := kB1 HB AC hb; clear hb hbox hg; have BL := AD.out; have BH := AA.out; obtain ⟨As, An, AX, AY⟩ := cz2 BK AB; obtain ⟨Au, Ab, Aw, Ae⟩ := cz2 BK AE))
 refine bodyPost_ret (results_cell_row rfl _ _ AH 62 #[.int .i8 AF, .int .i8 AI] (0, 0) _ rfl (by refine blk_put (cs := #[.int .i8 AF, .int .i8 0]) ?_ 1 _ rfl; refine blk_put (cs := #[.int .i8 0, .int .i8 0]) ?_ 0 _ rfl; exact AE.out) Try.underlying62 rfl (by kernel_rfl)) rfl ?_
 exact ⟨rfl, zH2 HB AC AG⟩
 }
 }
 }
 }
/-! ### impl_Room_beside: function 100 -/
def impl_Room_beside.l0 : Nat → List (S62) → Int → Int → Int → Int → Int → Int → Int → Int → Int → Int → Int → Int → Int → Int → Int → Option ((List (S62)))
  | 0, _, _, _, _, _, _, _, _, _, _, _, _, _, _, _, _ => none
  | k + 1, x5, x9, AF, AC, AB, AM, AD, AL, AG, AN, AI, AE, AA, AJ, AH, AK => if x9 < 4 then ((impl_NextSpot.f AH AK x9).bind fun AO => ((impl_Room_isFree.f AF AC AB AM AD AL AG AN AI AE AA AJ AO.1 AO.2).bind fun AP => (if AP = true then (if x5.length < 70368744177664 then (impl_Room_beside.l0 k (x5 ++ [(⟨AO.1, AO.2⟩ : S62)]) (wrap64 (x9 + 1)) AF AC AB AM AD AL AG AN AI AE AA AJ AH AK) else (none)) else (impl_Room_beside.l0 k x5 (wrap64 (x9 + 1)) AF AC AB AM AD AL AG AN AI AE AA AJ AH AK)))) else (some x5)
def impl_Room_beside.f (k : Nat) (AH : Int) (AK : Int) (AN : Int) (AE : Int) (AF : Int) (AD : Int) (AL : Int) (AG : Int) (AM : Int) (AC : Int) (AB : Int) (AA : Int) (AJ : Int) (AI : Int) : Option ((List (S62))) := impl_Room_beside.l0 k (([] : List (S62))) 0 AH AK AN AE AF AD AL AG AM AC AB AA AJ AI
set_option maxHeartbeats 8000000 in
set_option maxRecDepth 100000 in
theorem impl_Room_beside.calls (k : Nat) (AX : Int) (AS : Int) (AW : Int) (AQ : Int) (AT : Int) (AU : Int) (AZ : Int) (AY : Int) (AR : Int) (AV : Int) (AI : Int) (AH : Int) (AL : Int) (AM : Int) (r : List (S62)) (w : World) (h : impl_Room_beside.f k AX AS AW AQ AT AU AZ AY AR AV AI AH AL AM = some r) :
    Calls Try.prog 100 #[.agg #[.int .i8 AX, .int .i8 AS, .int .u16 AW, .int .u16 AQ, .int .u16 AT, .int .u16 AU, .int .u16 AZ, .int .u16 AY, .int .u16 AR, .int .u16 AV, .int .u16 AI, .int .u16 AH], .agg #[.int .i8 AL, .int .i8 AM]] w fun e w' => ∃ v0_ : Value, e = .returned (v0_) ∧ Kd.R k62 62 w' w.heap.size (fun _ => True) v0_ r ∧ Below w.heap.size w w' := by
 have Ca := Try.underlying35
 have Cb := Try.underlying62
 have HB := ak (Below.refl w.heap.size w)
 have H := h
 unfold impl_Room_beside.f at H
 clear h
 obtain ⟨Ay, Ag⟩ : ∃ y_ : List (S62), y_ = (([] : List (S62))) := ⟨_, rfl⟩
 replace H : (impl_Room_beside.l0 k Ay 0 AX AS AW AQ AT AU AZ AY AR AV AI AH AL AM) = some r := by first | (rw [Ag]; with_reducible exact H) | (have Al := (Option.bind_some _ _).symm.trans H; rw [Ag]; with_reducible exact Al) | (have Al := (Option.bind_some _ _).symm.trans H; with_reducible exact Al) | with_reducible exact H | (rw [Ag]; exact H) | exact H
 have Ak := ak Ag
 clear Ag
 have H' := ak H
 clear H
 go_enter Try.func100, Try.ntmps100
 go_wp2_with (first | ((with_reducible refine gate_dst (N := 2) rfl ?_); refine box_event ?hg (N := 2) ?hd (cs := #[.int .i8 AX, .int .i8 AS, .int .u16 AW, .int .u16 AQ, .int .u16 AT, .int .u16 AU, .int .u16 AZ, .int .u16 AY, .int .u16 AR, .int .u16 AV, .int .u16 AI, .int .u16 AH]) (t := 35) ?hr ?_; (case hd => rfl); (case hg => rfl); (case hr => first | (go_simp; done) | (go_simp; rfl)); intro Aj hg w3 hbox hb; have AB := ak (hbox); have CQ := gS HB hg; have AC := gS HB hg; replace HB := kB HB hb; clear hb hbox hg) | ((with_reducible refine gate_dst (N := 3) rfl ?_); refine box_event ?hg (N := 3) ?hd (cs := #[.int .i8 AL, .int .i8 AM]) (t := 62) ?hr ?_; (case hd => rfl); (case hg => rfl); (case hr => first | (go_simp; done) | (go_simp; rfl)); intro AK hg w4 hbox hb; have AA := ak (hbox); have CO := gS1 HB AC hg; have AE := gS1 HB AC hg; have Ae := nL AB hg; have Af := nG AB hg; replace AB := kK AB hb; replace HB := kB1 HB AC hb; clear hb hbox hg) | ((with_reducible refine gate_dst (N := 8) rfl ?_); refine Kd.R_lit k62 _ 62 ?hg (N := 8) ?hd (xs := ([] : List (S62))) (inner := []) (ok := fun _ => True) (okp := fun _ => True) ?hr ?hp (fun _ hk => hk) trivial (Below.refl _ _) (Nat.le_refl _) (by simp) ?_; (case hd => rfl); (case hg => rfl); (case hr => first | (go_simp; done) | (go_simp; rfl)); (case hp => exact (Reps.none _ _)); intro CW w5 Au hb CZ At; clear CZ At; (first | rw [← Ak.out] at Au | (simp only [Int.reduceToNat] at Au; rw [← Ak.out] at Au)); have Ar := ak (Kd.R_lower (Kd.R_newB Au (g := AK) (o := .cells #[.int .i8 AL, .int .i8 AM] 62 (0, 0)) (zK AA.out)) (below_size (zH2 HB AC AE))); replace AB := kK AB hb; replace AA := kK AA hb; replace HB := kB2 HB AC AE hb; clear hb Au))
 go_loopg [5, 9] k (fun kq v5 v9 w' => ∃ (Ai : List (S62)) (Ab : Int), v9 = .int .i64 Ab ∧ Aside0 (impl_Room_beside.l0 kq Ai Ab AX AS AW AQ AT AU AZ AY AR AV AI AH AL AM = some r) ∧ Aside0 (kq ≤ k) ∧ Aside0 (Kd.R k62 62 w' w.heap.size (fun k_ => k_ ≠ AK) v5 Ai) ∧ Aside0 (w'.heap[Aj]? = some (.cells #[.int .i8 AX, .int .i8 AS, .int .u16 AW, .int .u16 AQ, .int .u16 AT, .int .u16 AU, .int .u16 AZ, .int .u16 AY, .int .u16 AR, .int .u16 AV, .int .u16 AI, .int .u16 AH] 35 (0, 0))) ∧ Aside0 (w'.heap[AK]? = some (.cells #[.int .i8 AL, .int .i8 AM] 62 (0, 0))) ∧ Aside0 (Below w.heap.size w w'))
 case atStart => exact ⟨(Ay), (0), rfl, H', ⟨Nat.le_refl _⟩, ⟨Kd.R_mono Ar.out (fun _ hk => hk.2)⟩, ⟨(zK AB.out)⟩, ⟨(zK AA.out)⟩, ⟨zH2 HB AC AE⟩⟩
 case round => (
 clear H'
 obtain ⟨Ai, Ab, rfl, HA, BS, AJ, AB, AA, HB⟩ := hrel
 cases gk with
 | zero => exact absurd HA.out (by simp [impl_Room_beside.l0])
 | succ k1 => (
 have H := HA.out
 clear HA
 simp only [impl_Room_beside.l0] at H
 by_cases c7 : Ab < 4
 {
 rw [if_pos c7] at H
 have CD : decide (Ab < 4) = true := decide_eq_true c7
 clear c7
 replace H := Option.bind_eq_some_iff.mp H
 obtain ⟨⟨AN, AP⟩, CN, H⟩ := H
 have A8 := ak CN
 clear CN
 replace H := Option.bind_eq_some_iff.mp H
 obtain ⟨CC, CM, H⟩ := H
 have A9 := ak CM
 clear CM
 by_cases CA : CC = true
 {
 subst CA
 rw [if_pos rfl] at H
 by_cases B8 : Ai.length < 70368744177664
 {
 rw [if_pos B8] at H
 have Av := ak B8
 clear B8
 obtain ⟨A0, Ah⟩ : ∃ y_ : List (S62), y_ = (Ai ++ [(⟨AN, AP⟩ : S62)]) := ⟨_, rfl⟩
 replace H : (impl_Room_beside.l0 k1 A0 (wrap64 (Ab + 1)) AX AS AW AQ AT AU AZ AY AR AV AI AH AL AM) = some r := by first | (rw [Ah]; with_reducible exact H) | (have Al := (Option.bind_some _ _).symm.trans H; rw [Ah]; with_reducible exact Al) | (have Al := (Option.bind_some _ _).symm.trans H; with_reducible exact Al) | with_reducible exact H | (rw [Ah]; exact H) | exact H
 have Am := ak Ah
 clear Ah
 have H' := ak H
 clear H
 have CH := Af.out
 have CI := Ae.out
 have BI : wr.cell? ⟨AK, 0, none⟩ = some (.int .i8 AL) := (blk_cell AA.out 0).trans rfl
 have A3 : wr.cell? ⟨AK, 1, none⟩ = some (.int .i8 AM) := (blk_cell AA.out 1).trans rfl
 have Bu := blk_frozen AA.out 0
 have BT := blk_frozen AA.out 1
 go_wp2_with (first | ((with_reducible refine gate_callee (f := 102) rfl ?_); refine goesL_ (some 14) rfl rfl Try.func102 (by kernel_rfl) rfl #[.agg #[.int .i8 AL, .int .i8 AM], .int .i64 Ab] rfl gl_ ?_; (with_reducible refine (impl_NextSpot.calls AL AM Ab AN AP _ A8.out).mono ?_); rintro e Ce ⟨rfl, hb⟩; refine ⟨_, rfl, ?_⟩; replace AJ := kR AJ hb; replace AB := kK AB hb; replace AA := kK AA hb; replace HB := kB2 HB AC AE hb; (try clear hb)) | ((with_reducible refine gate_dst (N := 7) rfl ?_); refine box_event ?hg (N := 7) ?hd (cs := #[.int .i8 0, .int .i8 0]) (t := 62) ?hr ?_; (case hd => rfl); (case hg => rfl); (case hr => first | (go_simp; done) | (go_simp; rfl)); intro AD hg CK hbox hb; have AO := ak (hbox); have A2 := ak ((by rw [hg]; exact (below_size (zH2 HB AC AE)) : w.heap.size ≤ AD)); have Ad := ak ((by rw [hg]; exact (below_size (zH2 HB AC AE)) : w.heap.size ≤ AD)); have AG := nL AB hg; have Ac := nG AB hg; have AF := nL AA hg; have Aa := nG AA hg; replace AJ := ak (Kd.R_below (Kd.R_elderB (zR AJ.out) AD (Nat.le_of_eq hg.symm)) hb); replace AB := kK AB hb; replace AA := kK AA hb; replace HB := kB2 HB AC AE hb; clear hb hbox hg; have CV := Ac.out; have CT := AG.out; have CR := Aa.out; have CS := AF.out; obtain ⟨Bm, Bn, BQ, BA⟩ := cz2 CK AO; obtain ⟨B9, Bf, Bi, Bc, BR, Bp, BN, Bt, BH, Bz, A1, Ao, Br, Be, Bd, CB, Bq, Bb, Bs, BP, BE, BW, Aw, Az⟩ := cz12 CK AB) | ((with_reducible refine gate_callee (f := 99) rfl ?_); refine goesL_ (some 17) rfl rfl Try.func99 (by kernel_rfl) rfl #[.agg #[.int .i8 AX, .int .i8 AS, .int .u16 AW, .int .u16 AQ, .int .u16 AT, .int .u16 AU, .int .u16 AZ, .int .u16 AY, .int .u16 AR, .int .u16 AV, .int .u16 AI, .int .u16 AH], .agg #[.int .i8 AN, .int .i8 AP]] rfl gl_ ?_; (with_reducible refine (impl_Room_isFree.calls AX AS AW AQ AT AU AZ AY AR AV AI AH AN AP true _ A9.out).mono ?_); rintro e CX ⟨rfl, hb⟩; refine ⟨_, rfl, ?_⟩; replace AJ := ak (Kd.R_below ((Kd.R_mono (Kd.R_far (p := ⟨AD, 1, none⟩) (Kd.R_far (p := ⟨AD, 0, none⟩) (Kd.R_mono AJ.out (fun k_ hk => (⟨hk, hk.2⟩ : _ ∧ k_ ≠ AD))) (fun _ hk => hk.2) (.int .i8 AN)) (fun _ hk => hk.2) (.int .i8 AP)) (fun _ h_ => h_.1))) hb); replace AB := ak (blk_below (g := Aj) (o := .cells #[.int .i8 AX, .int .i8 AS, .int .u16 AW, .int .u16 AQ, .int .u16 AT, .int .u16 AU, .int .u16 AZ, .int .u16 AY, .int .u16 AR, .int .u16 AV, .int .u16 AI, .int .u16 AH] 35 (0, 0)) (by refine blk_far ?_ AG.out _; refine blk_far ?_ AG.out _; exact AB.out) hb); replace AA := ak (blk_below (g := AK) (o := .cells #[.int .i8 AL, .int .i8 AM] 62 (0, 0)) (by refine blk_far ?_ AF.out _; refine blk_far ?_ AF.out _; exact AA.out) hb); replace AO := ak (blk_below (g := AD) (o := .cells #[.int .i8 AN, .int .i8 AP] 62 (0, 0)) (by refine blk_put (cs := #[.int .i8 AN, .int .i8 0]) ?_ 1 _ rfl; refine blk_put (cs := #[.int .i8 0, .int .i8 0]) ?_ 0 _ rfl; exact AO.out) hb); replace HB := kB3 HB AC AE Ad hb; (try clear hb); (try clear hk); obtain ⟨BZ, Bh, BV, BK⟩ := cz2 CX AO) | ((with_reducible refine gate_builtin (b := .append) (xs := #[.tmp 18, .tmp 20]) rfl ?_); at_builtin; refine Kd.R_append k62 (w0 := w) w.heap.size rfl (.tmp 18) (.tmp 20) 37 62 (.agg #[(.int .i8 0), (.int .i8 0)]) 2 rfl Try.underlying37 info62 rfl (by decide) (by omega) u5 Ai (⟨AN, AP⟩ : S62) [.int .i8 AN, .int .i8 AP] (fun k_ => k_ ≠ AK ∧ k_ ≠ AD) (fun _ => False) rfl rfl ?aP (fun _ hk => hk.elim) ?aF ?aO ?aB ?aS ?aL ?_; (case aP => exact k62_mkM _ _ _ (⟨AN, AP⟩ : S62)); (case aB => exact (zH3 HB AC AE Ad)); (case aF => exact (fun k_ hk => ⟨Kd.freshB (g := AK) (o := .cells #[.int .i8 AL, .int .i8 AM] 62 (0, 0)) (zK AA.out) k_ hk, Kd.freshB (g := AD) (o := .cells #[.int .i8 AN, .int .i8 AP] 62 (0, 0)) (zK AO.out) k_ hk⟩)); (case aO => exact (zR AJ.out)); (case aS => exact (below_size (zH3 HB AC AE Ad))); (case aL => have := Av.out; omega); intro CY Cf ho hb hg hat; rw [← Am.out] at ho; have An := ak (ho); replace AB := ak (blk_grown (g := Aj) (o := .cells #[.int .i8 AX, .int .i8 AS, .int .u16 AW, .int .u16 AQ, .int .u16 AT, .int .u16 AU, .int .u16 AZ, .int .u16 AY, .int .u16 AR, .int .u16 AV, .int .u16 AI, .int .u16 AH] 35 (0, 0)) (zK AB.out) hg (Kd.R_ne AJ.out AB.out (by decide))); replace AA := ak (blk_grown (g := AK) (o := .cells #[.int .i8 AL, .int .i8 AM] 62 (0, 0)) (zK AA.out) hg (Kd.R_away AJ.out (fun _ hk => hk.1))); replace AO := ak (blk_grown (g := AD) (o := .cells #[.int .i8 AN, .int .i8 AP] 62 (0, 0)) (zK AO.out) hg (Kd.R_away AJ.out (fun _ hk => hk.2))); replace HB := ak (hb); clear AJ ho hb hg hat))
 go_roundg k1
 case measure => have := BS.out; omega
 case rel => exact ⟨(A0), (wrap64 (Ab + 1)), rfl, H', ⟨by have := BS.out; omega⟩, ⟨Kd.R_mono An.out (fun _ hk => hk.1)⟩, ⟨(zK AB.out)⟩, ⟨(zK AA.out)⟩, ⟨zH3 HB AC AE Ad⟩⟩
 }
 · rw [if_neg B8] at H; exact absurd H (by simp)
 }
 {
 replace CA := Bool.eq_false_iff.mpr CA
 subst CA
 rw [if_neg (show ¬ (false = true) by decide)] at H
 have H' := ak H
 clear H
 have CJ := Af.out
 have CF := Ae.out
 have BD : wr.cell? ⟨AK, 0, none⟩ = some (.int .i8 AL) := (blk_cell AA.out 0).trans rfl
 have Bg : wr.cell? ⟨AK, 1, none⟩ = some (.int .i8 AM) := (blk_cell AA.out 1).trans rfl
 have Bv := blk_frozen AA.out 0
 have BU := blk_frozen AA.out 1
 go_wp2_with (first | ((with_reducible refine gate_callee (f := 102) rfl ?_); refine goesL_ (some 14) rfl rfl Try.func102 (by kernel_rfl) rfl #[.agg #[.int .i8 AL, .int .i8 AM], .int .i64 Ab] rfl gl_ ?_; (with_reducible refine (impl_NextSpot.calls AL AM Ab AN AP _ A8.out).mono ?_); rintro e Cd ⟨rfl, hb⟩; refine ⟨_, rfl, ?_⟩; replace AJ := kR AJ hb; replace AB := kK AB hb; replace AA := kK AA hb; replace HB := kB2 HB AC AE hb; (try clear hb)) | ((with_reducible refine gate_dst (N := 7) rfl ?_); refine box_event ?hg (N := 7) ?hd (cs := #[.int .i8 0, .int .i8 0]) (t := 62) ?hr ?_; (case hd => rfl); (case hg => rfl); (case hr => first | (go_simp; done) | (go_simp; rfl)); intro AD hg CL hbox hb; have AO := ak (hbox); have A2 := ak ((by rw [hg]; exact (below_size (zH2 HB AC AE)) : w.heap.size ≤ AD)); have Ad := ak ((by rw [hg]; exact (below_size (zH2 HB AC AE)) : w.heap.size ≤ AD)); have AG := nL AB hg; have Ac := nG AB hg; have AF := nL AA hg; have Aa := nG AA hg; replace AJ := ak (Kd.R_below (Kd.R_elderB (zR AJ.out) AD (Nat.le_of_eq hg.symm)) hb); replace AB := kK AB hb; replace AA := kK AA hb; replace HB := kB2 HB AC AE hb; clear hb hbox hg; have CP := Ac.out; have CG := AG.out; have CU := Aa.out; have CE := AF.out; obtain ⟨BX, BY, BJ, A4⟩ := cz2 CL AO; obtain ⟨Bw, BM, A7, Bk, BO, Bj, Bl, B0, By, BL, Aq, As, BB, BC, BF, Ba, A5, Bx, Bo, BG, B3, A6, Ax, Ap⟩ := cz12 CL AB) | ((with_reducible refine gate_callee (f := 99) rfl ?_); refine goesL_ (some 17) rfl rfl Try.func99 (by kernel_rfl) rfl #[.agg #[.int .i8 AX, .int .i8 AS, .int .u16 AW, .int .u16 AQ, .int .u16 AT, .int .u16 AU, .int .u16 AZ, .int .u16 AY, .int .u16 AR, .int .u16 AV, .int .u16 AI, .int .u16 AH], .agg #[.int .i8 AN, .int .i8 AP]] rfl gl_ ?_; (with_reducible refine (impl_Room_isFree.calls AX AS AW AQ AT AU AZ AY AR AV AI AH AN AP false _ A9.out).mono ?_); rintro e Cc ⟨rfl, hb⟩; refine ⟨_, rfl, ?_⟩; replace AJ := ak (Kd.R_below ((Kd.R_mono (Kd.R_far (p := ⟨AD, 1, none⟩) (Kd.R_far (p := ⟨AD, 0, none⟩) (Kd.R_mono AJ.out (fun k_ hk => (⟨hk, hk.2⟩ : _ ∧ k_ ≠ AD))) (fun _ hk => hk.2) (.int .i8 AN)) (fun _ hk => hk.2) (.int .i8 AP)) (fun _ h_ => h_.1))) hb); replace AB := ak (blk_below (g := Aj) (o := .cells #[.int .i8 AX, .int .i8 AS, .int .u16 AW, .int .u16 AQ, .int .u16 AT, .int .u16 AU, .int .u16 AZ, .int .u16 AY, .int .u16 AR, .int .u16 AV, .int .u16 AI, .int .u16 AH] 35 (0, 0)) (by refine blk_far ?_ AG.out _; refine blk_far ?_ AG.out _; exact AB.out) hb); replace AA := ak (blk_below (g := AK) (o := .cells #[.int .i8 AL, .int .i8 AM] 62 (0, 0)) (by refine blk_far ?_ AF.out _; refine blk_far ?_ AF.out _; exact AA.out) hb); replace AO := ak (blk_below (g := AD) (o := .cells #[.int .i8 AN, .int .i8 AP] 62 (0, 0)) (by refine blk_put (cs := #[.int .i8 AN, .int .i8 0]) ?_ 1 _ rfl; refine blk_put (cs := #[.int .i8 0, .int .i8 0]) ?_ 0 _ rfl; exact AO.out) hb); replace HB := kB3 HB AC AE Ad hb; (try clear hb); (try clear hk)))
 go_roundg k1
 case measure => have := BS.out; omega
 case rel => exact ⟨(Ai), (wrap64 (Ab + 1)), rfl, H', ⟨by have := BS.out; omega⟩, ⟨Kd.R_mono AJ.out (fun _ hk => hk.1)⟩, ⟨(zK AB.out)⟩, ⟨(zK AA.out)⟩, ⟨zH3 HB AC AE Ad⟩⟩
 }
 }
 {
 rw [if_neg c7] at H
 have CD : decide (Ab < 4) = false := decide_eq_false c7
 clear c7
 obtain rfl := Option.some.inj H
 go_wp2
 go_ret
 exact ⟨_, rfl, Kd.R_mono AJ.out (fun _ hk => trivial), zH2 HB AC AE⟩
 }
 )
 )
end Go.Proofs.Ytooidjdgfoioiaa.P
