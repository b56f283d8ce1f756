-- Printed by wip/print (my turned copy of the kit's print) out of the translation; Lean checks it.
import Derived.Test.YtooidjdgfoioiaaP0
import Derived.Test.YtooidjdgfoioiaaP1
import Derived.Test.YtooidjdgfoioiaaP2
namespace Go.Proofs.Ytooidjdgfoioiaa.P
open Go.RowKit Go.Proofs.YtooidjdgfoioiaaW.PrintWords Go.Proofs.YtooidjdgfoioiaaW.PrintLast Go.Proofs.YtooidjdgfoioiaaW.PrintMore
attribute [local go_sem] max2_int min2_int max_two min_two max_three min_three max_four min_four   -- for this text's walks alone
set_option linter.unusedVariables false
set_option linter.unusedSimpArgs false

/-! ### spec_l01Is: function 73 -/
def spec_l01Is.f (AC : Int) (AF : Int) (AP : Int) (AK : Int) (AL : Int) (AJ : Int) (AN : Int) (AM : Int) (AO : Int) (AI : Int) (AH : Int) (AG : Int) (AE : Int) (AD : Int) : Option (Bool) := (spec_l00In.f (wrap64 (AE)) 0 (wrap64 ((wrap64 (AC)) - 1))).bind fun AB => (if AB = true then ((spec_l00In.f (wrap64 (AD)) 0 (wrap64 ((wrap64 (AF)) - 1))).bind fun AA => (some AA)) else (some false))
set_option maxHeartbeats 8000000 in
set_option maxRecDepth 100000 in
theorem spec_l01Is.calls (b0 : Nat) (AH : Int) (A7 : Int) (BQ : Int) (BO : Int) (BU : Int) (BW : Int) (BV : Int) (BS : Int) (BR : Int) (BP : Int) (BJ : Int) (BK : Int) (AE : Int) (AG : Int) (r : Bool) (w : World) (BZ : w.heap[b0]? = some (.cells #[.int .i8 AH, .int .i8 A7, .int .u16 BQ, .int .u16 BO, .int .u16 BU, .int .u16 BW, .int .u16 BV, .int .u16 BS, .int .u16 BR, .int .u16 BP, .int .u16 BJ, .int .u16 BK] 35 (0, 0))) (h : spec_l01Is.f AH A7 BQ BO BU BW BV BS BR BP BJ BK AE AG = some r) :
    Calls Try.prog 73 #[.pointer (some ⟨b0, 0, none⟩), .agg #[.int .i8 AE, .int .i8 AG]] w fun e w' => e = .returned (.bool r) ∧ Below w.heap.size w w' := by
 have Bb := Try.underlying62
 have AD := ak BZ
 clear BZ
 have HB := ak (Below.refl w.heap.size w)
 have H := h
 unfold spec_l01Is.f at H
 clear h
 replace H := Option.bind_eq_some_iff.mp H
 obtain ⟨BX, Ba, H⟩ := H
 have A3 := ak Ba
 clear Ba
 by_cases c4 : BX = true
 {
 subst c4
 rw [if_pos rfl] at H
 replace H := Option.bind_eq_some_iff.mp H
 obtain ⟨BM, BY, H⟩ := H
 have A5 := ak BY
 clear BY
 obtain rfl := Option.some.inj H
 go_enter Try.func73, Try.ntmps73
 go_wp2_with (first | ((with_reducible refine gate_dst (N := 3) rfl ?_); refine box_event ?hg (N := 3) ?hd (cs := #[.int .i8 AE, .int .i8 AG]) (t := 62) ?hr ?_; (case hd => rfl); (case hg => rfl); (case hr => first | (go_simp; done) | (go_simp; rfl)); intro AI hg w6 hbox hb; have AC := ak (hbox); have AM := gS HB hg; have AF := gS HB hg; have AB := nL AD hg; have AA := nG AD hg; replace AD := kK AD hb; replace HB := kB HB hb; clear hb hbox hg; have BN := AA.out; have BT := AB.out; obtain ⟨At, A2, As, BB⟩ := cz2 w6 AC; obtain ⟨Au, Az, A0, A1, BF, BG, Ax, Aq, BC, A9, AU, Ak, A6, A8, Av, BD, BA, A4, Aw, BE, Ar, Ay, AY, AV⟩ := cz12 w6 AD) | (go_at_call 72; (with_reducible refine (spec_l00In.calls (wrap64 (AE)) 0 (wrap64 ((wrap64 (AH)) - 1)) true _ A3.out).mono ?_); rintro e w' ⟨rfl, ⟨nd, rfl⟩⟩) | (go_at_call 72; (with_reducible refine (spec_l00In.calls (wrap64 (AG)) 0 (wrap64 ((wrap64 (A7)) - 1)) BM _ A5.out).mono ?_); rintro e w' ⟨rfl, ⟨nd, rfl⟩⟩))
 repeat (go_quiet (first | ((with_reducible refine gate_dst (N := 3) rfl ?_); refine box_event ?hg (N := 3) ?hd (cs := #[.int .i8 AE, .int .i8 AG]) (t := 62) ?hr ?_; (case hd => rfl); (case hg => rfl); (case hr => first | (go_simp; done) | (go_simp; rfl)); intro AI hg w6 hbox hb; have AC := ak (hbox); have AM := gS HB hg; have AF := gS HB hg; have AB := nL AD hg; have AA := nG AD hg; replace AD := kK AD hb; replace HB := kB HB hb; clear hb hbox hg; have BN := AA.out; have BT := AB.out; obtain ⟨At, A2, As, BB⟩ := cz2 w6 AC; obtain ⟨Au, Az, A0, A1, BF, BG, Ax, Aq, BC, A9, AU, Ak, A6, A8, Av, BD, BA, A4, Aw, BE, Ar, Ay, AY, AV⟩ := cz12 w6 AD) | (go_at_call 72; (with_reducible refine (spec_l00In.calls (wrap64 (AE)) 0 (wrap64 ((wrap64 (AH)) - 1)) true _ A3.out).mono ?_); rintro e w' ⟨rfl, ⟨nd, rfl⟩⟩; (try first | exact ⟨rfl, _, World.drewN_drewN _ _ _⟩ | exact ⟨rfl, _, Eq.trans (World.drewN_drewN _ _ _) (congrArg (World.drewN _) (Nat.add_assoc _ _ _))⟩)) | (go_at_call 72; (with_reducible refine (spec_l00In.calls (wrap64 (AG)) 0 (wrap64 ((wrap64 (A7)) - 1)) BM _ A5.out).mono ?_); rintro e w' ⟨rfl, ⟨nd, rfl⟩⟩; (try first | exact ⟨rfl, _, World.drewN_drewN _ _ _⟩ | exact ⟨rfl, _, Eq.trans (World.drewN_drewN _ _ _) (congrArg (World.drewN _) (Nat.add_assoc _ _ _))⟩))); try go_wp2_with (first | ((with_reducible refine gate_dst (N := 3) rfl ?_); refine box_event ?hg (N := 3) ?hd (cs := #[.int .i8 AE, .int .i8 AG]) (t := 62) ?hr ?_; (case hd => rfl); (case hg => rfl); (case hr => first | (go_simp; done) | (go_simp; rfl)); intro AI hg w6 hbox hb; have AC := ak (hbox); have AM := gS HB hg; have AF := gS HB hg; have AB := nL AD hg; have AA := nG AD hg; replace AD := kK AD hb; replace HB := kB HB hb; clear hb hbox hg; have BN := AA.out; have BT := AB.out; obtain ⟨At, A2, As, BB⟩ := cz2 w6 AC; obtain ⟨Au, Az, A0, A1, BF, BG, Ax, Aq, BC, A9, AU, Ak, A6, A8, Av, BD, BA, A4, Aw, BE, Ar, Ay, AY, AV⟩ := cz12 w6 AD) | (go_at_call 72; (with_reducible refine (spec_l00In.calls (wrap64 (AE)) 0 (wrap64 ((wrap64 (AH)) - 1)) true _ A3.out).mono ?_); rintro e w' ⟨rfl, ⟨nd, rfl⟩⟩; (try first | exact ⟨rfl, _, World.drewN_drewN _ _ _⟩ | exact ⟨rfl, _, Eq.trans (World.drewN_drewN _ _ _) (congrArg (World.drewN _) (Nat.add_assoc _ _ _))⟩)) | (go_at_call 72; (with_reducible refine (spec_l00In.calls (wrap64 (AG)) 0 (wrap64 ((wrap64 (A7)) - 1)) BM _ A5.out).mono ?_); rintro e w' ⟨rfl, ⟨nd, rfl⟩⟩; (try first | exact ⟨rfl, _, World.drewN_drewN _ _ _⟩ | exact ⟨rfl, _, Eq.trans (World.drewN_drewN _ _ _) (congrArg (World.drewN _) (Nat.add_assoc _ _ _))⟩))))
 go_ret
 exact ⟨rfl, zBG HB.out AF.out⟩
 }
 {
 replace c4 := Bool.eq_false_iff.mpr c4
 subst c4
 rw [if_neg (show ¬ (false = true) by decide)] at H
 obtain rfl := Option.some.inj H
 go_enter Try.func73, Try.ntmps73
 go_wp2_with (first | ((with_reducible refine gate_dst (N := 3) rfl ?_); refine box_event ?hg (N := 3) ?hd (cs := #[.int .i8 AE, .int .i8 AG]) (t := 62) ?hr ?_; (case hd => rfl); (case hg => rfl); (case hr => first | (go_simp; done) | (go_simp; rfl)); intro AI hg BH hbox hb; have AC := ak (hbox); have AM := gS HB hg; have AF := gS HB hg; have AB := nL AD hg; have AA := nG AD hg; replace AD := kK AD hb; replace HB := kB HB hb; clear hb hbox hg; have BI := AA.out; have BL := AB.out; obtain ⟨Ai, Ap, AW, Al⟩ := cz2 BH AC; obtain ⟨Ad, AO, AX, Af, Ae, AT, An, Aj, Ab, AR, AL, AN, Ah, Am, AQ, AZ, AP, Ag, Ao, AS, Ac, Aa, AK, AJ⟩ := cz12 BH AD) | (go_at_call 72; (with_reducible refine (spec_l00In.calls (wrap64 (AE)) 0 (wrap64 ((wrap64 (AH)) - 1)) false _ A3.out).mono ?_); rintro e w' ⟨rfl, ⟨nd, rfl⟩⟩))
 repeat (go_quiet (first | ((with_reducible refine gate_dst (N := 3) rfl ?_); refine box_event ?hg (N := 3) ?hd (cs := #[.int .i8 AE, .int .i8 AG]) (t := 62) ?hr ?_; (case hd => rfl); (case hg => rfl); (case hr => first | (go_simp; done) | (go_simp; rfl)); intro AI hg BH hbox hb; have AC := ak (hbox); have AM := gS HB hg; have AF := gS HB hg; have AB := nL AD hg; have AA := nG AD hg; replace AD := kK AD hb; replace HB := kB HB hb; clear hb hbox hg; have BI := AA.out; have BL := AB.out; obtain ⟨Ai, Ap, AW, Al⟩ := cz2 BH AC; obtain ⟨Ad, AO, AX, Af, Ae, AT, An, Aj, Ab, AR, AL, AN, Ah, Am, AQ, AZ, AP, Ag, Ao, AS, Ac, Aa, AK, AJ⟩ := cz12 BH AD) | (go_at_call 72; (with_reducible refine (spec_l00In.calls (wrap64 (AE)) 0 (wrap64 ((wrap64 (AH)) - 1)) false _ A3.out).mono ?_); rintro e w' ⟨rfl, ⟨nd, rfl⟩⟩; (try first | exact ⟨rfl, _, World.drewN_drewN _ _ _⟩ | exact ⟨rfl, _, Eq.trans (World.drewN_drewN _ _ _) (congrArg (World.drewN _) (Nat.add_assoc _ _ _))⟩))); try go_wp2_with (first | ((with_reducible refine gate_dst (N := 3) rfl ?_); refine box_event ?hg (N := 3) ?hd (cs := #[.int .i8 AE, .int .i8 AG]) (t := 62) ?hr ?_; (case hd => rfl); (case hg => rfl); (case hr => first | (go_simp; done) | (go_simp; rfl)); intro AI hg BH hbox hb; have AC := ak (hbox); have AM := gS HB hg; have AF := gS HB hg; have AB := nL AD hg; have AA := nG AD hg; replace AD := kK AD hb; replace HB := kB HB hb; clear hb hbox hg; have BI := AA.out; have BL := AB.out; obtain ⟨Ai, Ap, AW, Al⟩ := cz2 BH AC; obtain ⟨Ad, AO, AX, Af, Ae, AT, An, Aj, Ab, AR, AL, AN, Ah, Am, AQ, AZ, AP, Ag, Ao, AS, Ac, Aa, AK, AJ⟩ := cz12 BH AD) | (go_at_call 72; (with_reducible refine (spec_l00In.calls (wrap64 (AE)) 0 (wrap64 ((wrap64 (AH)) - 1)) false _ A3.out).mono ?_); rintro e w' ⟨rfl, ⟨nd, rfl⟩⟩; (try first | exact ⟨rfl, _, World.drewN_drewN _ _ _⟩ | exact ⟨rfl, _, Eq.trans (World.drewN_drewN _ _ _) (congrArg (World.drewN _) (Nat.add_assoc _ _ _))⟩))))
 go_ret
 exact ⟨rfl, zBG HB.out AF.out⟩
 }
/-! ### spec_l03Cells: function 41 -/
def spec_l03Cells.l0 : Nat → List (S62) → Int → Int → Int → Int → Int → Int → Int → Int → Int → Int → Int → Int → Int → Option (Bool)
  | 0, _, _, _, _, _, _, _, _, _, _, _, _, _, _ => none
  | k + 1, x1, x5, AC, AJ, AE, AF, AG, AL, AB, AD, AA, AH, AI, AK => if x5 < (x1.length : Int) then (if 0 ≤ x5 then ((spec_l01Is.f AC AJ AE AF AG AL AB AD AA AH AI AK ((rd_T62 x1 x5).f0) ((rd_T62 x1 x5).f1)).bind fun AM => (if AM = true then (spec_l03Cells.l0 k x1 (wrap64 (x5 + 1)) AC AJ AE AF AG AL AB AD AA AH AI AK) else (some false))) else (none)) else (some true)
def spec_l03Cells.f (k : Nat) (AG : Int) (AI : Int) (AL : Int) (AE : Int) (AF : Int) (AD : Int) (AJ : Int) (AH : Int) (AK : Int) (AC : Int) (AB : Int) (AA : Int) (l1 : List (S62)) : Option (Bool) := spec_l03Cells.l0 k l1 0 AG AI AL AE AF AD AJ AH AK AC AB AA
set_option maxHeartbeats 8000000 in
set_option maxRecDepth 100000 in
theorem spec_l03Cells.calls (k : Nat) (b0 : Nat) (AZ : Int) (Ab : Int) (AX : Int) (AU : Int) (Ac : Int) (Ae : Int) (Ad : Int) (Aa : Int) (AY : Int) (AW : Int) (AR : Int) (AS : Int) (A1 : Option Addr) (c1 : Nat) (l1 : List (S62)) (r : Bool) (w : World) (Ak : Kd.C k62 w A1 l1.length l1) (Al : l1.length ≤ c1) (Aj : w.heap[b0]? = some (.cells #[.int .i8 AZ, .int .i8 Ab, .int .u16 AX, .int .u16 AU, .int .u16 Ac, .int .u16 Ae, .int .u16 Ad, .int .u16 Aa, .int .u16 AY, .int .u16 AW, .int .u16 AR, .int .u16 AS] 35 (0, 0))) (h : spec_l03Cells.f k AZ Ab AX AU Ac Ae Ad Aa AY AW AR AS l1 = some r) :
    Calls Try.prog 41 #[.pointer (some ⟨b0, 0, none⟩), .slice A1 l1.length c1] w fun e w' => e = .returned (.bool r) ∧ Below w.heap.size w w' := by
 have Ap := Try.underlying62
 have Am := ak Ak
 have Aq := ak Al
 clear Ak Al
 have AT := ak Aj
 clear Aj
 have HB := ak (Below.refl w.heap.size w)
 have H := h
 unfold spec_l03Cells.f at H
 clear h
 have H' := ak H
 clear H
 go_enter Try.func41, Try.ntmps41
 go_wp2
 go_loopg [5] k (fun kq v5 w' => ∃ (AA : Int) (AG : Int) (AJ : Int) (AF : Int) (AN : Int) (AL : Int) (AH : Int) (AI : Int) (AE : Int) (AO : Int) (AK : Int) (AM : Int) (AD : Int), v5 = .int .i64 AA ∧ Aside0 (spec_l03Cells.l0 kq l1 AA AG AJ AF AN AL AH AI AE AO AK AM AD = some r) ∧ Aside0 (kq ≤ k) ∧ Aside0 (w'.heap[b0]? = some (.cells #[.int .i8 AG, .int .i8 AJ, .int .u16 AF, .int .u16 AN, .int .u16 AL, .int .u16 AH, .int .u16 AI, .int .u16 AE, .int .u16 AO, .int .u16 AK, .int .u16 AM, .int .u16 AD] 35 (0, 0))) ∧ Aside0 (Below w.heap.size w w'))
 case atStart => exact ⟨(0), (AZ), (Ab), (AX), (AU), (Ac), (Ae), (Ad), (Aa), (AY), (AW), (AR), (AS), rfl, H', ⟨Nat.le_refl _⟩, ⟨(zK AT.out)⟩, ⟨zB HB.out⟩⟩
 case round => (
 clear H'
 obtain ⟨AA, AG, AJ, AF, AN, AL, AH, AI, AE, AO, AK, AM, AD, rfl, HA, An, AT, HB⟩ := hrel
 cases gk with
 | zero => exact absurd HA.out (by simp [spec_l03Cells.l0])
 | succ k1 => (
 have H := HA.out
 clear HA
 simp only [spec_l03Cells.l0] at H
 by_cases c3 : AA < (l1.length : Int)
 {
 rw [if_pos c3] at H
 have Ag : decide (AA < (l1.length : Int)) = true := decide_eq_true c3
 clear c3
 by_cases c4 : 0 ≤ AA
 {
 rw [if_pos c4] at H
 have Ao : decide (0 ≤ AA) = true := decide_eq_true c4
 clear c4
 replace H := Option.bind_eq_some_iff.mp H
 obtain ⟨Ah, Ai, H⟩ := H
 have A5 := ak Ai
 clear Ai
 by_cases c6 : Ah = true
 {
 subst c6
 rw [if_pos rfl] at H
 have H' := ak H
 clear H
 have AQ : 0 ≤ (AA : Int) := of_decide_eq_true (by assumption)
 have AP : AA < (l1.length : Int) := of_decide_eq_true (by assumption)
 obtain ⟨Af, AV, AC, AB⟩ := at_T62 Am.out AA AQ AP
 cases AV
 replace AC := (HB.out.cell (World.block_lt_of_cell? w _ AC)).trans AC
 replace AB := (HB.out.cell (World.block_lt_of_cell? w _ AB)).trans AB
 replace AQ := eq_true AQ
 replace AP := eq_true AP
 go_wp2_with (first | ((with_reducible refine gate_callee (f := 73) rfl ?_); refine goesL_ (some 17) rfl rfl Try.func73 (by kernel_rfl) rfl #[.pointer (some ⟨b0, 0, none⟩), .agg #[.int .i8 ((rd_T62 l1 AA).f0), .int .i8 ((rd_T62 l1 AA).f1)]] rfl gl_ ?_; (with_reducible refine (spec_l01Is.calls b0 AG AJ AF AN AL AH AI AE AO AK AM AD ((rd_T62 l1 AA).f0) ((rd_T62 l1 AA).f1) true _ ?side1 A5.out).mono ?_); (case side1 => exact (zK AT.out)); rintro e w7 ⟨rfl, hb⟩; refine ⟨_, rfl, ?_⟩; replace AT := kK AT hb; replace HB := kB HB hb; (try clear hb)))
 go_roundg k1
 case measure => have := An.out; omega
 case rel => exact ⟨(wrap64 (AA + 1)), (AG), (AJ), (AF), (AN), (AL), (AH), (AI), (AE), (AO), (AK), (AM), (AD), rfl, H', ⟨by have := An.out; omega⟩, ⟨(zK AT.out)⟩, ⟨zB HB.out⟩⟩
 }
 {
 replace c6 := Bool.eq_false_iff.mpr c6
 subst c6
 rw [if_neg (show ¬ (false = true) by decide)] at H
 obtain rfl := Option.some.inj H
 have AQ : 0 ≤ (AA : Int) := of_decide_eq_true (by assumption)
 have AP : AA < (l1.length : Int) := of_decide_eq_true (by assumption)
 obtain ⟨Af, AV, AC, AB⟩ := at_T62 Am.out AA AQ AP
 cases AV
 replace AC := (HB.out.cell (World.block_lt_of_cell? w _ AC)).trans AC
 replace AB := (HB.out.cell (World.block_lt_of_cell? w _ AB)).trans AB
 replace AQ := eq_true AQ
 replace AP := eq_true AP
 go_wp2_with (first | ((with_reducible refine gate_callee (f := 73) rfl ?_); refine goesL_ (some 17) rfl rfl Try.func73 (by kernel_rfl) rfl #[.pointer (some ⟨b0, 0, none⟩), .agg #[.int .i8 ((rd_T62 l1 AA).f0), .int .i8 ((rd_T62 l1 AA).f1)]] rfl gl_ ?_; (with_reducible refine (spec_l01Is.calls b0 AG AJ AF AN AL AH AI AE AO AK AM AD ((rd_T62 l1 AA).f0) ((rd_T62 l1 AA).f1) false _ ?side1 A5.out).mono ?_); (case side1 => exact (zK AT.out)); rintro e w8 ⟨rfl, hb⟩; refine ⟨_, rfl, ?_⟩; replace AT := kK AT hb; replace HB := kB HB hb; (try clear hb)))
 go_ret
 exact ⟨rfl, zB HB.out⟩
 }
 }
 · rw [if_neg c4] at H; exact absurd H (by simp)
 }
 {
 rw [if_neg c3] at H
 have Ag : decide (AA < (l1.length : Int)) = false := decide_eq_false c3
 clear c3
 obtain rfl := Option.some.inj H
 go_wp2
 go_ret
 exact ⟨rfl, zB HB.out⟩
 }
 )
 )
/-! ### spec_l01Asked: function 89 -/
def spec_l01Asked.f (k : Nat) (AH : Int) (AI : Int) (AL : Int) (AD : Int) (AF : Int) (AE : Int) (AJ : Int) (AG : Int) (AK : Int) (AC : Int) (AB : Int) (AA : Int) (AP : Int) (AO : Int) (a2 : Bool) : Option (Int) := (spec_l01Ok.f k AH AI AL AD AF AE AJ AG AK AC AB AA).bind fun AN => (if AN = true then ((spec_l01Is.f AH AI AL AD AF AE AJ AG AK AC AB AA AP AO).bind fun AM => (if AM = true then (if a2 = true then (some 0) else (some 2)) else (some 2))) else (some 1))
set_option maxHeartbeats 8000000 in
set_option maxRecDepth 100000 in
theorem spec_l01Asked.calls (k : Nat) (b0 : Nat) (AN : Int) (AO : Int) (AL : Int) (AJ : Int) (AQ : Int) (AS : Int) (AR : Int) (AP : Int) (AM : Int) (AK : Int) (AF : Int) (AG : Int) (AH : Int) (AI : Int) (a2 : Bool) (r : Int) (w : World) (Ak : w.heap[b0]? = some (.cells #[.int .i8 AN, .int .i8 AO, .int .u16 AL, .int .u16 AJ, .int .u16 AQ, .int .u16 AS, .int .u16 AR, .int .u16 AP, .int .u16 AM, .int .u16 AK, .int .u16 AF, .int .u16 AG] 35 (0, 0))) (h : spec_l01Asked.f k AN AO AL AJ AQ AS AR AP AM AK AF AG AH AI a2 = some r) :
    Calls Try.prog 89 #[.pointer (some ⟨b0, 0, none⟩), .agg #[.int .i8 AH, .int .i8 AI], .bool a2] w fun e w' => e = .returned (.int .i64 r) ∧ Below w.heap.size w w' := by
 have Au := Try.underlying62
 have AE := ak Ak
 clear Ak
 have HB := ak (Below.refl w.heap.size w)
 have H := h
 unfold spec_l01Asked.f at H
 clear h
 replace H := Option.bind_eq_some_iff.mp H
 obtain ⟨Ah, Aj, H⟩ := H
 have A4 := ak Aj
 clear Aj
 by_cases c5 : Ah = true
 {
 subst c5
 rw [if_pos rfl] at H
 replace H := Option.bind_eq_some_iff.mp H
 obtain ⟨Ai, Ar, H⟩ := H
 have A6 := ak Ar
 clear Ar
 by_cases c7 : Ai = true
 {
 subst c7
 rw [if_pos rfl] at H
 by_cases c8 : a2 = true
 {
 subst c8
 rw [if_pos rfl] at H
 obtain rfl := Option.some.inj H
 go_enter Try.func89, Try.ntmps89
 go_wp2_with (first | ((with_reducible refine gate_dst (N := 4) rfl ?_); refine box_event ?hg (N := 4) ?hd (cs := #[.int .i8 AH, .int .i8 AI]) (t := 62) ?hr ?_; (case hd => rfl); (case hg => rfl); (case hr => first | (go_simp; done) | (go_simp; rfl)); intro AU hg w9 hbox hb; have AA := ak (hbox); have AT := gS HB hg; have AD := gS HB hg; have AB := nL AE hg; have AC := nG AE hg; replace AE := kK AE hb; replace HB := kB HB hb; clear hb hbox hg) | ((with_reducible refine gate_callee (f := 40) rfl ?_); refine goesL_ (some 8) rfl rfl Try.func40 (by kernel_rfl) rfl #[.pointer (some ⟨b0, 0, none⟩)] rfl gl_ ?_; (with_reducible refine (spec_l01Ok.calls k b0 AN AO AL AJ AQ AS AR AP AM AK AF AG true _ ?side1 A4.out).mono ?_); (case side1 => exact (zK AE.out)); rintro e w' ⟨rfl, ⟨nd, rfl⟩⟩; refine ⟨_, rfl, ?_⟩; have Am := AC.out; have Ao := AB.out; obtain ⟨Af, Ae, Aa, Ac⟩ := cz2 w9 AA) | ((with_reducible refine gate_callee (f := 73) rfl ?_); refine goesL_ (some 12) rfl rfl Try.func73 (by kernel_rfl) rfl #[.pointer (some ⟨b0, 0, none⟩), .agg #[.int .i8 AH, .int .i8 AI]] rfl gl_ ?_; (with_reducible refine (spec_l01Is.calls b0 AN AO AL AJ AQ AS AR AP AM AK AF AG AH AI true _ ?side1 A6.out).mono ?_); (case side1 => exact (zK AE.out)); rintro e Aw ⟨rfl, hb⟩; refine ⟨_, rfl, ?_⟩; replace AE := kK AE hb; replace AA := kK AA hb; replace HB := kB1 HB AD hb; (try clear hb)))
 go_ret
 exact ⟨rfl, zBG HB.out AD.out⟩
 }
 {
 replace c8 := Bool.eq_false_iff.mpr c8
 subst c8
 rw [if_neg (show ¬ (false = true) by decide)] at H
 obtain rfl := Option.some.inj H
 go_enter Try.func89, Try.ntmps89
 go_wp2_with (first | ((with_reducible refine gate_dst (N := 4) rfl ?_); refine box_event ?hg (N := 4) ?hd (cs := #[.int .i8 AH, .int .i8 AI]) (t := 62) ?hr ?_; (case hd => rfl); (case hg => rfl); (case hr => first | (go_simp; done) | (go_simp; rfl)); intro AU hg At hbox hb; have AA := ak (hbox); have AT := gS HB hg; have AD := gS HB hg; have AB := nL AE hg; have AC := nG AE hg; replace AE := kK AE hb; replace HB := kB HB hb; clear hb hbox hg) | ((with_reducible refine gate_callee (f := 40) rfl ?_); refine goesL_ (some 8) rfl rfl Try.func40 (by kernel_rfl) rfl #[.pointer (some ⟨b0, 0, none⟩)] rfl gl_ ?_; (with_reducible refine (spec_l01Ok.calls k b0 AN AO AL AJ AQ AS AR AP AM AK AF AG true _ ?side1 A4.out).mono ?_); (case side1 => exact (zK AE.out)); rintro e w' ⟨rfl, ⟨nd, rfl⟩⟩; refine ⟨_, rfl, ?_⟩; have Al := AC.out; have An := AB.out; obtain ⟨AV, Ad, AX, AZ⟩ := cz2 At AA) | ((with_reducible refine gate_callee (f := 73) rfl ?_); refine goesL_ (some 12) rfl rfl Try.func73 (by kernel_rfl) rfl #[.pointer (some ⟨b0, 0, none⟩), .agg #[.int .i8 AH, .int .i8 AI]] rfl gl_ ?_; (with_reducible refine (spec_l01Is.calls b0 AN AO AL AJ AQ AS AR AP AM AK AF AG AH AI true _ ?side1 A6.out).mono ?_); (case side1 => exact (zK AE.out)); rintro e Ax ⟨rfl, hb⟩; refine ⟨_, rfl, ?_⟩; replace AE := kK AE hb; replace AA := kK AA hb; replace HB := kB1 HB AD hb; (try clear hb)))
 go_ret
 exact ⟨rfl, zBG HB.out AD.out⟩
 }
 }
 {
 replace c7 := Bool.eq_false_iff.mpr c7
 subst c7
 rw [if_neg (show ¬ (false = true) by decide)] at H
 obtain rfl := Option.some.inj H
 go_enter Try.func89, Try.ntmps89
 go_wp2_with (first | ((with_reducible refine gate_dst (N := 4) rfl ?_); refine box_event ?hg (N := 4) ?hd (cs := #[.int .i8 AH, .int .i8 AI]) (t := 62) ?hr ?_; (case hd => rfl); (case hg => rfl); (case hr => first | (go_simp; done) | (go_simp; rfl)); intro AU hg As hbox hb; have AA := ak (hbox); have AT := gS HB hg; have AD := gS HB hg; have AB := nL AE hg; have AC := nG AE hg; replace AE := kK AE hb; replace HB := kB HB hb; clear hb hbox hg) | ((with_reducible refine gate_callee (f := 40) rfl ?_); refine goesL_ (some 8) rfl rfl Try.func40 (by kernel_rfl) rfl #[.pointer (some ⟨b0, 0, none⟩)] rfl gl_ ?_; (with_reducible refine (spec_l01Ok.calls k b0 AN AO AL AJ AQ AS AR AP AM AK AF AG true _ ?side1 A4.out).mono ?_); (case side1 => exact (zK AE.out)); rintro e w' ⟨rfl, ⟨nd, rfl⟩⟩; refine ⟨_, rfl, ?_⟩; have Ap := AC.out; have Aq := AB.out; obtain ⟨Ag, AY, Ab, AW⟩ := cz2 As AA) | ((with_reducible refine gate_callee (f := 73) rfl ?_); refine goesL_ (some 12) rfl rfl Try.func73 (by kernel_rfl) rfl #[.pointer (some ⟨b0, 0, none⟩), .agg #[.int .i8 AH, .int .i8 AI]] rfl gl_ ?_; (with_reducible refine (spec_l01Is.calls b0 AN AO AL AJ AQ AS AR AP AM AK AF AG AH AI false _ ?side1 A6.out).mono ?_); (case side1 => exact (zK AE.out)); rintro e Av ⟨rfl, hb⟩; refine ⟨_, rfl, ?_⟩; replace AE := kK AE hb; replace AA := kK AA hb; replace HB := kB1 HB AD hb; (try clear hb)))
 go_ret
 exact ⟨rfl, zBG HB.out AD.out⟩
 }
 }
 {
 replace c5 := Bool.eq_false_iff.mpr c5
 subst c5
 rw [if_neg (show ¬ (false = true) by decide)] at H
 obtain rfl := Option.some.inj H
 go_enter Try.func89, Try.ntmps89
 go_wp2_with (first | ((with_reducible refine gate_dst (N := 4) rfl ?_); refine box_event ?hg (N := 4) ?hd (cs := #[.int .i8 AH, .int .i8 AI]) (t := 62) ?hr ?_; (case hd => rfl); (case hg => rfl); (case hr => first | (go_simp; done) | (go_simp; rfl)); intro AU hg Ay hbox hb; have AA := ak (hbox); have AT := gS HB hg; have AD := gS HB hg; have AB := nL AE hg; have AC := nG AE hg; replace AE := kK AE hb; replace HB := kB HB hb; clear hb hbox hg) | ((with_reducible refine gate_callee (f := 40) rfl ?_); refine goesL_ (some 8) rfl rfl Try.func40 (by kernel_rfl) rfl #[.pointer (some ⟨b0, 0, none⟩)] rfl gl_ ?_; (with_reducible refine (spec_l01Ok.calls k b0 AN AO AL AJ AQ AS AR AP AM AK AF AG false _ ?side1 A4.out).mono ?_); (case side1 => exact (zK AE.out)); rintro e w' ⟨rfl, ⟨nd, rfl⟩⟩; refine ⟨_, rfl, ?_⟩))
 go_ret
 exact ⟨rfl, zBG HB.out AD.out⟩
 }
end Go.Proofs.Ytooidjdgfoioiaa.P
