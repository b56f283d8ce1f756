-- Printed by wip/print (my turned copy of the kit's print) out of the translation; Lean checks it.
import Derived.Test.YtlggjfhoecaelaaGreatDoorP0
import Derived.Test.YtlggjfhoecaelaaGreatDoorP3
namespace Go.Proofs.YtlggjfhoecaelaaGreatDoor.P
open Go.RowKit Go.Proofs.YtlggjfhoecaelaaGreatDoorW.PrintWords Go.Proofs.YtlggjfhoecaelaaGreatDoorW.PrintLast Go.Proofs.YtlggjfhoecaelaaGreatDoorW.PrintMore
attribute [local go_sem] max2_int min2_int max_two min_two max_three min_three max_four min_four   -- for this text's walks alone
set_option linter.unusedVariables false
set_option linter.unusedSimpArgs false

/-! ### spec_l00Same: function 43 -/
def spec_l00Same.l0 : Nat → List Int → List Int → Int → Option (Bool)
  | 0, _, _, _ => none
  | k + 1, x0, x1, x5 => if x5 < (x0.length : Int) then (if 0 ≤ x5 then (if x5 < (x1.length : Int) then (if (rd x0 x5) = (rd x1 x5) then (spec_l00Same.l0 k x0 x1 (wrap64 (x5 + 1))) else (some false)) else (none)) else (none)) else (some true)
def spec_l00Same.f (k : Nat) (l0 : List Int) (l1 : List Int) : Option (Bool) := if (l0.length : Int) = (l1.length : Int) then (spec_l00Same.l0 k l0 l1 0) else (some false)
set_option maxHeartbeats 8000000 in
set_option maxRecDepth 100000 in
theorem spec_l00Same.calls (k : Nat) (A0 : Option Addr) (c0 : Nat) (l0 : List Int) (A1 : Option Addr) (c1 : Nat) (l1 : List Int) (r : Bool) (w : World) (AU : Kd.C (Kd.int .i64) w A0 l0.length l0) (AS : l0.length ≤ c0) (AR : Kd.C (Kd.int .i64) w A1 l1.length l1) (AT : l1.length ≤ c1) (h : spec_l00Same.f k l0 l1 = some r) :
    Calls Tryz.prog 43 #[.slice A0 l0.length c0, .slice A1 l1.length c1] w fun e w' => e = .returned (.bool r) ∧ Drawn0 w w' := by
 have AX := ak AU
 have Aa := ak AS
 clear AU AS
 have AV := ak AR
 have Ab := ak AT
 clear AR AT
 have H := h
 unfold spec_l00Same.f at H
 clear h
 by_cases c3 : (l0.length : Int) = (l1.length : Int)
 {
 rw [if_pos c3] at H
 have AN : ((l0.length : Int) == (l1.length : Int)) = true := beq_iff_eq.mpr c3
 have AL : ((l0.length : Int) != (l1.length : Int)) = false := bne_eq_false_iff_eq.mpr c3
 have AM : (l0.length == l1.length) = true := by first | simpa using c3 | (simp at c3 ⊢; omega)
 clear c3
 have H' := ak H
 clear H
 go_enter Tryz.func43, Tryz.ntmps43
 go_wp2
 repeat (go_quiet (fail); try go_wp2)
 go_loopg [5] k (fun kq v5 w' => ∃ (AA : Int), v5 = .int .i64 AA ∧ Aside0 (spec_l00Same.l0 kq l0 l1 AA = some r) ∧ Aside0 (kq ≤ k) ∧ Drawn0 w w')
 case atStart => exact ⟨(0), rfl, H', ⟨Nat.le_refl _⟩, by repeat (first | exact Drawn0.refl _ | apply Drawn0.step)⟩
 case round => (
 clear H'
 obtain ⟨AA, rfl, HA, AW, ⟨m1, rfl⟩⟩ := hrel
 cases gk with
 | zero => exact absurd HA.out (by simp [spec_l00Same.l0])
 | succ k1 => (
 have H := HA.out
 clear HA
 simp only [spec_l00Same.l0] at H
 by_cases c4 : AA < (l0.length : Int)
 {
 rw [if_pos c4] at H
 have AO : decide (AA < (l0.length : Int)) = true := decide_eq_true c4
 clear c4
 by_cases c5 : 0 ≤ AA
 {
 rw [if_pos c5] at H
 have AY : decide (0 ≤ AA) = true := decide_eq_true c5
 clear c5
 by_cases c6 : AA < (l1.length : Int)
 {
 rw [if_pos c6] at H
 have AZ : decide (AA < (l1.length : Int)) = true := decide_eq_true c6
 clear c6
 by_cases c7 : (rd l0 AA) = (rd l1 AA)
 {
 rw [if_pos c7] at H
 have AQ : ((rd l0 AA) == (rd l1 AA)) = true := beq_iff_eq.mpr c7
 have AP : ((rd l0 AA) != (rd l1 AA)) = false := bne_eq_false_iff_eq.mpr c7
 clear c7
 have H' := ak H
 clear H
 have AB : 0 ≤ (AA : Int) := of_decide_eq_true (by assumption)
 have AD : AA < (l0.length : Int) := of_decide_eq_true (by assumption)
 obtain ⟨AK, AI, AF⟩ := Kd.at_int AX.out AA AB AD
 cases AI
 replace AB := eq_true AB
 replace AD := eq_true AD
 have AC : 0 ≤ (AA : Int) := of_decide_eq_true (by assumption)
 have AE : AA < (l1.length : Int) := of_decide_eq_true (by assumption)
 obtain ⟨AJ, AH, AG⟩ := Kd.at_int AV.out AA AC AE
 cases AH
 replace AC := eq_true AC
 replace AE := eq_true AE
 go_wp2
 repeat (go_quiet (fail); try go_wp2)
 go_roundg k1
 case measure => have := AW.out; omega
 case rel => exact ⟨(wrap64 (AA + 1)), rfl, H', ⟨by have := AW.out; omega⟩, by repeat (first | exact Drawn0.refl _ | apply Drawn0.step)⟩
 }
 {
 rw [if_neg c7] at H
 have AQ : ((rd l0 AA) == (rd l1 AA)) = false := beq_eq_false_iff_ne.mpr c7
 have AP : ((rd l0 AA) != (rd l1 AA)) = true := bne_iff_ne.mpr c7
 obtain rfl := Option.some.inj H
 have AB : 0 ≤ (AA : Int) := of_decide_eq_true (by assumption)
 have AD : AA < (l0.length : Int) := of_decide_eq_true (by assumption)
 obtain ⟨AK, AI, AF⟩ := Kd.at_int AX.out AA AB AD
 cases AI
 replace AB := eq_true AB
 replace AD := eq_true AD
 have AC : 0 ≤ (AA : Int) := of_decide_eq_true (by assumption)
 have AE : AA < (l1.length : Int) := of_decide_eq_true (by assumption)
 obtain ⟨AJ, AH, AG⟩ := Kd.at_int AV.out AA AC AE
 cases AH
 replace AC := eq_true AC
 replace AE := eq_true AE
 go_wp2
 repeat (go_quiet (fail); try go_wp2)
 go_ret
 exact ⟨by first | rfl | (simp; done) | (simp [*]; done), by repeat (first | exact Drawn0.refl _ | apply Drawn0.step)⟩
 }
 }
 · rw [if_neg c6] at H; exact absurd H (by simp)
 }
 · rw [if_neg c5] at H; exact absurd H (by simp)
 }
 {
 rw [if_neg c4] at H
 have AO : decide (AA < (l0.length : Int)) = false := decide_eq_false c4
 clear c4
 obtain rfl := Option.some.inj H
 go_wp2
 repeat (go_quiet (fail); try go_wp2)
 go_ret
 exact ⟨by first | rfl | (simp; done) | (simp [*]; done), by repeat (first | exact Drawn0.refl _ | apply Drawn0.step)⟩
 }
 )
 )
 }
 {
 rw [if_neg c3] at H
 have AN : ((l0.length : Int) == (l1.length : Int)) = false := beq_eq_false_iff_ne.mpr c3
 have AL : ((l0.length : Int) != (l1.length : Int)) = true := bne_iff_ne.mpr c3
 have AM : (l0.length == l1.length) = false := by first | simpa using c3 | (simp at c3 ⊢; omega)
 obtain rfl := Option.some.inj H
 go_enter Tryz.func43, Tryz.ntmps43
 go_wp2
 repeat (go_quiet (fail); try go_wp2)
 go_ret
 exact ⟨by first | rfl | (simp; done) | (simp [*]; done), by repeat (first | exact Drawn0.refl _ | apply Drawn0.step)⟩
 }
/-! ### spec_SameNumbers: function 14 -/
def spec_SameNumbers.f (k : Nat) (l0 : List Int) (l1 : List Int) : Option (Bool) := (spec_l00Same.f k l0 l1).bind fun AA => (some AA)
set_option maxHeartbeats 8000000 in
set_option maxRecDepth 100000 in
theorem spec_SameNumbers.calls (k : Nat) (A0 : Option Addr) (c0 : Nat) (l0 : List Int) (A1 : Option Addr) (c1 : Nat) (l1 : List Int) (r : Bool) (w : World) (AE : Kd.C (Kd.int .i64) w A0 l0.length l0) (AC : l0.length ≤ c0) (AB : Kd.C (Kd.int .i64) w A1 l1.length l1) (AD : l1.length ≤ c1) (h : spec_SameNumbers.f k l0 l1 = some r) :
    Calls Tryz.prog 14 #[.slice A0 l0.length c0, .slice A1 l1.length c1] w fun e w' => e = .returned (.bool r) ∧ Drawn0 w w' := by
 have AJ := ak AE
 have AG := ak AC
 clear AE AC
 have AI := ak AB
 have AH := ak AD
 clear AB AD
 have H := h
 unfold spec_SameNumbers.f at H
 clear h
 replace H := Option.bind_eq_some_iff.mp H
 obtain ⟨AA, AF, H⟩ := H
 have A3 := ak AF
 clear AF
 obtain rfl := Option.some.inj H
 go_enter Tryz.func14, Tryz.ntmps14
 go_wp2_with (first | ((with_reducible refine gate_callee (f := 43) rfl ?_); refine goesL_ (some 7) rfl rfl Tryz.func43 (by kernel_rfl) rfl #[.slice A0 l0.length c0, .slice A1 l1.length c1] rfl gl_ ?_; (with_reducible refine (spec_l00Same.calls k _ _ l0 _ _ l1 AA _ ?side1 ?side2 ?side3 ?side4 A3.out).mono ?_); (case side1 => exact sD AJ); (case side2 => exact AG.out); (case side3 => exact sD AI); (case side4 => exact AH.out); rintro e w' ⟨rfl, ⟨nd, rfl⟩⟩; refine ⟨_, rfl, ?_⟩))
 go_ret
 exact ⟨by first | rfl | (simp; done) | (simp [*]; done), by repeat (first | exact Drawn0.refl _ | apply Drawn0.step)⟩
/-! ### impl_Rope_isHold: function 44 -/
def impl_Rope_isHold.f (AG : Int) (AA : List Int) (AE : Int) (AF : Int) : Option (Bool) := (impl_within.f (wrap64 (AE)) 0 999).bind fun AB => (if AB = true then ((impl_size_int16.f AA).bind fun AD => ((impl_within.f (wrap64 (AF)) 0 (wrap64 (AD - 1))).bind fun AC => (some AC))) else (some false))
set_option maxHeartbeats 8000000 in
set_option maxRecDepth 100000 in
theorem impl_Rope_isHold.calls (AJ : Int) (AL : Option Addr) (AK : Nat) (AE : List Int) (AI : Int) (AM : Int) (r : Bool) (w : World) (Af : Kd.C (Kd.int .i16) w AL AE.length AE) (Ag : AE.length ≤ AK) (h : impl_Rope_isHold.f AJ AE AI AM = some r) :
    Calls Tryz.prog 44 #[.agg #[.int .i16 AJ, .slice AL AE.length AK], .agg #[.int .i16 AI, .int .i8 AM]] w fun e w' => e = .returned (.bool r) ∧ Below w.heap.size w w' := by
 have At := Tryz.underlying27
 have As := Tryz.underlying52
 have Ae := ak Af
 have Ad := ak Ag
 clear Af Ag
 have HB := ak (Below.refl w.heap.size w)
 have H := h
 unfold impl_Rope_isHold.f at H
 clear h
 replace H := Option.bind_eq_some_iff.mp H
 obtain ⟨An, Ap, H⟩ := H
 have A3 := ak Ap
 clear Ap
 by_cases c4 : An = true
 {
 subst c4
 rw [if_pos rfl] at H
 replace H := Option.bind_eq_some_iff.mp H
 obtain ⟨Ac, Ar, H⟩ := H
 have A5 := ak Ar
 clear Ar
 replace H := Option.bind_eq_some_iff.mp H
 obtain ⟨Aj, Ao, H⟩ := H
 have A6 := ak Ao
 clear Ao
 obtain rfl := Option.some.inj H
 go_enter Tryz.func44, Tryz.ntmps44
 go_wp2_with (first | ((with_reducible refine gate_dst (N := 2) rfl ?_); refine box_event ?hg (N := 2) ?hd (cs := #[.int .i16 AJ, .slice AL AE.length AK]) (t := 27) ?hr ?_; (case hd => rfl); (case hg => rfl); (case hr => first | (go_simp; done) | (go_simp; rfl)); intro AF hg w7 hbox hb; have AA := ak (hbox); have AR := gS HB hg; have AB := gS HB hg; replace HB := kB HB hb; clear hb hbox hg) | ((with_reducible refine gate_dst (N := 3) rfl ?_); refine box_event ?hg (N := 3) ?hd (cs := #[.int .i16 AI, .int .i8 AM]) (t := 52) ?hr ?_; (case hd => rfl); (case hg => rfl); (case hr => first | (go_simp; done) | (go_simp; rfl)); intro AT hg w8 hbox hb; have AG := ak (hbox); have AS := gS1 HB AB hg; have AH := gS1 HB AB hg; have AD := nL AA hg; have AC := nG AA hg; replace AA := kK AA hb; replace HB := kB1 HB AB hb; clear hb hbox hg; have Ak := AC.out; have Am := AD.out; obtain ⟨AZ, AY, AU, AV⟩ := cz2 w8 AG) | (go_at_call 41; (with_reducible refine (impl_within.calls (wrap64 (AI)) 0 999 true _ A3.out).mono ?_); rintro e w' ⟨rfl, ⟨nd, rfl⟩⟩; obtain ⟨AQ, AN, AP, AO⟩ := cz2 w8 AA) | (go_at_call 42; (with_reducible refine (impl_size_int16.calls _ _ AE Ac _ ?side1 ?side2 A5.out).mono ?_); (case side1 => exact sQ (Kd.C_below Ae.out (zH2 HB AB AH))); (case side2 => exact Ad.out); rintro e w' ⟨rfl, ⟨nd, rfl⟩⟩) | (go_at_call 41; (with_reducible refine (impl_within.calls (wrap64 (AM)) 0 (wrap64 (Ac - 1)) Aj _ A6.out).mono ?_); rintro e w' ⟨rfl, ⟨nd, rfl⟩⟩))
 try (have AQ : w8.cell? ⟨AF, 0, none⟩ = some (.int .i16 AJ) := (blk_cell AA.out 0).trans rfl; have AN : w8.cell? ⟨AF, 1, none⟩ = some (.slice AL AE.length AK) := (blk_cell AA.out 1).trans rfl; have AP := blk_frozen AA.out 0; have AO := blk_frozen AA.out 1)
 repeat (go_quiet (first | ((with_reducible refine gate_dst (N := 2) rfl ?_); refine box_event ?hg (N := 2) ?hd (cs := #[.int .i16 AJ, .slice AL AE.length AK]) (t := 27) ?hr ?_; (case hd => rfl); (case hg => rfl); (case hr => first | (go_simp; done) | (go_simp; rfl)); intro AF hg w7 hbox hb; have AA := ak (hbox); have AR := gS HB hg; have AB := gS HB hg; replace HB := kB HB hb; clear hb hbox hg) | ((with_reducible refine gate_dst (N := 3) rfl ?_); refine box_event ?hg (N := 3) ?hd (cs := #[.int .i16 AI, .int .i8 AM]) (t := 52) ?hr ?_; (case hd => rfl); (case hg => rfl); (case hr => first | (go_simp; done) | (go_simp; rfl)); intro AT hg w8 hbox hb; have AG := ak (hbox); have AS := gS1 HB AB hg; have AH := gS1 HB AB hg; have AD := nL AA hg; have AC := nG AA hg; replace AA := kK AA hb; replace HB := kB1 HB AB hb; clear hb hbox hg; have Ak := AC.out; have Am := AD.out; obtain ⟨AZ, AY, AU, AV⟩ := cz2 w8 AG) | (go_at_call 41; (with_reducible refine (impl_within.calls (wrap64 (AI)) 0 999 true _ A3.out).mono ?_); rintro e w' ⟨rfl, ⟨nd, rfl⟩⟩; (try first | exact ⟨rfl, _, World.drewN_drewN _ _ _⟩ | exact ⟨rfl, _, Eq.trans (World.drewN_drewN _ _ _) (congrArg (World.drewN _) (Nat.add_assoc _ _ _))⟩); try (have AQ : w8.cell? ⟨AF, 0, none⟩ = some (.int .i16 AJ) := (blk_cell AA.out 0).trans rfl; have AN : w8.cell? ⟨AF, 1, none⟩ = some (.slice AL AE.length AK) := (blk_cell AA.out 1).trans rfl; have AP := blk_frozen AA.out 0; have AO := blk_frozen AA.out 1)) | (go_at_call 42; (with_reducible refine (impl_size_int16.calls _ _ AE Ac _ ?side1 ?side2 A5.out).mono ?_); (case side1 => exact sQ (Kd.C_below Ae.out (zH2 HB AB AH))); (case side2 => exact Ad.out); rintro e w' ⟨rfl, ⟨nd, rfl⟩⟩; (try first | exact ⟨rfl, _, World.drewN_drewN _ _ _⟩ | exact ⟨rfl, _, Eq.trans (World.drewN_drewN _ _ _) (congrArg (World.drewN _) (Nat.add_assoc _ _ _))⟩)) | (go_at_call 41; (with_reducible refine (impl_within.calls (wrap64 (AM)) 0 (wrap64 (Ac - 1)) Aj _ A6.out).mono ?_); rintro e w' ⟨rfl, ⟨nd, rfl⟩⟩; (try first | exact ⟨rfl, _, World.drewN_drewN _ _ _⟩ | exact ⟨rfl, _, Eq.trans (World.drewN_drewN _ _ _) (congrArg (World.drewN _) (Nat.add_assoc _ _ _))⟩))); try go_wp2_with (first | ((with_reducible refine gate_dst (N := 2) rfl ?_); refine box_event ?hg (N := 2) ?hd (cs := #[.int .i16 AJ, .slice AL AE.length AK]) (t := 27) ?hr ?_; (case hd => rfl); (case hg => rfl); (case hr => first | (go_simp; done) | (go_simp; rfl)); intro AF hg w7 hbox hb; have AA := ak (hbox); have AR := gS HB hg; have AB := gS HB hg; replace HB := kB HB hb; clear hb hbox hg) | ((with_reducible refine gate_dst (N := 3) rfl ?_); refine box_event ?hg (N := 3) ?hd (cs := #[.int .i16 AI, .int .i8 AM]) (t := 52) ?hr ?_; (case hd => rfl); (case hg => rfl); (case hr => first | (go_simp; done) | (go_simp; rfl)); intro AT hg w8 hbox hb; have AG := ak (hbox); have AS := gS1 HB AB hg; have AH := gS1 HB AB hg; have AD := nL AA hg; have AC := nG AA hg; replace AA := kK AA hb; replace HB := kB1 HB AB hb; clear hb hbox hg; have Ak := AC.out; have Am := AD.out; obtain ⟨AZ, AY, AU, AV⟩ := cz2 w8 AG) | (go_at_call 41; (with_reducible refine (impl_within.calls (wrap64 (AI)) 0 999 true _ A3.out).mono ?_); rintro e w' ⟨rfl, ⟨nd, rfl⟩⟩; (try first | exact ⟨rfl, _, World.drewN_drewN _ _ _⟩ | exact ⟨rfl, _, Eq.trans (World.drewN_drewN _ _ _) (congrArg (World.drewN _) (Nat.add_assoc _ _ _))⟩); try (have AQ : w8.cell? ⟨AF, 0, none⟩ = some (.int .i16 AJ) := (blk_cell AA.out 0).trans rfl; have AN : w8.cell? ⟨AF, 1, none⟩ = some (.slice AL AE.length AK) := (blk_cell AA.out 1).trans rfl; have AP := blk_frozen AA.out 0; have AO := blk_frozen AA.out 1)) | (go_at_call 42; (with_reducible refine (impl_size_int16.calls _ _ AE Ac _ ?side1 ?side2 A5.out).mono ?_); (case side1 => exact sQ (Kd.C_below Ae.out (zH2 HB AB AH))); (case side2 => exact Ad.out); rintro e w' ⟨rfl, ⟨nd, rfl⟩⟩; (try first | exact ⟨rfl, _, World.drewN_drewN _ _ _⟩ | exact ⟨rfl, _, Eq.trans (World.drewN_drewN _ _ _) (congrArg (World.drewN _) (Nat.add_assoc _ _ _))⟩)) | (go_at_call 41; (with_reducible refine (impl_within.calls (wrap64 (AM)) 0 (wrap64 (Ac - 1)) Aj _ A6.out).mono ?_); rintro e w' ⟨rfl, ⟨nd, rfl⟩⟩; (try first | exact ⟨rfl, _, World.drewN_drewN _ _ _⟩ | exact ⟨rfl, _, Eq.trans (World.drewN_drewN _ _ _) (congrArg (World.drewN _) (Nat.add_assoc _ _ _))⟩))))
 go_ret
 exact ⟨rfl, zH2 HB AB AH⟩
 }
 {
 replace c4 := Bool.eq_false_iff.mpr c4
 subst c4
 rw [if_neg (show ¬ (false = true) by decide)] at H
 obtain rfl := Option.some.inj H
 go_enter Tryz.func44, Tryz.ntmps44
 go_wp2_with (first | ((with_reducible refine gate_dst (N := 2) rfl ?_); refine box_event ?hg (N := 2) ?hd (cs := #[.int .i16 AJ, .slice AL AE.length AK]) (t := 27) ?hr ?_; (case hd => rfl); (case hg => rfl); (case hr => first | (go_simp; done) | (go_simp; rfl)); intro AF hg Aq hbox hb; have AA := ak (hbox); have AR := gS HB hg; have AB := gS HB hg; replace HB := kB HB hb; clear hb hbox hg) | ((with_reducible refine gate_dst (N := 3) rfl ?_); refine box_event ?hg (N := 3) ?hd (cs := #[.int .i16 AI, .int .i8 AM]) (t := 52) ?hr ?_; (case hd => rfl); (case hg => rfl); (case hr => first | (go_simp; done) | (go_simp; rfl)); intro AT hg Al hbox hb; have AG := ak (hbox); have AS := gS1 HB AB hg; have AH := gS1 HB AB hg; have AD := nL AA hg; have AC := nG AA hg; replace AA := kK AA hb; replace HB := kB1 HB AB hb; clear hb hbox hg; have Ai := AC.out; have Ah := AD.out; obtain ⟨AX, AW, Aa, Ab⟩ := cz2 Al AG) | (go_at_call 41; (with_reducible refine (impl_within.calls (wrap64 (AI)) 0 999 false _ A3.out).mono ?_); rintro e w' ⟨rfl, ⟨nd, rfl⟩⟩))
 repeat (go_quiet (first | ((with_reducible refine gate_dst (N := 2) rfl ?_); refine box_event ?hg (N := 2) ?hd (cs := #[.int .i16 AJ, .slice AL AE.length AK]) (t := 27) ?hr ?_; (case hd => rfl); (case hg => rfl); (case hr => first | (go_simp; done) | (go_simp; rfl)); intro AF hg Aq hbox hb; have AA := ak (hbox); have AR := gS HB hg; have AB := gS HB hg; replace HB := kB HB hb; clear hb hbox hg) | ((with_reducible refine gate_dst (N := 3) rfl ?_); refine box_event ?hg (N := 3) ?hd (cs := #[.int .i16 AI, .int .i8 AM]) (t := 52) ?hr ?_; (case hd => rfl); (case hg => rfl); (case hr => first | (go_simp; done) | (go_simp; rfl)); intro AT hg Al hbox hb; have AG := ak (hbox); have AS := gS1 HB AB hg; have AH := gS1 HB AB hg; have AD := nL AA hg; have AC := nG AA hg; replace AA := kK AA hb; replace HB := kB1 HB AB hb; clear hb hbox hg; have Ai := AC.out; have Ah := AD.out; obtain ⟨AX, AW, Aa, Ab⟩ := cz2 Al AG) | (go_at_call 41; (with_reducible refine (impl_within.calls (wrap64 (AI)) 0 999 false _ A3.out).mono ?_); rintro e w' ⟨rfl, ⟨nd, rfl⟩⟩; (try first | exact ⟨rfl, _, World.drewN_drewN _ _ _⟩ | exact ⟨rfl, _, Eq.trans (World.drewN_drewN _ _ _) (congrArg (World.drewN _) (Nat.add_assoc _ _ _))⟩))); try go_wp2_with (first | ((with_reducible refine gate_dst (N := 2) rfl ?_); refine box_event ?hg (N := 2) ?hd (cs := #[.int .i16 AJ, .slice AL AE.length AK]) (t := 27) ?hr ?_; (case hd => rfl); (case hg => rfl); (case hr => first | (go_simp; done) | (go_simp; rfl)); intro AF hg Aq hbox hb; have AA := ak (hbox); have AR := gS HB hg; have AB := gS HB hg; replace HB := kB HB hb; clear hb hbox hg) | ((with_reducible refine gate_dst (N := 3) rfl ?_); refine box_event ?hg (N := 3) ?hd (cs := #[.int .i16 AI, .int .i8 AM]) (t := 52) ?hr ?_; (case hd => rfl); (case hg => rfl); (case hr => first | (go_simp; done) | (go_simp; rfl)); intro AT hg Al hbox hb; have AG := ak (hbox); have AS := gS1 HB AB hg; have AH := gS1 HB AB hg; have AD := nL AA hg; have AC := nG AA hg; replace AA := kK AA hb; replace HB := kB1 HB AB hb; clear hb hbox hg; have Ai := AC.out; have Ah := AD.out; obtain ⟨AX, AW, Aa, Ab⟩ := cz2 Al AG) | (go_at_call 41; (with_reducible refine (impl_within.calls (wrap64 (AI)) 0 999 false _ A3.out).mono ?_); rintro e w' ⟨rfl, ⟨nd, rfl⟩⟩; (try first | exact ⟨rfl, _, World.drewN_drewN _ _ _⟩ | exact ⟨rfl, _, Eq.trans (World.drewN_drewN _ _ _) (congrArg (World.drewN _) (Nat.add_assoc _ _ _))⟩))))
 go_ret
 exact ⟨rfl, zH2 HB AB AH⟩
 }
/-! ### impl_ValidHolds_1: function 46 -/
def impl_ValidHolds_1.f (AB : Int) (AD : Int) (AA : Int) (AC : Int) : Option (Bool) := some (AB == AA)
set_option maxHeartbeats 8000000 in
set_option maxRecDepth 100000 in
theorem impl_ValidHolds_1.calls (AC : Int) (AD : Int) (b1 : Nat) (AF : Int) (AH : Int) (r : Bool) (w : World) (AT : w.heap[b1]? = some (.cells #[.int .i16 AF, .int .i8 AH] 52 (0, 0))) (h : impl_ValidHolds_1.f AC AD AF AH = some r) :
    Calls Tryz.prog 46 #[.agg #[.int .i16 AC, .int .i8 AD], .pointer (some ⟨b1, 0, none⟩)] w fun e w' => e = .returned (.bool r) ∧ Below w.heap.size w w' := by
 have AW := Tryz.underlying52
 have AG := ak AT
 clear AT
 have HB := ak (Below.refl w.heap.size w)
 have H := h
 unfold impl_ValidHolds_1.f at H
 clear h
 obtain rfl := Option.some.inj H
 go_enter Tryz.func46, Tryz.ntmps46
 go_wp2_with (first | ((with_reducible refine gate_dst (N := 2) rfl ?_); refine box_event ?hg (N := 2) ?hd (cs := #[.int .i16 AC, .int .i8 AD]) (t := 52) ?hr ?_; (case hd => rfl); (case hg => rfl); (case hr => first | (go_simp; done) | (go_simp; rfl)); intro AR hg w3 hbox hb; have AI := ak (hbox); have AS := gS HB hg; have AE := gS HB hg; have AB := nL AG hg; have AA := nG AG hg; replace AG := kK AG hb; replace HB := kB HB hb; clear hb hbox hg; have AV := AA.out; have AU := AB.out; obtain ⟨AN, AK, AQ, AO⟩ := cz2 w3 AI; obtain ⟨AP, AJ, AL, AM⟩ := cz2 w3 AG))
 go_ret
 exact ⟨rfl, zBG HB.out AE.out⟩
/-! ### slices_IndexFunc_Hold_at_ValidHolds_1: function 68 -/
def slices_IndexFunc_Hold_at_ValidHolds_1.l0 : Nat → List (S52) → Int → Int → Int → Int → Option (Int)
  | 0, _, _, _, _, _ => none
  | k + 1, x0, x7, x8, AA, AB => if x8 < x7 then (if 0 ≤ x8 then (if x8 < (x0.length : Int) then ((impl_ValidHolds_1.f ((rd_T52 x0 x8).f0) ((rd_T52 x0 x8).f1) AA AB).bind fun AC => (if AC = true then (some x8) else (slices_IndexFunc_Hold_at_ValidHolds_1.l0 k x0 x7 (wrap64 (x8 + 1)) AA AB))) else (none)) else (none)) else (some (-1))
def slices_IndexFunc_Hold_at_ValidHolds_1.f (k : Nat) (l0 : List (S52)) (AB : Int) (AA : Int) : Option (Int) := slices_IndexFunc_Hold_at_ValidHolds_1.l0 k l0 (l0.length : Int) 0 AB AA
set_option maxHeartbeats 8000000 in
set_option maxRecDepth 100000 in
theorem slices_IndexFunc_Hold_at_ValidHolds_1.calls (k : Nat) (A0 : Option Addr) (c0 : Nat) (l0 : List (S52)) (AI : Nat) (AD : Int) (AE : Int) (r : Int) (w : World) (AQ : Kd.C k52 w A0 l0.length l0) (AP : l0.length ≤ c0) (AK : w.heap[AI]? = some (.cells #[.int .i16 AD, .int .i8 AE] 52 (0, 0))) (h : slices_IndexFunc_Hold_at_ValidHolds_1.f k l0 AD AE = some r) :
    Calls Tryz.prog 68 #[.slice A0 l0.length c0, .func (.func 46) #[] #[.pointer (some ⟨AI, 0, none⟩)]] w fun e w' => e = .returned (.int .i64 r) ∧ Below w.heap.size w w' := by
 have AV := Tryz.underlying52
 have AS := ak AQ
 have AW := ak AP
 clear AQ AP
 have AF := ak AK
 clear AK
 have HB := ak (Below.refl w.heap.size w)
 have H := h
 unfold slices_IndexFunc_Hold_at_ValidHolds_1.f at H
 clear h
 have H' := ak H
 clear H
 go_enter Tryz.func68, Tryz.ntmps68
 go_wp2
 go_loopg [8] k (fun kq v8 w' => ∃ (AA : Int), v8 = .int .i64 AA ∧ Aside0 (slices_IndexFunc_Hold_at_ValidHolds_1.l0 kq l0 (l0.length : Int) AA AD AE = some r) ∧ Aside0 (kq ≤ k) ∧ Aside0 (w'.heap[AI]? = some (.cells #[.int .i16 AD, .int .i8 AE] 52 (0, 0))) ∧ Aside0 (Below w.heap.size w w'))
 case atStart => exact ⟨(0), rfl, H', ⟨Nat.le_refl _⟩, ⟨(zK AF.out)⟩, ⟨zB HB.out⟩⟩
 case round => (
 clear H'
 obtain ⟨AA, rfl, HA, AR, AF, HB⟩ := hrel
 cases gk with
 | zero => exact absurd HA.out (by simp [slices_IndexFunc_Hold_at_ValidHolds_1.l0])
 | succ k1 => (
 have H := HA.out
 clear HA
 simp only [slices_IndexFunc_Hold_at_ValidHolds_1.l0] at H
 by_cases c3 : AA < (l0.length : Int)
 {
 rw [if_pos c3] at H
 have AN : decide (AA < (l0.length : Int)) = true := decide_eq_true c3
 clear c3
 by_cases c4 : 0 ≤ AA
 {
 rw [if_pos c4] at H
 have AT : decide (0 ≤ AA) = true := decide_eq_true c4
 clear c4
 by_cases c5 : AA < (l0.length : Int)
 {
 rw [if_pos c5] at H
 have AU : decide (AA < (l0.length : Int)) = true := decide_eq_true c5
 clear c5
 replace H := Option.bind_eq_some_iff.mp H
 obtain ⟨AM, AO, H⟩ := H
 have A6 := ak AO
 clear AO
 by_cases c7 : AM = true
 {
 subst c7
 rw [if_pos rfl] at H
 obtain rfl := Option.some.inj H
 have AH : 0 ≤ (AA : Int) := of_decide_eq_true (by assumption)
 have AG : AA < (l0.length : Int) := of_decide_eq_true (by assumption)
 obtain ⟨AL, AJ, AC, AB⟩ := at_T52 AS.out AA AH AG
 cases AJ
 replace AC := (HB.out.cell (World.block_lt_of_cell? w _ AC)).trans AC
 replace AB := (HB.out.cell (World.block_lt_of_cell? w _ AB)).trans AB
 replace AH := eq_true AH
 replace AG := eq_true AG
 go_wp2_with (first | ((with_reducible refine gate_tmpcall (t := 11) rfl ?_); refine goesF_ (some 16) rfl rfl Tryz.func46 (by kernel_rfl) rfl #[.pointer (some ⟨AI, 0, none⟩)] #[.agg #[.int .i16 ((rd_T52 l0 AA).f0), .int .i8 ((rd_T52 l0 AA).f1)], .pointer (some ⟨AI, 0, none⟩)] rfl (by first | rfl | (go_simp; done) | (go_simp; rfl)) (by (try simp only [List.map_toArray, List.map_cons, List.map_nil]); first | done | rfl | (simp only [List.length_drop, List.length_take]; rfl) | (go_simp; done)) ?_; (with_reducible refine (impl_ValidHolds_1.calls ((rd_T52 l0 AA).f0) ((rd_T52 l0 AA).f1) AI AD AE true _ ?side1 A6.out).mono ?_); (case side1 => exact (zK AF.out)); rintro e w8 ⟨rfl, hb⟩; refine ⟨_, rfl, ?_⟩; replace AF := kK AF hb; replace HB := kB HB hb; (try clear hb)))
 go_ret
 exact ⟨rfl, zB HB.out⟩
 }
 {
 replace c7 := Bool.eq_false_iff.mpr c7
 subst c7
 rw [if_neg (show ¬ (false = true) by decide)] at H
 have H' := ak H
 clear H
 have AH : 0 ≤ (AA : Int) := of_decide_eq_true (by assumption)
 have AG : AA < (l0.length : Int) := of_decide_eq_true (by assumption)
 obtain ⟨AL, AJ, AC, AB⟩ := at_T52 AS.out AA AH AG
 cases AJ
 replace AC := (HB.out.cell (World.block_lt_of_cell? w _ AC)).trans AC
 replace AB := (HB.out.cell (World.block_lt_of_cell? w _ AB)).trans AB
 replace AH := eq_true AH
 replace AG := eq_true AG
 go_wp2_with (first | ((with_reducible refine gate_tmpcall (t := 11) rfl ?_); refine goesF_ (some 16) rfl rfl Tryz.func46 (by kernel_rfl) rfl #[.pointer (some ⟨AI, 0, none⟩)] #[.agg #[.int .i16 ((rd_T52 l0 AA).f0), .int .i8 ((rd_T52 l0 AA).f1)], .pointer (some ⟨AI, 0, none⟩)] rfl (by first | rfl | (go_simp; done) | (go_simp; rfl)) (by (try simp only [List.map_toArray, List.map_cons, List.map_nil]); first | done | rfl | (simp only [List.length_drop, List.length_take]; rfl) | (go_simp; done)) ?_; (with_reducible refine (impl_ValidHolds_1.calls ((rd_T52 l0 AA).f0) ((rd_T52 l0 AA).f1) AI AD AE false _ ?side1 A6.out).mono ?_); (case side1 => exact (zK AF.out)); rintro e w9 ⟨rfl, hb⟩; refine ⟨_, rfl, ?_⟩; replace AF := kK AF hb; replace HB := kB HB hb; (try clear hb)))
 go_roundg k1
 case measure => have := AR.out; omega
 case rel => exact ⟨(wrap64 (AA + 1)), rfl, H', ⟨by have := AR.out; omega⟩, ⟨(zK AF.out)⟩, ⟨zB HB.out⟩⟩
 }
 }
 · rw [if_neg c5] at H; exact absurd H (by simp)
 }
 · rw [if_neg c4] at H; exact absurd H (by simp)
 }
 {
 rw [if_neg c3] at H
 have AN : decide (AA < (l0.length : Int)) = false := decide_eq_false c3
 clear c3
 obtain rfl := Option.some.inj H
 go_wp2
 go_ret
 exact ⟨rfl, zB HB.out⟩
 }
 )
 )
/-! ### slices_ContainsFunc_Hold_at_ValidHolds_1: function 45 -/
def slices_ContainsFunc_Hold_at_ValidHolds_1.f (k : Nat) (l0 : List (S52)) (AB : Int) (AA : Int) : Option (Bool) := (slices_IndexFunc_Hold_at_ValidHolds_1.f k l0 AB AA).bind fun AC => (some (decide (AC ≥ 0)))
set_option maxHeartbeats 8000000 in
set_option maxRecDepth 100000 in
theorem slices_ContainsFunc_Hold_at_ValidHolds_1.calls (k : Nat) (A0 : Option Addr) (c0 : Nat) (l0 : List (S52)) (AE : Nat) (AA : Int) (AB : Int) (r : Bool) (w : World) (AH : Kd.C k52 w A0 l0.length l0) (AG : l0.length ≤ c0) (AD : w.heap[AE]? = some (.cells #[.int .i16 AA, .int .i8 AB] 52 (0, 0))) (h : slices_ContainsFunc_Hold_at_ValidHolds_1.f k l0 AA AB = some r) :
    Calls Tryz.prog 45 #[.slice A0 l0.length c0, .func (.func 46) #[] #[.pointer (some ⟨AE, 0, none⟩)]] w fun e w' => e = .returned (.bool r) ∧ Below w.heap.size w w' := by
 have AK := ak AH
 have AJ := ak AG
 clear AH AG
 have AC := ak AD
 clear AD
 have HB := ak (Below.refl w.heap.size w)
 have H := h
 unfold slices_ContainsFunc_Hold_at_ValidHolds_1.f at H
 clear h
 replace H := Option.bind_eq_some_iff.mp H
 obtain ⟨AF, AI, H⟩ := H
 have A3 := ak AI
 clear AI
 obtain rfl := Option.some.inj H
 go_enter Tryz.func45, Tryz.ntmps45
 go_wp2_with (first | ((with_reducible refine gate_callee (f := 68) rfl ?_); refine goesL_ (some 7) rfl rfl Tryz.func68 (by kernel_rfl) rfl #[.slice A0 l0.length c0, .func (.func 46) #[] #[.pointer (some ⟨AE, 0, none⟩)]] rfl gl_ ?_; (with_reducible refine (slices_IndexFunc_Hold_at_ValidHolds_1.calls k _ _ l0 AE AA AB AF _ ?side1 ?side2 ?side3 A3.out).mono ?_); (case side1 => exact sD AK); (case side2 => exact AJ.out); (case side3 => exact (zK AC.out)); rintro e w4 ⟨rfl, hb⟩; refine ⟨_, rfl, ?_⟩; replace AC := kK AC hb; replace HB := kB HB hb; (try clear hb)))
 go_ret
 exact ⟨rfl, zB HB.out⟩
end Go.Proofs.YtlggjfhoecaelaaGreatDoor.P
