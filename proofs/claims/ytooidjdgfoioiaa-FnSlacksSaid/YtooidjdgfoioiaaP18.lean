-- Printed by wip/print (my turned copy of the kit's print) out of the translation; Lean checks it.
import Derived.Test.YtooidjdgfoioiaaP0
import Derived.Test.YtooidjdgfoioiaaP6
import Derived.Test.YtooidjdgfoioiaaP17
namespace Go.Proofs.Ytooidjdgfoioiaa.P
open Go.RowKit Go.Proofs.YtooidjdgfoioiaaW.PrintWords Go.Proofs.YtooidjdgfoioiaaW.PrintLast Go.Proofs.YtooidjdgfoioiaaW.PrintMore
attribute [local go_sem] max2_int min2_int max_two min_two max_three min_three max_four min_four   -- for this text's walks alone
set_option linter.unusedVariables false
set_option linter.unusedSimpArgs false

/-! ### slices_IndexFunc_Hold_at_ValidHolds_1: function 101 -/
def slices_IndexFunc_Hold_at_ValidHolds_1.l0 : Nat → List (S65) → Int → Int → Int → Int → Option (Int)
  | 0, _, _, _, _, _ => none
  | k + 1, x0, x7, x8, AA, AB => if x8 < x7 then (if 0 ≤ x8 then (if x8 < (x0.length : Int) then ((impl_ValidHolds_1.f ((rd_T65 x0 x8).f0) ((rd_T65 x0 x8).f1) AA AB).bind fun AC => (if AC = true then (some x8) else (slices_IndexFunc_Hold_at_ValidHolds_1.l0 k x0 x7 (wrap64 (x8 + 1)) AA AB))) else (none)) else (none)) else (some (-1))
def slices_IndexFunc_Hold_at_ValidHolds_1.f (k : Nat) (l0 : List (S65)) (AB : Int) (AA : Int) : Option (Int) := slices_IndexFunc_Hold_at_ValidHolds_1.l0 k l0 (l0.length : Int) 0 AB AA
set_option maxHeartbeats 8000000 in
set_option maxRecDepth 100000 in
theorem slices_IndexFunc_Hold_at_ValidHolds_1.calls (k : Nat) (A0 : Option Addr) (c0 : Nat) (l0 : List (S65)) (AI : Nat) (AD : Int) (AE : Int) (r : Int) (w : World) (AP : Kd.C k65 w A0 l0.length l0) (AO : l0.length ≤ c0) (AL : w.heap[AI]? = some (.cells #[.int .i16 AD, .int .i8 AE] 65 (0, 0))) (h : slices_IndexFunc_Hold_at_ValidHolds_1.f k l0 AD AE = some r) :
    Calls Try.prog 101 #[.slice A0 l0.length c0, .func (.func 97) #[] #[.pointer (some ⟨AI, 0, none⟩)]] w fun e w' => e = .returned (.int .i64 r) ∧ Below w.heap.size w w' := by
 have AU := Try.underlying65
 have AS := ak AP
 have AW := ak AO
 clear AP AO
 have AF := ak AL
 clear AL
 have HB := ak (Below.refl w.heap.size w)
 have H := h
 unfold slices_IndexFunc_Hold_at_ValidHolds_1.f at H
 clear h
 have H' := ak H
 clear H
 go_enter Try.func101, Try.ntmps101
 go_wp2
 go_loopg [8] k (fun kq v8 w' => ∃ (AA : Int), v8 = .int .i64 AA ∧ Aside0 (slices_IndexFunc_Hold_at_ValidHolds_1.l0 kq l0 (l0.length : Int) AA AD AE = some r) ∧ Aside0 (kq ≤ k) ∧ Aside0 (w'.heap[AI]? = some (.cells #[.int .i16 AD, .int .i8 AE] 65 (0, 0))) ∧ Aside0 (Below w.heap.size w w'))
 case atStart => exact ⟨(0), rfl, H', ⟨Nat.le_refl _⟩, ⟨(zK AF.out)⟩, ⟨zB HB.out⟩⟩
 case round => (
 clear H'
 obtain ⟨AA, rfl, HA, AR, AF, HB⟩ := hrel
 cases gk with
 | zero => exact absurd HA.out (by simp [slices_IndexFunc_Hold_at_ValidHolds_1.l0])
 | succ k1 => (
 have H := HA.out
 clear HA
 simp only [slices_IndexFunc_Hold_at_ValidHolds_1.l0] at H
 by_cases c3 : AA < (l0.length : Int)
 {
 rw [if_pos c3] at H
 have AM : decide (AA < (l0.length : Int)) = true := decide_eq_true c3
 clear c3
 by_cases c4 : 0 ≤ AA
 {
 rw [if_pos c4] at H
 have AV : decide (0 ≤ AA) = true := decide_eq_true c4
 clear c4
 by_cases c5 : AA < (l0.length : Int)
 {
 rw [if_pos c5] at H
 have AT : decide (AA < (l0.length : Int)) = true := decide_eq_true c5
 clear c5
 replace H := Option.bind_eq_some_iff.mp H
 obtain ⟨AN, AQ, H⟩ := H
 have A6 := ak AQ
 clear AQ
 by_cases c7 : AN = true
 {
 subst c7
 rw [if_pos rfl] at H
 obtain rfl := Option.some.inj H
 have AH : 0 ≤ (AA : Int) := of_decide_eq_true (by assumption)
 have AG : AA < (l0.length : Int) := of_decide_eq_true (by assumption)
 obtain ⟨AK, AJ, AB, AC⟩ := at_T65 AS.out AA AH AG
 cases AJ
 replace AB := (HB.out.cell (World.block_lt_of_cell? w _ AB)).trans AB
 replace AC := (HB.out.cell (World.block_lt_of_cell? w _ AC)).trans AC
 replace AH := eq_true AH
 replace AG := eq_true AG
 go_wp2_with (first | ((with_reducible refine gate_tmpcall (t := 11) rfl ?_); refine goesF_ (some 16) rfl rfl Try.func97 (by kernel_rfl) rfl #[.pointer (some ⟨AI, 0, none⟩)] #[.agg #[.int .i16 ((rd_T65 l0 AA).f0), .int .i8 ((rd_T65 l0 AA).f1)], .pointer (some ⟨AI, 0, none⟩)] rfl (by first | rfl | (go_simp; done) | (go_simp; rfl)) (by (try simp only [List.map_toArray, List.map_cons, List.map_nil]); first | done | rfl | (simp only [List.length_drop, List.length_take]; rfl) | (go_simp; done)) ?_; (with_reducible refine (impl_ValidHolds_1.calls ((rd_T65 l0 AA).f0) ((rd_T65 l0 AA).f1) AI AD AE true _ ?side1 A6.out).mono ?_); (case side1 => exact (zK AF.out)); rintro e w8 ⟨rfl, hb⟩; refine ⟨_, rfl, ?_⟩; replace AF := kK AF hb; replace HB := kB HB hb; (try clear hb)))
 go_ret
 exact ⟨rfl, zB HB.out⟩
 }
 {
 replace c7 := Bool.eq_false_iff.mpr c7
 subst c7
 rw [if_neg (show ¬ (false = true) by decide)] at H
 have H' := ak H
 clear H
 have AH : 0 ≤ (AA : Int) := of_decide_eq_true (by assumption)
 have AG : AA < (l0.length : Int) := of_decide_eq_true (by assumption)
 obtain ⟨AK, AJ, AB, AC⟩ := at_T65 AS.out AA AH AG
 cases AJ
 replace AB := (HB.out.cell (World.block_lt_of_cell? w _ AB)).trans AB
 replace AC := (HB.out.cell (World.block_lt_of_cell? w _ AC)).trans AC
 replace AH := eq_true AH
 replace AG := eq_true AG
 go_wp2_with (first | ((with_reducible refine gate_tmpcall (t := 11) rfl ?_); refine goesF_ (some 16) rfl rfl Try.func97 (by kernel_rfl) rfl #[.pointer (some ⟨AI, 0, none⟩)] #[.agg #[.int .i16 ((rd_T65 l0 AA).f0), .int .i8 ((rd_T65 l0 AA).f1)], .pointer (some ⟨AI, 0, none⟩)] rfl (by first | rfl | (go_simp; done) | (go_simp; rfl)) (by (try simp only [List.map_toArray, List.map_cons, List.map_nil]); first | done | rfl | (simp only [List.length_drop, List.length_take]; rfl) | (go_simp; done)) ?_; (with_reducible refine (impl_ValidHolds_1.calls ((rd_T65 l0 AA).f0) ((rd_T65 l0 AA).f1) AI AD AE false _ ?side1 A6.out).mono ?_); (case side1 => exact (zK AF.out)); rintro e w9 ⟨rfl, hb⟩; refine ⟨_, rfl, ?_⟩; replace AF := kK AF hb; replace HB := kB HB hb; (try clear hb)))
 go_roundg k1
 case measure => have := AR.out; omega
 case rel => exact ⟨(wrap64 (AA + 1)), rfl, H', ⟨by have := AR.out; omega⟩, ⟨(zK AF.out)⟩, ⟨zB HB.out⟩⟩
 }
 }
 · rw [if_neg c5] at H; exact absurd H (by simp)
 }
 · rw [if_neg c4] at H; exact absurd H (by simp)
 }
 {
 rw [if_neg c3] at H
 have AM : decide (AA < (l0.length : Int)) = false := decide_eq_false c3
 clear c3
 obtain rfl := Option.some.inj H
 go_wp2
 go_ret
 exact ⟨rfl, zB HB.out⟩
 }
 )
 )
/-! ### slices_ContainsFunc_Hold_at_ValidHolds_1: function 96 -/
def slices_ContainsFunc_Hold_at_ValidHolds_1.f (k : Nat) (l0 : List (S65)) (AB : Int) (AA : Int) : Option (Bool) := (slices_IndexFunc_Hold_at_ValidHolds_1.f k l0 AB AA).bind fun AC => (some (decide (AC ≥ 0)))
set_option maxHeartbeats 8000000 in
set_option maxRecDepth 100000 in
theorem slices_ContainsFunc_Hold_at_ValidHolds_1.calls (k : Nat) (A0 : Option Addr) (c0 : Nat) (l0 : List (S65)) (AE : Nat) (AA : Int) (AB : Int) (r : Bool) (w : World) (AI : Kd.C k65 w A0 l0.length l0) (AH : l0.length ≤ c0) (AD : w.heap[AE]? = some (.cells #[.int .i16 AA, .int .i8 AB] 65 (0, 0))) (h : slices_ContainsFunc_Hold_at_ValidHolds_1.f k l0 AA AB = some r) :
    Calls Try.prog 96 #[.slice A0 l0.length c0, .func (.func 97) #[] #[.pointer (some ⟨AE, 0, none⟩)]] w fun e w' => e = .returned (.bool r) ∧ Below w.heap.size w w' := by
 have AK := ak AI
 have AJ := ak AH
 clear AI AH
 have AC := ak AD
 clear AD
 have HB := ak (Below.refl w.heap.size w)
 have H := h
 unfold slices_ContainsFunc_Hold_at_ValidHolds_1.f at H
 clear h
 replace H := Option.bind_eq_some_iff.mp H
 obtain ⟨AF, AG, H⟩ := H
 have A3 := ak AG
 clear AG
 obtain rfl := Option.some.inj H
 go_enter Try.func96, Try.ntmps96
 go_wp2_with (first | ((with_reducible refine gate_callee (f := 101) rfl ?_); refine goesL_ (some 7) rfl rfl Try.func101 (by kernel_rfl) rfl #[.slice A0 l0.length c0, .func (.func 97) #[] #[.pointer (some ⟨AE, 0, none⟩)]] rfl gl_ ?_; (with_reducible refine (slices_IndexFunc_Hold_at_ValidHolds_1.calls k _ _ l0 AE AA AB AF _ ?side1 ?side2 ?side3 A3.out).mono ?_); (case side1 => exact sD AK); (case side2 => exact AJ.out); (case side3 => exact (zK AC.out)); rintro e w4 ⟨rfl, hb⟩; refine ⟨_, rfl, ?_⟩; replace AC := kK AC hb; replace HB := kB HB hb; (try clear hb)))
 go_ret
 exact ⟨rfl, zB HB.out⟩
/-! ### impl_ValidRope: function 30 -/
mutual
def impl_ValidRope.j0 : Nat → Bool → Int → List Int → Option (Bool)
  | 0, _, _, _ => none
  | k + 1, AC, AB, AA => if AC = true then (some false) else (impl_ValidRope.l0 k 1 AB AA)
def impl_ValidRope.l0 : Nat → Int → Int → List Int → Option (Bool)
  | 0, _, _, _ => none
  | k + 1, x3, AB, AA => if x3 < (AA.length : Int) then (if 0 ≤ x3 then (if 0 ≤ (wrap64 (x3 - 1)) then (if (wrap64 (x3 - 1)) < (AA.length : Int) then (if (rd AA x3) ≤ (rd AA (wrap64 (x3 - 1))) then (some false) else (impl_ValidRope.l0 k (wrap64 (x3 + 1)) AB AA)) else (none)) else (none)) else (none)) else (if 0 < (AA.length : Int) then (if (rd AA 0) = 0 then (if 0 ≤ (wrap64 ((AA.length : Int) - 1)) then (if (wrap64 ((AA.length : Int) - 1)) < (AA.length : Int) then (some ((rd AA (wrap64 ((AA.length : Int) - 1))) == AB)) else (none)) else (none)) else (some false)) else (none))
end
def impl_ValidRope.f (k : Nat) (AB : Int) (AA : List Int) : Option (Bool) := (impl_within.f (wrap64 (AB)) 1 400).bind fun AE => (if AE = true then ((impl_size_int16.f AA).bind fun AD => ((impl_within.f AD 2 40).bind fun AC => (impl_ValidRope.j0 k (!AC) AB AA))) else (impl_ValidRope.j0 k true AB AA))
set_option maxHeartbeats 8000000 in
set_option maxRecDepth 100000 in
theorem impl_ValidRope.calls (k : Nat) (AE : Int) (AM : Option Addr) (AL : Nat) (AA : List Int) (r : Bool) (w : World) (Ag : Kd.C (Kd.int .i16) w AM AA.length AA) (Af : AA.length ≤ AL) (h : impl_ValidRope.f k AE AA = some r) :
    Calls Try.prog 30 #[.agg #[.int .i16 AE, .slice AM AA.length AL]] w fun e w' => e = .returned (.bool r) ∧ Below w.heap.size w w' := by
 have Bq := Try.underlying32
 have AJ := ak Ag
 have Ab := ak Af
 clear Ag Af
 have HB := ak (Below.refl w.heap.size w)
 have H := h
 unfold impl_ValidRope.f at H
 clear h
 have BU := ak H
 clear H
 go_enter Try.func30, Try.ntmps30
 go_upto_region 1 with (first | ((with_reducible refine gate_dst (N := 1) rfl ?_); (try (refine gate_guard (by rfl) ?_; dsimp only)); refine box_event ?hg (N := 1) ?hd (cs := #[.int .i16 AE, .slice AM AA.length AL]) (t := 32) ?hr ?_; (case hd => rfl); (case hg => rfl); (case hr => first | (go_simp; done) | (go_simp; rfl)); intro AD hg w3 hbox hb; have AB := ak (hbox); have Ad := gS HB hg; have AG := gS HB hg; replace HB := kB HB hb; clear hb hbox hg))
 repeat (go_quiet (first | ((with_reducible refine gate_dst (N := 1) rfl ?_); (try (refine gate_guard (by rfl) ?_; dsimp only)); refine box_event ?hg (N := 1) ?hd (cs := #[.int .i16 AE, .slice AM AA.length AL]) (t := 32) ?hr ?_; (case hd => rfl); (case hg => rfl); (case hr => first | (go_simp; done) | (go_simp; rfl)); intro AD hg w3 hbox hb; have Bi := ak (below_step (zB HB.out) hb); have BY := ak (hbox); have Be := gS HB hg; have Bk := gS HB hg; clear HB; have HB := Bi; have AB := BY; have Ad := Be; have AG := Bk; clear Bi BY Be Bk; clear hb hbox hg)); go_upto_region 1 with (first | ((with_reducible refine gate_dst (N := 1) rfl ?_); (try (refine gate_guard (by rfl) ?_; dsimp only)); refine box_event ?hg (N := 1) ?hd (cs := #[.int .i16 AE, .slice AM AA.length AL]) (t := 32) ?hr ?_; (case hd => rfl); (case hg => rfl); (case hr => first | (go_simp; done) | (go_simp; rfl)); intro AD hg w3 hbox hb; have AB := ak (hbox); have Ad := gS HB hg; have AG := gS HB hg; replace HB := kB HB hb; clear hb hbox hg)))
 (try simp only [Act.put, zs, zz, zk])
 go_cut [15] (fun Bp wc => ∃ (kq : Nat) (AX : Bool), Bp = .bool AX ∧ Aside0 (impl_ValidRope.j0 kq AX AE AA = some r) ∧ Aside0 (kq ≤ k) ∧ Aside0 (wc.heap[AD]? = some (.cells #[.int .i16 AE, (.slice AM AA.length AL)] 32 (0, 0))) ∧ Aside0 (Below w.heap.size w wc))
 case first => (
 have H := BU.out
 clear BU
 replace H := Option.bind_eq_some_iff.mp H
 obtain ⟨BL, Bh, H⟩ := H
 have A4 := ak Bh
 clear Bh
 by_cases c5 : BL = true
 {
 subst c5
 rw [if_pos rfl] at H
 replace H := Option.bind_eq_some_iff.mp H
 obtain ⟨AY, Bo, H⟩ := H
 have A6 := ak Bo
 clear Bo
 replace H := Option.bind_eq_some_iff.mp H
 obtain ⟨Ac, Bb, H⟩ := H
 have A7 := ak Bb
 clear Bb
 have H' := ak H
 clear H
 have BS : w3.cell? ⟨AD, 0, none⟩ = some (.int .i16 AE) := (blk_cell AB.out 0).trans rfl
 have BV : w3.cell? ⟨AD, 1, none⟩ = some (.slice AM AA.length AL) := (blk_cell AB.out 1).trans rfl
 have BR := blk_frozen AB.out 0
 have BP := blk_frozen AB.out 1
 go_wp2_with (first | (go_at_call 64; (with_reducible refine (impl_within.calls (wrap64 (AE)) 1 400 true _ A4.out).mono ?_); rintro e w' ⟨rfl, ⟨nd, rfl⟩⟩) | (go_at_call 65; (with_reducible refine (impl_size_int16.calls _ _ AA AY _ ?side1 ?side2 A6.out).mono ?_); (case side1 => exact sQ (Kd.C_below AJ.out (zBG HB.out AG.out))); (case side2 => exact Ab.out); rintro e w' ⟨rfl, ⟨nd, rfl⟩⟩) | (go_at_call 64; (with_reducible refine (impl_within.calls AY 2 40 Ac _ A7.out).mono ?_); rintro e w' ⟨rfl, ⟨nd, rfl⟩⟩))
 repeat (go_quiet (first | (go_at_call 64; (with_reducible refine (impl_within.calls (wrap64 (AE)) 1 400 true _ A4.out).mono ?_); rintro e w' ⟨rfl, ⟨nd, rfl⟩⟩; (try first | exact ⟨rfl, _, World.drewN_drewN _ _ _⟩ | exact ⟨rfl, _, Eq.trans (World.drewN_drewN _ _ _) (congrArg (World.drewN _) (Nat.add_assoc _ _ _))⟩)) | (go_at_call 65; (with_reducible refine (impl_size_int16.calls _ _ AA AY _ ?side1 ?side2 A6.out).mono ?_); (case side1 => exact sQ (Kd.C_below AJ.out (zBG HB.out AG.out))); (case side2 => exact Ab.out); rintro e w' ⟨rfl, ⟨nd, rfl⟩⟩; (try first | exact ⟨rfl, _, World.drewN_drewN _ _ _⟩ | exact ⟨rfl, _, Eq.trans (World.drewN_drewN _ _ _) (congrArg (World.drewN _) (Nat.add_assoc _ _ _))⟩)) | (go_at_call 64; (with_reducible refine (impl_within.calls AY 2 40 Ac _ A7.out).mono ?_); rintro e w' ⟨rfl, ⟨nd, rfl⟩⟩; (try first | exact ⟨rfl, _, World.drewN_drewN _ _ _⟩ | exact ⟨rfl, _, Eq.trans (World.drewN_drewN _ _ _) (congrArg (World.drewN _) (Nat.add_assoc _ _ _))⟩))); try go_wp2_with (first | (go_at_call 64; (with_reducible refine (impl_within.calls (wrap64 (AE)) 1 400 true _ A4.out).mono ?_); rintro e w' ⟨rfl, ⟨nd, rfl⟩⟩; (try first | exact ⟨rfl, _, World.drewN_drewN _ _ _⟩ | exact ⟨rfl, _, Eq.trans (World.drewN_drewN _ _ _) (congrArg (World.drewN _) (Nat.add_assoc _ _ _))⟩)) | (go_at_call 65; (with_reducible refine (impl_size_int16.calls _ _ AA AY _ ?side1 ?side2 A6.out).mono ?_); (case side1 => exact sQ (Kd.C_below AJ.out (zBG HB.out AG.out))); (case side2 => exact Ab.out); rintro e w' ⟨rfl, ⟨nd, rfl⟩⟩; (try first | exact ⟨rfl, _, World.drewN_drewN _ _ _⟩ | exact ⟨rfl, _, Eq.trans (World.drewN_drewN _ _ _) (congrArg (World.drewN _) (Nat.add_assoc _ _ _))⟩)) | (go_at_call 64; (with_reducible refine (impl_within.calls AY 2 40 Ac _ A7.out).mono ?_); rintro e w' ⟨rfl, ⟨nd, rfl⟩⟩; (try first | exact ⟨rfl, _, World.drewN_drewN _ _ _⟩ | exact ⟨rfl, _, Eq.trans (World.drewN_drewN _ _ _) (congrArg (World.drewN _) (Nat.add_assoc _ _ _))⟩))))
 go_meet
 case rel => exact ⟨_, (!Ac), rfl, H', ⟨by omega⟩, ⟨(zK AB.out)⟩, ⟨zBG HB.out AG.out⟩⟩
 }
 {
 replace c5 := Bool.eq_false_iff.mpr c5
 subst c5
 rw [if_neg (show ¬ (false = true) by decide)] at H
 have H' := ak H
 clear H
 have BM : w3.cell? ⟨AD, 0, none⟩ = some (.int .i16 AE) := (blk_cell AB.out 0).trans rfl
 have BT : w3.cell? ⟨AD, 1, none⟩ = some (.slice AM AA.length AL) := (blk_cell AB.out 1).trans rfl
 have BW := blk_frozen AB.out 0
 have BX := blk_frozen AB.out 1
 go_wp2_with (first | (go_at_call 64; (with_reducible refine (impl_within.calls (wrap64 (AE)) 1 400 false _ A4.out).mono ?_); rintro e w' ⟨rfl, ⟨nd, rfl⟩⟩))
 repeat (go_quiet (first | (go_at_call 64; (with_reducible refine (impl_within.calls (wrap64 (AE)) 1 400 false _ A4.out).mono ?_); rintro e w' ⟨rfl, ⟨nd, rfl⟩⟩; (try first | exact ⟨rfl, _, World.drewN_drewN _ _ _⟩ | exact ⟨rfl, _, Eq.trans (World.drewN_drewN _ _ _) (congrArg (World.drewN _) (Nat.add_assoc _ _ _))⟩))); try go_wp2_with (first | (go_at_call 64; (with_reducible refine (impl_within.calls (wrap64 (AE)) 1 400 false _ A4.out).mono ?_); rintro e w' ⟨rfl, ⟨nd, rfl⟩⟩; (try first | exact ⟨rfl, _, World.drewN_drewN _ _ _⟩ | exact ⟨rfl, _, Eq.trans (World.drewN_drewN _ _ _) (congrArg (World.drewN _) (Nat.add_assoc _ _ _))⟩))))
 go_meet
 case rel => exact ⟨_, (true), rfl, H', ⟨by omega⟩, ⟨(zK AB.out)⟩, ⟨zBG HB.out AG.out⟩⟩
 }
 )
 case rest => (
 clear BU
 obtain ⟨kq, AX, rfl, HA, BZ, AB, HB⟩ := hcut
 cases kq with
 | zero => exact absurd HA.out (by simp [impl_ValidRope.j0])
 | succ Bl => (
 have H := HA.out
 clear HA
 simp only [impl_ValidRope.j0] at H
 by_cases Av : AX = true
 {
 subst Av
 rw [if_pos rfl] at H
 obtain rfl := Option.some.inj H
 go_wp2
 repeat (go_quiet (fail); try go_wp2)
 go_ret
 exact ⟨rfl, zBG HB.out AG.out⟩
 }
 {
 replace Av := Bool.eq_false_iff.mpr Av
 subst Av
 rw [if_neg (show ¬ (false = true) by decide)] at H
 have H' := ak H
 clear H
 go_wp2
 repeat (go_quiet (fail); try go_wp2)
 go_loopg [3] Bl (fun kq v3 w' => ∃ (AF : Int), v3 = .int .i64 AF ∧ Aside0 (impl_ValidRope.l0 kq AF AE AA = some r) ∧ Aside0 (kq ≤ Bl) ∧ Aside0 (w'.heap[AD]? = some (.cells #[.int .i16 AE, (.slice AM AA.length AL)] 32 (0, 0))) ∧ Aside0 (Below w.heap.size w w'))
 case atStart => exact ⟨(1), rfl, H', ⟨Nat.le_refl _⟩, ⟨(zK AB.out)⟩, ⟨zBG HB.out AG.out⟩⟩
 case round => (
 clear H'
 obtain ⟨AF, rfl, HA, Bj, AB, HB⟩ := hrel
 cases gk with
 | zero => exact absurd HA.out (by simp [impl_ValidRope.l0])
 | succ k2 => (
 have H := HA.out
 clear HA
 simp only [impl_ValidRope.l0] at H
 by_cases Ao : AF < (AA.length : Int)
 {
 rw [if_pos Ao] at H
 have Ap : decide (AF < (AA.length : Int)) = true := decide_eq_true Ao
 clear Ao
 by_cases A2 : 0 ≤ AF
 {
 rw [if_pos A2] at H
 have Bm : decide (0 ≤ AF) = true := decide_eq_true A2
 clear A2
 obtain ⟨AK, AV⟩ : ∃ j_ : Int, (wrap64 (AF - 1)) = j_ := ⟨_, rfl⟩
 first | rw [AV] at H | simp only [AV] at H
 have BQ : (IntKind.i64.wrap (AF - 1)) = AK := (i64_w _).trans AV
 by_cases A9 : 0 ≤ (AK)
 {
 rw [if_pos A9] at H
 have Bd : decide (0 ≤ (AK)) = true := decide_eq_true A9
 clear A9
 by_cases BA : (AK) < (AA.length : Int)
 {
 rw [if_pos BA] at H
 have Bn : decide ((AK) < (AA.length : Int)) = true := decide_eq_true BA
 clear BA
 by_cases An : (rd AA AF) ≤ (rd AA (AK))
 {
 rw [if_pos An] at H
 have Aq : decide ((rd AA AF) ≤ (rd AA (AK))) = true := decide_eq_true An
 clear An
 obtain rfl := Option.some.inj H
 have A3 : wr.cell? ⟨AD, 0, none⟩ = some (.int .i16 AE) := (blk_cell AB.out 0).trans rfl
 have Az : wr.cell? ⟨AD, 1, none⟩ = some (.slice AM AA.length AL) := (blk_cell AB.out 1).trans rfl
 have A5 := blk_frozen AB.out 0
 have A0 := blk_frozen AB.out 1
 have AP : 0 ≤ (AF : Int) := of_decide_eq_true (by assumption)
 have AQ : AF < (AA.length : Int) := of_decide_eq_true (by assumption)
 obtain ⟨Aa, Aj, AH⟩ := Kd.at_int AJ.out AF AP AQ
 cases Aj
 replace AH := (HB.out.cell (World.block_lt_of_cell? w _ AH)).trans AH
 replace AP := eq_true AP
 replace AQ := eq_true AQ
 have AS : 0 ≤ ((AK) : Int) := of_decide_eq_true (by assumption)
 have AU : (AK) < (AA.length : Int) := of_decide_eq_true (by assumption)
 obtain ⟨AZ, Ah, AI⟩ := Kd.at_int AJ.out (AK) AS AU
 obtain rfl : Aa = AZ := (by injection Ah)
 replace AI := (HB.out.cell (World.block_lt_of_cell? w _ AI)).trans AI
 replace AS := eq_true AS
 replace AU := eq_true AU
 go_wp2
 repeat (go_quiet (fail); try go_wp2)
 go_ret
 exact ⟨by first | rfl | (simp [errW_none, errW_some] <;> rfl) | (simp only [← AV]; first | rfl | (simp [errW_none, errW_some] <;> rfl)) | (simp [*, errW_none, errW_some] <;> rfl), zBG HB.out AG.out⟩
 }
 {
 rw [if_neg An] at H
 have Aq : decide ((rd AA AF) ≤ (rd AA (AK))) = false := decide_eq_false An
 clear An
 have H' := ak H
 clear H
 have BD : wr.cell? ⟨AD, 0, none⟩ = some (.int .i16 AE) := (blk_cell AB.out 0).trans rfl
 have BE : wr.cell? ⟨AD, 1, none⟩ = some (.slice AM AA.length AL) := (blk_cell AB.out 1).trans rfl
 have A8 := blk_frozen AB.out 0
 have Aw := blk_frozen AB.out 1
 have AP : 0 ≤ (AF : Int) := of_decide_eq_true (by assumption)
 have AQ : AF < (AA.length : Int) := of_decide_eq_true (by assumption)
 obtain ⟨Aa, Aj, AH⟩ := Kd.at_int AJ.out AF AP AQ
 cases Aj
 replace AH := (HB.out.cell (World.block_lt_of_cell? w _ AH)).trans AH
 replace AP := eq_true AP
 replace AQ := eq_true AQ
 have AS : 0 ≤ ((AK) : Int) := of_decide_eq_true (by assumption)
 have AU : (AK) < (AA.length : Int) := of_decide_eq_true (by assumption)
 obtain ⟨AZ, Ah, AI⟩ := Kd.at_int AJ.out (AK) AS AU
 obtain rfl : Aa = AZ := (by injection Ah)
 replace AI := (HB.out.cell (World.block_lt_of_cell? w _ AI)).trans AI
 replace AS := eq_true AS
 replace AU := eq_true AU
 go_wp2
 repeat (go_quiet (fail); try go_wp2)
 go_roundg k2
 case measure => have := BZ.out; have := Bj.out; omega
 case rel => exact ⟨(wrap64 (AF + 1)), rfl, H', ⟨by have := BZ.out; have := Bj.out; omega⟩, ⟨(zK AB.out)⟩, ⟨zBG HB.out AG.out⟩⟩
 }
 }
 · rw [if_neg BA] at H; exact absurd H (by simp)
 }
 · rw [if_neg A9] at H; exact absurd H (by simp)
 }
 · rw [if_neg A2] at H; exact absurd H (by simp)
 }
 {
 rw [if_neg Ao] at H
 have Ap : decide (AF < (AA.length : Int)) = false := decide_eq_false Ao
 clear Ao
 by_cases BK : 0 < (AA.length : Int)
 {
 rw [if_pos BK] at H
 have Bc : decide (0 < (AA.length : Int)) = true := decide_eq_true BK
 have Bf : decide (0 < AA.length) = true := decide_eq_true (by omega)
 clear BK
 by_cases Ak : (rd AA 0) = 0
 {
 rw [if_pos Ak] at H
 have Au : ((rd AA 0) == 0) = true := beq_iff_eq.mpr Ak
 have At : ((rd AA 0) != 0) = false := bne_eq_false_iff_eq.mpr Ak
 clear Ak
 obtain ⟨AO, AW⟩ : ∃ j_ : Int, (wrap64 ((AA.length : Int) - 1)) = j_ := ⟨_, rfl⟩
 first | rw [AW] at H | simp only [AW] at H
 have BN : (IntKind.i64.wrap ((AA.length : Int) - 1)) = AO := (i64_w _).trans AW
 by_cases Ax : 0 ≤ (AO)
 {
 rw [if_pos Ax] at H
 have Bg : decide (0 ≤ (AO)) = true := decide_eq_true Ax
 clear Ax
 by_cases BJ : (AO) < (AA.length : Int)
 {
 rw [if_pos BJ] at H
 have Ba : decide ((AO) < (AA.length : Int)) = true := decide_eq_true BJ
 clear BJ
 obtain rfl := Option.some.inj H
 have Ay : wr.cell? ⟨AD, 0, none⟩ = some (.int .i16 AE) := (blk_cell AB.out 0).trans rfl
 have BC : wr.cell? ⟨AD, 1, none⟩ = some (.slice AM AA.length AL) := (blk_cell AB.out 1).trans rfl
 have BI := blk_frozen AB.out 0
 have BB := blk_frozen AB.out 1
 have AT : 0 ≤ (0 : Int) := (by omega)
 have AR : 0 < (AA.length : Int) := of_decide_eq_true (by assumption)
 obtain ⟨Ae, Al, AC⟩ := Kd.at_int AJ.out 0 AT AR
 cases Al
 have Ar : (0 < AA.length) = True := eq_true (by omega)
 (try rw [show ((0 : Int)).toNat = 0 from rfl] at AC)
 (try rw [Addr.add_zero'] at AC)
 replace AC := (HB.out.cell (World.block_lt_of_cell? w _ AC)).trans AC
 replace AT := eq_true AT
 replace AR := eq_true AR
 have Am : 0 ≤ ((AO) : Int) := of_decide_eq_true (by assumption)
 have Ai : (AO) < (AA.length : Int) := of_decide_eq_true (by assumption)
 obtain ⟨As, BO, AN⟩ := Kd.at_int AJ.out (AO) Am Ai
 obtain rfl : Ae = As := (by injection BO)
 replace AN := (HB.out.cell (World.block_lt_of_cell? w _ AN)).trans AN
 replace Am := eq_true Am
 replace Ai := eq_true Ai
 go_wp2
 repeat (go_quiet (fail); try go_wp2)
 go_ret
 exact ⟨by first | rfl | (simp [errW_none, errW_some] <;> rfl) | (simp only [← AW]; first | rfl | (simp [errW_none, errW_some] <;> rfl)) | (simp [*, errW_none, errW_some] <;> rfl), zBG HB.out AG.out⟩
 }
 · rw [if_neg BJ] at H; exact absurd H (by simp)
 }
 · rw [if_neg Ax] at H; exact absurd H (by simp)
 }
 {
 rw [if_neg Ak] at H
 have Au : ((rd AA 0) == 0) = false := beq_eq_false_iff_ne.mpr Ak
 have At : ((rd AA 0) != 0) = true := bne_iff_ne.mpr Ak
 obtain rfl := Option.some.inj H
 have BG : wr.cell? ⟨AD, 0, none⟩ = some (.int .i16 AE) := (blk_cell AB.out 0).trans rfl
 have BH : wr.cell? ⟨AD, 1, none⟩ = some (.slice AM AA.length AL) := (blk_cell AB.out 1).trans rfl
 have BF := blk_frozen AB.out 0
 have A1 := blk_frozen AB.out 1
 have AT : 0 ≤ (0 : Int) := (by omega)
 have AR : 0 < (AA.length : Int) := of_decide_eq_true (by assumption)
 obtain ⟨Ae, Al, AC⟩ := Kd.at_int AJ.out 0 AT AR
 cases Al
 have Ar : (0 < AA.length) = True := eq_true (by omega)
 (try rw [show ((0 : Int)).toNat = 0 from rfl] at AC)
 (try rw [Addr.add_zero'] at AC)
 replace AC := (HB.out.cell (World.block_lt_of_cell? w _ AC)).trans AC
 replace AT := eq_true AT
 replace AR := eq_true AR
 go_wp2
 repeat (go_quiet (fail); try go_wp2)
 go_ret
 exact ⟨rfl, zBG HB.out AG.out⟩
 }
 }
 · rw [if_neg BK] at H; exact absurd H (by simp)
 }
 )
 )
 }
 )
 )
end Go.Proofs.Ytooidjdgfoioiaa.P
