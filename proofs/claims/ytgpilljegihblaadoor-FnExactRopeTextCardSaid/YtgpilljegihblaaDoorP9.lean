-- Printed by wip/print (my turned copy of the kit's print) out of the translation; Lean checks it.
import Derived.Test.YtgpilljegihblaaDoorP0
import Derived.Test.YtgpilljegihblaaDoorP6
import Derived.Test.YtgpilljegihblaaDoorP8
namespace Go.Proofs.YtgpilljegihblaaDoor.P
open Go.RowKit Go.Proofs.YtgpilljegihblaaDoorW.PrintWords Go.Proofs.YtgpilljegihblaaDoorW.PrintLast Go.Proofs.YtgpilljegihblaaDoorW.PrintMore
attribute [local go_sem] max2_int min2_int max_two min_two max_three min_three max_four min_four   -- for this text's walks alone
set_option linter.unusedVariables false
set_option linter.unusedSimpArgs false

/-! ### laws_FnExactRopeText: function 3 -/
def laws_FnExactRopeText.f (k : Nat) (a0_0 : Int) (l0_1 : List Int)  : Option (Bool) := (laws_szRope.f a0_0 l0_1 1048576).bind fun t158 => (if t158 < 0 then (some true) else ((laws_toRope.f k a0_0 l0_1).bind fun bt159 => ((spec_RopeText.f k bt159.1 bt159.2).bind fun t163 => ((laws_toRope.f k a0_0 l0_1).bind fun bt164 => ((impl_RopeText.f k bt164.1 bt164.2).bind fun t169 => (if t169.toList = t163.toList then ((laws_toRope.f k a0_0 l0_1).bind fun bt170 => ((laws_eqRope.f k bt164.1 bt164.2 bt170.1 bt170.2).bind fun t174 => (if t174 = true then (some true) else (some false)))) else (some false)))))))
theorem laws_FnExactRopeText.mono : ∀ a0 a1 k, LeO (laws_FnExactRopeText.f k a0 a1) (laws_FnExactRopeText.f (k + 1) a0 a1) := by
  intro a0 a1 k
  unfold laws_FnExactRopeText.f
  repeat' first
      | (with_reducible exact impl_RopeText.mono _ _ _)
      | (with_reducible exact laws_eqRope.mono _ _ _ _ _)
      | (with_reducible exact laws_toRope.mono _ _ _)
      | (with_reducible exact spec_RopeText.mono _ _ _)
      | (with_reducible exact LeO.refl _)
      | (with_reducible exact LeO.none _)
      | (with_reducible refine LeO.ite ?_ ?_)
      | (with_reducible refine LeO.bind ?_ (fun _ => ?_))
      | exact impl_RopeText.mono _ _ _
      | exact laws_eqRope.mono _ _ _ _ _
      | exact laws_toRope.mono _ _ _
      | exact spec_RopeText.mono _ _ _
      | exact LeO.none _
      | refine LeO.ite ?_ ?_
      | refine LeO.bind ?_ (fun _ => ?_)
set_option maxHeartbeats 8000000 in
set_option maxRecDepth 100000 in
theorem laws_FnExactRopeText.calls (k : Nat) (a0_0 : Int) (A0_1 : Option Addr) (c0_1 : Nat) (l0_1 : List Int)  (r : Bool) (w : World) (hr0_1 : Kd.C (Kd.int .i16) w A0_1 l0_1.length l0_1) (hc0_1 : l0_1.length ≤ c0_1) (hgt : Go.Proofs.YtgpilljegihblaaDoor.H.Tab10 w) (hT : r = true) (h : laws_FnExactRopeText.f k a0_0 l0_1 = some r) :
    Calls Tryd.prog 3 #[.agg #[.int .i16 a0_0, .slice A0_1 l0_1.length c0_1]] w fun e w' => e = .returned (.bool r) ∧ Below w.heap.size w w' := by
 have hu25 := Tryd.underlying25
 have hu28 := Tryd.underlying28
 have HR0_1 := ak hr0_1
 have HC0_1 := ak hc0_1
 clear hr0_1 hc0_1
 have HT := ak hT
 clear hT
 have HGT := ak hgt
 clear hgt
 have HB := ak (Below.refl w.heap.size w)
 have H : ((laws_szRope.f a0_0 l0_1 1048576).bind fun t158 => (if t158 < 0 then (some true) else ((laws_toRope.f k a0_0 l0_1).bind fun bt159 => ((spec_RopeText.f k bt159.1 bt159.2).bind fun t163 => ((laws_toRope.f k a0_0 l0_1).bind fun bt164 => ((impl_RopeText.f k bt164.1 bt164.2).bind fun t169 => (if t169.toList = t163.toList then ((laws_toRope.f k a0_0 l0_1).bind fun bt170 => ((laws_eqRope.f k bt164.1 bt164.2 bt170.1 bt170.2).bind fun t174 => (if t174 = true then (some true) else (some false)))) else (some false)))))))) = some r := h
 clear h
 replace H := Option.bind_eq_some_iff.mp H
 obtain ⟨t158, A30, H⟩ := H
 replace H : (if t158 < 0 then (some true) else ((laws_toRope.f k a0_0 l0_1).bind fun bt159 => ((spec_RopeText.f k bt159.1 bt159.2).bind fun t163 => ((laws_toRope.f k a0_0 l0_1).bind fun bt164 => ((impl_RopeText.f k bt164.1 bt164.2).bind fun t169 => (if t169.toList = t163.toList then ((laws_toRope.f k a0_0 l0_1).bind fun bt170 => ((laws_eqRope.f k bt164.1 bt164.2 bt170.1 bt170.2).bind fun t174 => (if t174 = true then (some true) else (some false)))) else (some false))))))) = some r := H
 have A3 := ak A30
 clear A30
 by_cases c4 : t158 < 0
 {
 rw [if_pos c4] at H
 have c4b0 : decide (t158 < 0) = true := decide_eq_true c4
 clear c4
 obtain rfl := Option.some.inj H
 go_enter Tryd.func3, Tryd.ntmps3
 go_wp2_with (first | ((with_reducible refine gate_dst (N := 1) rfl ?_); refine box_event ?hg (N := 1) ?hd (cs := #[.int .i16 a0_0, .slice A0_1 l0_1.length c0_1]) (t := 25) ?hr ?_; (case hd => rfl); (case hg => rfl); (case hr => first | (go_simp; done) | (go_simp; rfl)); intro gb157 hg w5 hbox hb; have n0_ := ak (below_step (zB HB.out) hb); have n1_ := ak (hbox); have n2_ := ak ((by rw [hg]; exact (below_size (zB HB.out)) : w.heap.size ≤ gb157)); have n3_ := ak ((by rw [hg]; exact (below_size (zB HB.out)) : w.heap.size ≤ gb157)); clear HB; have HB := n0_; have BK157 := n1_; have GW157 := n2_; have GE157 := n3_; clear n0_ n1_ n2_ n3_; clear hb hbox hg; have hcz6_0 : w5.cell? ⟨gb157, 0, none⟩ = some (.int .i16 a0_0) := (blk_cell BK157.out 0).trans rfl; have hcz6_1 : w5.cell? ⟨gb157, 1, none⟩ = some (.slice A0_1 l0_1.length c0_1) := (blk_cell BK157.out 1).trans rfl; have hfz6_0 := blk_frozen BK157.out 0; have hfz6_1 := blk_frozen BK157.out 1) | ((with_reducible refine gate_callee (f := 5) rfl ?_); refine goesL_ (some 9) rfl rfl Tryd.func5 (by kernel_rfl) rfl #[.agg #[.int .i16 a0_0, .slice A0_1 l0_1.length c0_1], .int .i64 1048576] rfl (by (try simp only [List.map_toArray, List.map_cons, List.map_nil]); first | done | rfl | (simp only [List.length_drop, List.length_take]; rfl)) ?_; (with_reducible refine (laws_szRope.calls a0_0 _ _ l0_1 1048576 t158 _ ?side1 ?side2 A3.out).mono ?_); (case side1 => repeat (first | exact (Kd.C_below HR0_1.out HB.out) | (with_reducible refine Kd.C_alloc ?_ _) | (with_reducible refine Kd.C_drewN ?_ _) | (with_reducible refine Kd.C_drew ?_))); (case side2 => exact HC0_1.out); rintro e w7 ⟨rfl, hb⟩; refine ⟨_, rfl, ?_⟩; have n0_ := ak (blk_below (g := gb157) (o := .cells #[.int .i16 a0_0, .slice A0_1 l0_1.length c0_1] 25 (0, 0)) (zK BK157.out) hb); have n1_ := ak (below_step (zBG HB.out GE157.out) hb); clear BK157 HB; have BK157 := n0_; have HB := n1_; clear n0_ n1_; (try clear hb); (try clear hb2); (try clear hk); (try clear hi)))
 go_ret
 exact ⟨by first | rfl | (simp [errW_none, errW_some] <;> rfl) | (simp [*, errW_none, errW_some] <;> rfl), by repeat (first | (with_reducible first | exact HB.out | apply below_alloc | apply pw_below_drewN | apply below_drew1 | refine below_set ?_ GE157.out) | exact HB.out)⟩
 }
 {
 rw [if_neg c4] at H
 have c4b0 : decide (t158 < 0) = false := decide_eq_false c4
 clear c4
 replace H := Option.bind_eq_some_iff.mp H
 obtain ⟨⟨t159, t160⟩, A80, H⟩ := H
 replace H : ((spec_RopeText.f k t159 t160).bind fun t163 => ((laws_toRope.f k a0_0 l0_1).bind fun bt164 => ((impl_RopeText.f k bt164.1 bt164.2).bind fun t169 => (if t169.toList = t163.toList then ((laws_toRope.f k a0_0 l0_1).bind fun bt170 => ((laws_eqRope.f k bt164.1 bt164.2 bt170.1 bt170.2).bind fun t174 => (if t174 = true then (some true) else (some false)))) else (some false))))) = some r := H
 have A8 := ak A80
 clear A80
 replace H := Option.bind_eq_some_iff.mp H
 obtain ⟨t163, A90, H⟩ := H
 replace H : ((laws_toRope.f k a0_0 l0_1).bind fun bt164 => ((impl_RopeText.f k bt164.1 bt164.2).bind fun t169 => (if t169.toList = t163.toList then ((laws_toRope.f k a0_0 l0_1).bind fun bt170 => ((laws_eqRope.f k bt164.1 bt164.2 bt170.1 bt170.2).bind fun t174 => (if t174 = true then (some true) else (some false)))) else (some false)))) = some r := H
 have A9 := ak A90
 clear A90
 replace H := Option.bind_eq_some_iff.mp H
 obtain ⟨⟨t164, t165⟩, A100, H⟩ := H
 replace H : ((impl_RopeText.f k t164 t165).bind fun t169 => (if t169.toList = t163.toList then ((laws_toRope.f k a0_0 l0_1).bind fun bt170 => ((laws_eqRope.f k t164 t165 bt170.1 bt170.2).bind fun t174 => (if t174 = true then (some true) else (some false)))) else (some false))) = some r := H
 have A10 := ak A100
 clear A100
 replace H := Option.bind_eq_some_iff.mp H
 obtain ⟨t169, A110, H⟩ := H
 replace H : (if t169.toList = t163.toList then ((laws_toRope.f k a0_0 l0_1).bind fun bt170 => ((laws_eqRope.f k t164 t165 bt170.1 bt170.2).bind fun t174 => (if t174 = true then (some true) else (some false)))) else (some false)) = some r := H
 have A11 := ak A110
 clear A110
 by_cases c12 : t169.toList = t163.toList
 {
 rw [if_pos c12] at H
 have c12b0 : (t169.toList == t163.toList) = true := beq_iff_eq.mpr c12
 have c12b1 : (t169.toList != t163.toList) = false := bne_eq_false_iff_eq.mpr c12
 clear c12
 replace H := Option.bind_eq_some_iff.mp H
 obtain ⟨⟨t170, t171⟩, A130, H⟩ := H
 replace H : ((laws_eqRope.f k t164 t165 t170 t171).bind fun t174 => (if t174 = true then (some true) else (some false))) = some r := H
 have A13 := ak A130
 clear A130
 replace H := Option.bind_eq_some_iff.mp H
 obtain ⟨t174, A140, H⟩ := H
 replace H : (if t174 = true then (some true) else (some false)) = some r := H
 have A14 := ak A140
 clear A140
 by_cases c15 : t174 = true
 {
 subst c15
 have H1 : (some true) = some r := by rw [if_pos rfl] at H; exact H
 clear H
 have H := H1
 clear H1
 obtain rfl := Option.some.inj H
 go_enter Tryd.func3, Tryd.ntmps3
 try go_wp2_with (first | ((with_reducible refine gate_dst (N := 1) rfl ?_); refine box_event ?hg (N := 1) ?hd (cs := #[.int .i16 a0_0, .slice A0_1 l0_1.length c0_1]) (t := 25) ?hr ?_; (case hd => rfl); (case hg => rfl); (case hr => first | (go_simp; done) | (go_simp; rfl)); intro gb157 hg w16 hbox hb; have n0_ := ak (below_step (zB HB.out) hb); have n1_ := ak (hbox); have n2_ := ak ((by rw [hg]; exact (below_size (zB HB.out)) : w.heap.size ≤ gb157)); have n3_ := ak ((by rw [hg]; exact (below_size (zB HB.out)) : w.heap.size ≤ gb157)); clear HB; have HB := n0_; have BK157 := n1_; have GW157 := n2_; have GE157 := n3_; clear n0_ n1_ n2_ n3_; clear hb hbox hg; have hcz17_0 : w16.cell? ⟨gb157, 0, none⟩ = some (.int .i16 a0_0) := (blk_cell BK157.out 0).trans rfl; have hcz17_1 : w16.cell? ⟨gb157, 1, none⟩ = some (.slice A0_1 l0_1.length c0_1) := (blk_cell BK157.out 1).trans rfl; have hfz17_0 := blk_frozen BK157.out 0; have hfz17_1 := blk_frozen BK157.out 1) | ((with_reducible refine gate_callee (f := 5) rfl ?_); refine goesL_ (some 9) rfl rfl Tryd.func5 (by kernel_rfl) rfl #[.agg #[.int .i16 a0_0, .slice A0_1 l0_1.length c0_1], .int .i64 1048576] rfl (by (try simp only [List.map_toArray, List.map_cons, List.map_nil]); first | done | rfl | (simp only [List.length_drop, List.length_take]; rfl)) ?_; (with_reducible refine (laws_szRope.calls a0_0 _ _ l0_1 1048576 t158 _ ?side1 ?side2 A3.out).mono ?_); (case side1 => repeat (first | exact (Kd.C_below HR0_1.out HB.out) | (with_reducible refine Kd.C_alloc ?_ _) | (with_reducible refine Kd.C_drewN ?_ _) | (with_reducible refine Kd.C_drew ?_))); (case side2 => exact HC0_1.out); rintro e w18 ⟨rfl, hb⟩; refine ⟨_, rfl, ?_⟩; have n0_ := ak (blk_below (g := gb157) (o := .cells #[.int .i16 a0_0, .slice A0_1 l0_1.length c0_1] 25 (0, 0)) (zK BK157.out) hb); have n1_ := ak (below_step (zBG HB.out GE157.out) hb); clear BK157 HB; have BK157 := n0_; have HB := n1_; clear n0_ n1_; (try clear hb); (try clear hb2); (try clear hk); (try clear hi); have hcz19_0 : w18.cell? ⟨gb157, 0, none⟩ = some (.int .i16 a0_0) := (blk_cell BK157.out 0).trans rfl; have hcz19_1 : w18.cell? ⟨gb157, 1, none⟩ = some (.slice A0_1 l0_1.length c0_1) := (blk_cell BK157.out 1).trans rfl; have hfz19_0 := blk_frozen BK157.out 0; have hfz19_1 := blk_frozen BK157.out 1) | ((with_reducible refine gate_callee (f := 7) rfl ?_); refine goesL_ (some 13) rfl rfl Tryd.func7 (by kernel_rfl) rfl #[.agg #[.int .i16 a0_0, .slice A0_1 l0_1.length c0_1]] rfl (by (try simp only [List.map_toArray, List.map_cons, List.map_nil]); first | done | rfl | (simp only [List.length_drop, List.length_take]; rfl)) ?_; (with_reducible refine (laws_toRope.calls k a0_0 _ _ l0_1 t159 t160 _ ?side1 ?side2 A8.out).mono ?_); (case side1 => repeat (first | exact (Kd.C_below HR0_1.out HB.out) | (with_reducible refine Kd.C_alloc ?_ _) | (with_reducible refine Kd.C_drewN ?_ _) | (with_reducible refine Kd.C_drew ?_))); (case side2 => exact HC0_1.out); rintro e w20 ⟨v161, rfl, ho0, hb⟩; refine ⟨_, rfl, ?_⟩; have n0_ := ak (Kd.R_lower ho0 (below_size (zBG HB.out GE157.out))); have n1_ := ak (blk_below (g := gb157) (o := .cells #[.int .i16 a0_0, .slice A0_1 l0_1.length c0_1] 25 (0, 0)) (zK BK157.out) hb); have n2_ := ak (below_step (zBG HB.out GE157.out) hb); clear BK157 HB; have HO162 := n0_; have BK157 := n1_; have HB := n2_; clear n0_ n1_ n2_; (try clear hb); (try clear hb2); (try clear hk); (try clear hi); (try clear ho0); obtain ⟨Ao21, co21, eo21⟩ := Kd.R_slice HO162.out; subst eo21) | ((with_reducible refine gate_callee (f := 6) rfl ?_); refine goesL_ (some 14) rfl rfl Tryd.func6 (by kernel_rfl) rfl #[.agg #[.int .i16 t159, .slice Ao21 t160.length co21]] rfl (by (try simp only [List.map_toArray, List.map_cons, List.map_nil]); first | done | rfl | (simp only [List.length_drop, List.length_take]; rfl)) ?_; (with_reducible refine (spec_RopeText.calls k t159 _ _ t160 t163 _ ?side1 ?side2 A9.out).mono ?_); (case side1 => exact zC (Kd.R_reads' HO162.out).2.2); (case side2 => exact (Kd.R_reads' HO162.out).2.1); rintro e w22 ⟨rfl, hb⟩; refine ⟨_, rfl, ?_⟩; have n0_ := ak (Kd.R_below (zR HO162.out) hb); have n1_ := ak (blk_below (g := gb157) (o := .cells #[.int .i16 a0_0, .slice A0_1 l0_1.length c0_1] 25 (0, 0)) (zK BK157.out) hb); have n2_ := ak (below_step (zBG HB.out GE157.out) hb); clear HO162 BK157 HB; have HO162 := n0_; have BK157 := n1_; have HB := n2_; clear n0_ n1_ n2_; (try clear hb); (try clear hb2); (try clear hk); (try clear hi); have hcz23_0 : w22.cell? ⟨gb157, 0, none⟩ = some (.int .i16 a0_0) := (blk_cell BK157.out 0).trans rfl; have hcz23_1 : w22.cell? ⟨gb157, 1, none⟩ = some (.slice A0_1 l0_1.length c0_1) := (blk_cell BK157.out 1).trans rfl; have hfz23_0 := blk_frozen BK157.out 0; have hfz23_1 := blk_frozen BK157.out 1) | ((with_reducible refine gate_callee (f := 7) rfl ?_); refine goesL_ (some 16) rfl rfl Tryd.func7 (by kernel_rfl) rfl #[.agg #[.int .i16 a0_0, .slice A0_1 l0_1.length c0_1]] rfl (by (try simp only [List.map_toArray, List.map_cons, List.map_nil]); first | done | rfl | (simp only [List.length_drop, List.length_take]; rfl)) ?_; (with_reducible refine (laws_toRope.calls k a0_0 _ _ l0_1 t164 t165 _ ?side1 ?side2 A10.out).mono ?_); (case side1 => repeat (first | exact (Kd.C_below HR0_1.out HB.out) | (with_reducible refine Kd.C_alloc ?_ _) | (with_reducible refine Kd.C_drewN ?_ _) | (with_reducible refine Kd.C_drew ?_))); (case side2 => exact HC0_1.out); rintro e w24 ⟨v166, rfl, ho0, hb⟩; refine ⟨_, rfl, ?_⟩; have n0_ := ak (Kd.R_elder' (zR HO162.out) (Kd.R_base ho0) hb); have n1_ := ak (Kd.R_lower (Kd.R_new' ho0 (Kd.R_lt (zR HO162.out))) (below_size (zBG HB.out GE157.out))); have n2_ := ak (blk_below (g := gb157) (o := .cells #[.int .i16 a0_0, .slice A0_1 l0_1.length c0_1] 25 (0, 0)) (zK BK157.out) hb); have n3_ := ak (below_step (zBG HB.out GE157.out) hb); clear HO162 BK157 HB; have HO162 := n0_; have HO167 := n1_; have BK157 := n2_; have HB := n3_; clear n0_ n1_ n2_ n3_; (try clear hb); (try clear hb2); (try clear hk); (try clear hi); (try clear ho0)) | ((with_reducible refine gate_dst (N := 5) rfl ?_); refine box_event ?hg (N := 5) ?hd (cs := #[.int .i16 0, .slice none 0 0]) (t := 28) ?hr ?_; (case hd => rfl); (case hg => rfl); (case hr => first | (go_simp; done) | (go_simp; rfl)); intro gb168 hg w25 hbox hb; have n0_ := ak (Kd.R_below (zR HO162.out) hb); have n1_ := ak (Kd.R_below (zR HO167.out) hb); have n2_ := ak (blk_below (g := gb157) (o := .cells #[.int .i16 a0_0, .slice A0_1 l0_1.length c0_1] 25 (0, 0)) (zK BK157.out) hb); have n3_ := ak (below_step (zBG HB.out GE157.out) hb); have n4_ := ak (hbox); have n5_ := ak ((by rw [hg]; exact (below_size (zBG HB.out GE157.out)) : w.heap.size ≤ gb168)); have n6_ := ak ((by rw [hg]; exact (below_size (zBG HB.out GE157.out)) : w.heap.size ≤ gb168)); have n7_ := ak ((by rw [hg]; exact Nat.ne_of_lt (blk_lt (g := gb157) (o := .cells #[.int .i16 a0_0, .slice A0_1 l0_1.length c0_1] 25 (0, 0)) (zK BK157.out)) : gb157 ≠ gb168)); have n8_ := ak ((by rw [hg]; exact Nat.ne_of_gt (blk_lt (g := gb157) (o := .cells #[.int .i16 a0_0, .slice A0_1 l0_1.length c0_1] 25 (0, 0)) (zK BK157.out)) : gb168 ≠ gb157)); clear HO162 HO167 BK157 HB; have HO162 := n0_; have HO167 := n1_; have BK157 := n2_; have HB := n3_; have BK168 := n4_; have GW168 := n5_; have GE168 := n6_; have NB157_168 := n7_; have NB168_157 := n8_; clear n0_ n1_ n2_ n3_ n4_ n5_ n6_ n7_ n8_; clear hb hbox hg; have hnb26 := NB168_157.out; have hnc26 := NB157_168.out; have hcz27_0 : w25.cell? ⟨gb168, 0, none⟩ = some (.int .i16 0) := (blk_cell BK168.out 0).trans rfl; have hcz27_1 : w25.cell? ⟨gb168, 1, none⟩ = some (.slice none 0 0) := (blk_cell BK168.out 1).trans rfl; have hfz27_0 := blk_frozen BK168.out 0; have hfz27_1 := blk_frozen BK168.out 1; obtain ⟨Ao28, co28, eo28⟩ := Kd.R_slice HO167.out; subst eo28) | ((with_reducible refine gate_callee (f := 8) rfl ?_); refine goesL_ (some 18) rfl rfl Tryd.func8 (by kernel_rfl) rfl #[.agg #[.int .i16 t164, .slice Ao28 t165.length co28]] rfl (by (try simp only [List.map_toArray, List.map_cons, List.map_nil]); first | done | rfl | (simp only [List.length_drop, List.length_take]; rfl)) ?_; (with_reducible refine (impl_RopeText.calls k t164 _ _ t165  t169 _ ?side1 ?side2 ?side3 A11.out).mono ?_); (case side1 => refine (Kd.R_reads' (e := 22) (base := w.heap.size) (ok := fun k_ => (True ∧ some k_ ≠ (.slice Ao21 t160.length co21 : Value).ownBlock)) (n := t165.length) (c := co28) ?_).2.2; exact (by (with_reducible repeat (first | apply Kd.R_alloc | apply Kd.R_drewN | apply Kd.R_drew)); exact (Kd.R_mono (Kd.R_far (p := ⟨gb168, 1, none⟩) (Kd.R_far (p := ⟨gb168, 0, none⟩) (Kd.R_types HO167.out BK168.out (by decide)) (fun _ hk => hk.2) (.int .i16 t164)) (fun _ hk => hk.2) (.slice Ao28 t165.length co28)) (fun _ h_ => h_.1)))); (case side2 => exact (Kd.R_reads' HO167.out).2.1); (case side3 => exact Go.Proofs.YtgpilljegihblaaDoor.H.tab10_below HGT.out (by repeat (first | (with_reducible first | exact HB.out | apply below_alloc | apply pw_below_drewN | apply below_drew1 | refine below_set ?_ GE157.out | refine below_set ?_ GE168.out) | exact HB.out))); rintro e w29 ⟨rfl, hb⟩; refine ⟨_, rfl, ?_⟩; have n0_ := ak (Kd.R_below (by (with_reducible repeat (first | apply Kd.R_alloc | apply Kd.R_drewN | apply Kd.R_drew)); exact (Kd.R_mono (Kd.R_far (p := ⟨gb168, 1, none⟩) (Kd.R_far (p := ⟨gb168, 0, none⟩) (Kd.R_types HO162.out BK168.out (by decide)) (fun _ hk => hk.2) (.int .i16 t164)) (fun _ hk => hk.2) (.slice Ao28 t165.length co28)) (fun _ h_ => h_.1))) hb); have n1_ := ak (Kd.R_below (by (with_reducible repeat (first | apply Kd.R_alloc | apply Kd.R_drewN | apply Kd.R_drew)); exact (Kd.R_mono (Kd.R_far (p := ⟨gb168, 1, none⟩) (Kd.R_far (p := ⟨gb168, 0, none⟩) (Kd.R_types HO167.out BK168.out (by decide)) (fun _ hk => hk.2) (.int .i16 t164)) (fun _ hk => hk.2) (.slice Ao28 t165.length co28)) (fun _ h_ => h_.1))) hb); have n2_ := ak (blk_below (g := gb157) (o := .cells #[.int .i16 a0_0, .slice A0_1 l0_1.length c0_1] 25 (0, 0)) (by (with_reducible repeat (first | refine blk_drewN ?_ _ | refine blk_drew ?_ | refine blk_alloc ?_ _)); refine blk_far ?_ NB157_168.out _; (with_reducible repeat (first | refine blk_drewN ?_ _ | refine blk_drew ?_ | refine blk_alloc ?_ _)); refine blk_far ?_ NB157_168.out _; (with_reducible repeat (first | refine blk_drewN ?_ _ | refine blk_drew ?_ | refine blk_alloc ?_ _)); exact BK157.out) hb); have n3_ := ak (blk_below (g := gb168) (o := .cells #[.int .i16 t164, .slice Ao28 t165.length co28] 28 (0, 0)) (by (with_reducible repeat (first | refine blk_drewN ?_ _ | refine blk_drew ?_ | refine blk_alloc ?_ _)); refine blk_put (cs := #[.int .i16 t164, .slice none 0 0]) ?_ 1 _ rfl; (with_reducible repeat (first | refine blk_drewN ?_ _ | refine blk_drew ?_ | refine blk_alloc ?_ _)); refine blk_put (cs := #[.int .i16 0, .slice none 0 0]) ?_ 0 _ rfl; (with_reducible repeat (first | refine blk_drewN ?_ _ | refine blk_drew ?_ | refine blk_alloc ?_ _)); exact BK168.out) hb); have n4_ := ak (below_step (by repeat (first | (with_reducible first | exact HB.out | apply below_alloc | apply pw_below_drewN | apply below_drew1 | refine below_set ?_ GE157.out | refine below_set ?_ GE168.out) | exact HB.out)) hb); clear HO162 HO167 BK157 BK168 HB; have HO162 := n0_; have HO167 := n1_; have BK157 := n2_; have BK168 := n3_; have HB := n4_; clear n0_ n1_ n2_ n3_ n4_; (try clear hb); (try clear hb2); (try clear hk); (try clear hi)))
 have n0_ := ak (Kd.R_drew HO162.out)
 have n1_ := ak (Kd.R_drew HO167.out)
 have n2_ := ak (blk_drew BK157.out)
 have n3_ := ak (blk_drew BK168.out)
 have n4_ := ak (below_drew1 HB.out)
 clear HO162 HO167 BK157 BK168 HB
 have HO162 := n0_
 have HO167 := n1_
 have BK157 := n2_
 have BK168 := n3_
 have HB := n4_
 clear n0_ n1_ n2_ n3_ n4_
 refine start_ (n := 5) (S := fun w' => w'.cell? ⟨gb168, 0, none⟩ = some (.int .i16 t164) ∧ w'.cell? ⟨gb168, 1, none⟩ = some (.slice Ao28 t165.length co28) ∧ w'.cell? ⟨gb157, 0, none⟩ = some (.int .i16 a0_0) ∧ w'.cell? ⟨gb157, 1, none⟩ = some (.slice A0_1 l0_1.length c0_1)) (ds := []) #[false, false, false, false, false] (by kernel_rfl) rfl rfl ⟨(blk_cell BK168.out 0).trans rfl, (blk_cell BK168.out 1).trans rfl, (blk_cell BK157.out 0).trans rfl, (blk_cell BK157.out 1).trans rfl⟩ (fun hHeld => ?_)
 generalize w29.drew = w30 at HO162 HO167 BK157 BK168 HB hHeld ⊢
 refine take_ (i := 0) (N := some 22) (v := ?_) (a' := ?_) #[true, false, false, false, false] rfl rfl (by kernel_rfl) (fun _ _ _ h => h) (Or.inl ⟨by rfl, ?_⟩) hHeld ?_ ?_
 rotate_left
 {
 rintro w' ⟨s0, s1, s2, s3⟩
 go_simp
 with_reducible rfl
 }
 rotate_left
 · simp only [Act.put, zs, zz, zk, i64_w, i32_w]; rfl
 refine take_ (i := 1) (N := some 23) (v := ?_) (a' := ?_) #[true, true, false, false, false] rfl rfl (by kernel_rfl) (fun _ _ _ h => h) (Or.inl ⟨by rfl, ?_⟩) hHeld ?_ ?_
 rotate_left
 {
 rintro w' ⟨s0, s1, s2, s3⟩
 go_simp
 with_reducible rfl
 }
 rotate_left
 · simp only [Act.put, zs, zz, zk, i64_w, i32_w]; rfl
 refine one_ (i := 2) (N := some 24) #[true, true, true, false, false] rfl rfl (by kernel_rfl) (by decide) (fun K hK => ?_)
 refine goes_ Tryd.func7 (by kernel_rfl) rfl #[.agg #[.int .i16 a0_0, .slice A0_1 l0_1.length c0_1]] (by rfl) rfl rfl (by (try simp only [List.map_toArray, List.map_cons, List.map_nil]); first | done | rfl | (simp only [List.length_drop, List.length_take]; rfl)) ?_
 with_reducible refine (laws_toRope.calls k a0_0 _ _ l0_1 t170 t171 _ ?side1 ?side2 A13.out).mono ?_
 (case side1 => repeat (first | exact (Kd.C_below HR0_1.out HB.out) | (with_reducible refine Kd.C_alloc ?_ _) | (with_reducible refine Kd.C_drewN ?_ _) | (with_reducible refine Kd.C_drew ?_)))
 (case side2 => exact HC0_1.out)
 rintro e w31 ⟨v172, rfl, ho0, hb⟩
 refine ⟨_, rfl, ?_⟩
 have n0_ := ak (Kd.R_elder' (zR HO162.out) (Kd.R_base ho0) hb)
 have n1_ := ak (Kd.R_elder' (zR HO167.out) (Kd.R_base ho0) hb)
 have n2_ := ak (Kd.R_lower (Kd.R_new' (Kd.R_new' ho0 (Kd.R_lt (zR HO162.out))) (Kd.R_lt (zR HO167.out))) (below_size (by repeat (first | (with_reducible first | exact HB.out | apply below_alloc | apply pw_below_drewN | apply below_drew1 | refine below_set ?_ GE157.out | refine below_set ?_ GE168.out) | exact HB.out))))
 have n3_ := ak (blk_below (g := gb157) (o := .cells #[.int .i16 a0_0, .slice A0_1 l0_1.length c0_1] 25 (0, 0)) (zK BK157.out) hb)
 have n4_ := ak (blk_below (g := gb168) (o := .cells #[.int .i16 t164, .slice Ao28 t165.length co28] 28 (0, 0)) (zK BK168.out) hb)
 have n5_ := ak (below_step (by repeat (first | (with_reducible first | exact HB.out | apply below_alloc | apply pw_below_drewN | apply below_drew1 | refine below_set ?_ GE157.out | refine below_set ?_ GE168.out) | exact HB.out)) hb)
 clear HO162 HO167 BK157 BK168 HB
 have HO162 := n0_
 have HO167 := n1_
 have HO173 := n2_
 have BK157 := n3_
 have BK168 := n4_
 have HB := n5_
 clear n0_ n1_ n2_ n3_ n4_ n5_
 (try clear hb)
 (try clear hb2)
 (try clear hk)
 (try clear hi)
 (try clear ho0)
 obtain ⟨Ao32, co32, eo32⟩ := Kd.R_slice HO173.out
 (first | subst eo32 | (injection eo32 with f1_ f2_ f3_; have f4_ := f1_.symm; have f5_ := f3_.symm; clear f1_ f2_ f3_; subst f4_; subst f5_))
 refine hK.out _ _ ⟨(blk_cell BK168.out 0).trans rfl, (blk_cell BK168.out 1).trans rfl, (blk_cell BK157.out 0).trans rfl, (blk_cell BK157.out 1).trans rfl⟩ (fun hHeld => ?_)
 clear hK K
 refine norm_ (a' := ?_) ?_ ?_
 rotate_left
 {
 show Act.put _ (some 24) _ = _
 simp only [Act.put, zs, zz, zk, i64_w, i32_w]
 rfl
 }
 refine one_ (i := 3) (N := some 25) #[true, true, true, true, false] rfl rfl (by kernel_rfl) (by decide) (fun K hK => ?_)
 refine goes_ Tryd.func9 (by kernel_rfl) rfl #[.agg #[.int .i16 t164, .slice Ao28 t165.length co28], .agg #[.int .i16 t170, .slice Ao32 t171.length co32]] (by rfl) rfl rfl (by (try simp only [List.map_toArray, List.map_cons, List.map_nil]); first | done | rfl | (simp only [List.length_drop, List.length_take]; rfl)) ?_
 with_reducible refine (laws_eqRope.calls k t164 _ _ t165 t170 _ _ t171 true _ ?side1 ?side2 ?side3 ?side4 A14.out).mono ?_
 (case side1 => exact zC (Kd.R_reads' HO167.out).2.2)
 (case side2 => exact (Kd.R_reads' HO167.out).2.1)
 (case side3 => exact zC (Kd.R_reads' HO173.out).2.2)
 (case side4 => exact (Kd.R_reads' HO173.out).2.1)
 rintro e w33 ⟨rfl, hb⟩
 refine ⟨_, rfl, ?_⟩
 have n0_ := ak (Kd.R_below (zR HO162.out) hb)
 have n1_ := ak (Kd.R_below (zR HO167.out) hb)
 have n2_ := ak (Kd.R_below (zR HO173.out) hb)
 have n3_ := ak (blk_below (g := gb157) (o := .cells #[.int .i16 a0_0, .slice A0_1 l0_1.length c0_1] 25 (0, 0)) (zK BK157.out) hb)
 have n4_ := ak (blk_below (g := gb168) (o := .cells #[.int .i16 t164, .slice Ao28 t165.length co28] 28 (0, 0)) (zK BK168.out) hb)
 have n5_ := ak (below_step (by repeat (first | (with_reducible first | exact HB.out | apply below_alloc | apply pw_below_drewN | apply below_drew1 | refine below_set ?_ GE157.out | refine below_set ?_ GE168.out) | exact HB.out)) hb)
 clear HO162 HO167 HO173 BK157 BK168 HB
 have HO162 := n0_
 have HO167 := n1_
 have HO173 := n2_
 have BK157 := n3_
 have BK168 := n4_
 have HB := n5_
 clear n0_ n1_ n2_ n3_ n4_ n5_
 (try clear hb)
 (try clear hb2)
 (try clear hk)
 (try clear hi)
 refine hK.out _ _ ⟨(blk_cell BK168.out 0).trans rfl, (blk_cell BK168.out 1).trans rfl, (blk_cell BK157.out 0).trans rfl, (blk_cell BK157.out 1).trans rfl⟩ (fun hHeld => ?_)
 clear hK K
 refine norm_ (a' := ?_) ?_ ?_
 rotate_left
 {
 show Act.put _ (some 25) _ = _
 simp only [Act.put, zs, zz, zk, i64_w, i32_w]
 rfl
 }
 refine pure_ (i := 4) (N := some 26) (v := ?_) (a' := ?_) #[true, true, true, true, true] rfl rfl (by kernel_rfl) (fun _ _ _ h => h) (Or.inl ⟨by rfl, ?_⟩) ?_ ?_
 rotate_left
 {
 intro w'
 go_simp
 with_reducible rfl
 }
 rotate_left
 · simp only [Act.put, zs, zz, zk, i64_w, i32_w]; rfl
 refine done_ (by kernel_rfl) ?_
 try go_wp2
 go_ret
 exact ⟨by first | rfl | (simp [errW_none, errW_some] <;> rfl) | (simp [*, errW_none, errW_some] <;> rfl), by repeat (first | (with_reducible first | exact HB.out | apply below_alloc | apply pw_below_drewN | apply below_drew1 | refine below_set ?_ GE157.out | refine below_set ?_ GE168.out) | exact HB.out)⟩
 }
 {
 replace c15 := Bool.eq_false_iff.mpr c15
 subst c15
 have H1 : (some false) = some r := by rw [if_neg (show ¬ (false = true) by decide)] at H; exact H
 clear H
 have H := H1
 clear H1
 exact absurd ((Option.some.inj H).trans HT.out) (by decide)
 }
 }
 · rw [if_neg c12] at H; have c12b0 : (t169.toList == t163.toList) = false := beq_eq_false_iff_ne.mpr c12; have c12b1 : (t169.toList != t163.toList) = true := bne_iff_ne.mpr c12; exact absurd ((Option.some.inj H).trans HT.out) (by decide)
 }
/-- THE ONE PURE STATEMENT of laws_FnExactRopeText: mine. -/
def laws_FnExactRopeText.Pure : Prop := ∀ (a0_0 : Int) (l0_1 : List Int) , ((Lit.int .i16 a0_0).wf = true) → (l0_1.length ≤ 9223372036854775807 ∧ ∀ x_ ∈ l0_1, ((Lit.int .i16 x_).wf = true)) → ∃ k, laws_FnExactRopeText.f k a0_0 l0_1  = some true

end Go.Proofs.YtgpilljegihblaaDoor.P
