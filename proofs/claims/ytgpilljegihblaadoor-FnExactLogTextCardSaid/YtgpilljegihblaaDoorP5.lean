-- Printed by wip/print (my turned copy of the kit's print) out of the translation; Lean checks it.
import Derived.Test.YtgpilljegihblaaDoorP0
import Derived.Test.YtgpilljegihblaaDoorP2
import Derived.Test.YtgpilljegihblaaDoorP3
import Derived.Test.YtgpilljegihblaaDoorP4
namespace Go.Proofs.YtgpilljegihblaaDoor.P
open Go.RowKit Go.Proofs.YtgpilljegihblaaDoorW.PrintWords Go.Proofs.YtgpilljegihblaaDoorW.PrintLast Go.Proofs.YtgpilljegihblaaDoorW.PrintMore
attribute [local go_sem] max2_int min2_int max_two min_two max_three min_three max_four min_four   -- for this text's walks alone
set_option linter.unusedVariables false
set_option linter.unusedSimpArgs false

/-! ### laws_FnExactLogText: function 4 -/
def laws_FnExactLogText.f (k : Nat) (a0_0 : Int) (l0_1 : List Int) (l0_2 : List Int)  : Option (Bool) := (laws_szLog.f a0_0 l0_1 l0_2 1048576).bind fun t270 => (if t270 < 0 then (some true) else ((laws_toLog.f k a0_0 l0_1 l0_2).bind fun bt271 => ((spec_LogText.f k bt271.1 bt271.2.1 bt271.2.2).bind fun t278 => ((laws_toLog.f k a0_0 l0_1 l0_2).bind fun bt279 => ((impl_LogText.f k bt279.1 bt279.2.1 bt279.2.2).bind fun t287 => (if t287.toList = t278.toList then ((laws_toLog.f k a0_0 l0_1 l0_2).bind fun bt288 => ((laws_eqLog.f k bt279.1 bt279.2.1 bt279.2.2 bt288.1 bt288.2.1 bt288.2.2).bind fun t295 => (if t295 = true then (some true) else (some false)))) else (some false)))))))
theorem laws_FnExactLogText.mono : ∀ a0 a1 a2 k, LeO (laws_FnExactLogText.f k a0 a1 a2) (laws_FnExactLogText.f (k + 1) a0 a1 a2) := by
  intro a0 a1 a2 k
  unfold laws_FnExactLogText.f
  repeat' first
      | (with_reducible exact impl_LogText.mono _ _ _ _)
      | (with_reducible exact laws_eqLog.mono _ _ _ _ _ _ _)
      | (with_reducible exact laws_toLog.mono _ _ _ _)
      | (with_reducible exact spec_LogText.mono _ _ _ _)
      | (with_reducible exact LeO.refl _)
      | (with_reducible exact LeO.none _)
      | (with_reducible refine LeO.ite ?_ ?_)
      | (with_reducible refine LeO.bind ?_ (fun _ => ?_))
      | exact impl_LogText.mono _ _ _ _
      | exact laws_eqLog.mono _ _ _ _ _ _ _
      | exact laws_toLog.mono _ _ _ _
      | exact spec_LogText.mono _ _ _ _
      | exact LeO.none _
      | refine LeO.ite ?_ ?_
      | refine LeO.bind ?_ (fun _ => ?_)
set_option maxHeartbeats 8000000 in
set_option maxRecDepth 100000 in
theorem laws_FnExactLogText.calls (k : Nat) (a0_0 : Int) (A0_1 : Option Addr) (c0_1 : Nat) (l0_1 : List Int) (A0_2 : Option Addr) (c0_2 : Nat) (l0_2 : List Int)  (r : Bool) (w : World) (hr0_1 : Kd.C (Kd.int .u16) w A0_1 l0_1.length l0_1) (hc0_1 : l0_1.length ≤ c0_1) (hr0_2 : Kd.C (Kd.int .i16) w A0_2 l0_2.length l0_2) (hc0_2 : l0_2.length ≤ c0_2) (hgt : Go.Proofs.YtgpilljegihblaaDoor.H.Tab10 w) (hT : r = true) (h : laws_FnExactLogText.f k a0_0 l0_1 l0_2 = some r) :
    Calls Tryd.prog 4 #[.agg #[.int .i64 a0_0, .slice A0_1 l0_1.length c0_1, .slice A0_2 l0_2.length c0_2]] w fun e w' => e = .returned (.bool r) ∧ Below w.heap.size w w' := by
 have hu34 := Tryd.underlying34
 have hu39 := Tryd.underlying39
 have HR0_1 := ak hr0_1
 have HC0_1 := ak hc0_1
 clear hr0_1 hc0_1
 have HR0_2 := ak hr0_2
 have HC0_2 := ak hc0_2
 clear hr0_2 hc0_2
 have HT := ak hT
 clear hT
 have HGT := ak hgt
 clear hgt
 have HB := ak (Below.refl w.heap.size w)
 have H : ((laws_szLog.f a0_0 l0_1 l0_2 1048576).bind fun t270 => (if t270 < 0 then (some true) else ((laws_toLog.f k a0_0 l0_1 l0_2).bind fun bt271 => ((spec_LogText.f k bt271.1 bt271.2.1 bt271.2.2).bind fun t278 => ((laws_toLog.f k a0_0 l0_1 l0_2).bind fun bt279 => ((impl_LogText.f k bt279.1 bt279.2.1 bt279.2.2).bind fun t287 => (if t287.toList = t278.toList then ((laws_toLog.f k a0_0 l0_1 l0_2).bind fun bt288 => ((laws_eqLog.f k bt279.1 bt279.2.1 bt279.2.2 bt288.1 bt288.2.1 bt288.2.2).bind fun t295 => (if t295 = true then (some true) else (some false)))) else (some false)))))))) = some r := h
 clear h
 replace H := Option.bind_eq_some_iff.mp H
 obtain ⟨t270, A30, H⟩ := H
 replace H : (if t270 < 0 then (some true) else ((laws_toLog.f k a0_0 l0_1 l0_2).bind fun bt271 => ((spec_LogText.f k bt271.1 bt271.2.1 bt271.2.2).bind fun t278 => ((laws_toLog.f k a0_0 l0_1 l0_2).bind fun bt279 => ((impl_LogText.f k bt279.1 bt279.2.1 bt279.2.2).bind fun t287 => (if t287.toList = t278.toList then ((laws_toLog.f k a0_0 l0_1 l0_2).bind fun bt288 => ((laws_eqLog.f k bt279.1 bt279.2.1 bt279.2.2 bt288.1 bt288.2.1 bt288.2.2).bind fun t295 => (if t295 = true then (some true) else (some false)))) else (some false))))))) = some r := H
 have A3 := ak A30
 clear A30
 by_cases c4 : t270 < 0
 {
 rw [if_pos c4] at H
 have c4b0 : decide (t270 < 0) = true := decide_eq_true c4
 clear c4
 obtain rfl := Option.some.inj H
 go_enter Tryd.func4, Tryd.ntmps4
 go_wp2_with (first | ((with_reducible refine gate_dst (N := 1) rfl ?_); refine box_event ?hg (N := 1) ?hd (cs := #[.int .i64 a0_0, .slice A0_1 l0_1.length c0_1, .slice A0_2 l0_2.length c0_2]) (t := 34) ?hr ?_; (case hd => rfl); (case hg => rfl); (case hr => first | (go_simp; done) | (go_simp; rfl)); intro gb269 hg w5 hbox hb; have n0_ := ak (below_step (zB HB.out) hb); have n1_ := ak (hbox); have n2_ := ak ((by rw [hg]; exact (below_size (zB HB.out)) : w.heap.size ≤ gb269)); have n3_ := ak ((by rw [hg]; exact (below_size (zB HB.out)) : w.heap.size ≤ gb269)); clear HB; have HB := n0_; have BK269 := n1_; have GW269 := n2_; have GE269 := n3_; clear n0_ n1_ n2_ n3_; clear hb hbox hg; have hcz6_0 : w5.cell? ⟨gb269, 0, none⟩ = some (.int .i64 a0_0) := (blk_cell BK269.out 0).trans rfl; have hcz6_1 : w5.cell? ⟨gb269, 1, none⟩ = some (.slice A0_1 l0_1.length c0_1) := (blk_cell BK269.out 1).trans rfl; have hcz6_2 : w5.cell? ⟨gb269, 2, none⟩ = some (.slice A0_2 l0_2.length c0_2) := (blk_cell BK269.out 2).trans rfl; have hfz6_0 := blk_frozen BK269.out 0; have hfz6_1 := blk_frozen BK269.out 1; have hfz6_2 := blk_frozen BK269.out 2) | ((with_reducible refine gate_callee (f := 10) rfl ?_); refine goesL_ (some 9) rfl rfl Tryd.func10 (by kernel_rfl) rfl #[.agg #[.int .i64 a0_0, .slice A0_1 l0_1.length c0_1, .slice A0_2 l0_2.length c0_2], .int .i64 1048576] rfl (by (try simp only [List.map_toArray, List.map_cons, List.map_nil]); first | done | rfl | (simp only [List.length_drop, List.length_take]; rfl)) ?_; (with_reducible refine (laws_szLog.calls a0_0 _ _ l0_1 _ _ l0_2 1048576 t270 _ ?side1 ?side2 ?side3 ?side4 A3.out).mono ?_); (case side1 => repeat (first | exact (Kd.C_below HR0_1.out HB.out) | (with_reducible refine Kd.C_alloc ?_ _) | (with_reducible refine Kd.C_drewN ?_ _) | (with_reducible refine Kd.C_drew ?_))); (case side2 => exact HC0_1.out); (case side3 => repeat (first | exact (Kd.C_below HR0_2.out HB.out) | (with_reducible refine Kd.C_alloc ?_ _) | (with_reducible refine Kd.C_drewN ?_ _) | (with_reducible refine Kd.C_drew ?_))); (case side4 => exact HC0_2.out); rintro e w7 ⟨rfl, hb⟩; refine ⟨_, rfl, ?_⟩; have n0_ := ak (blk_below (g := gb269) (o := .cells #[.int .i64 a0_0, .slice A0_1 l0_1.length c0_1, .slice A0_2 l0_2.length c0_2] 34 (0, 0)) (zK BK269.out) hb); have n1_ := ak (below_step (zBG HB.out GE269.out) hb); clear BK269 HB; have BK269 := n0_; have HB := n1_; clear n0_ n1_; (try clear hb); (try clear hb2); (try clear hk); (try clear hi)))
 go_ret
 exact ⟨by first | rfl | (simp [errW_none, errW_some] <;> rfl) | (simp [*, errW_none, errW_some] <;> rfl), by repeat (first | (with_reducible first | exact HB.out | apply below_alloc | apply pw_below_drewN | apply below_drew1 | refine below_set ?_ GE269.out) | exact HB.out)⟩
 }
 {
 rw [if_neg c4] at H
 have c4b0 : decide (t270 < 0) = false := decide_eq_false c4
 clear c4
 replace H := Option.bind_eq_some_iff.mp H
 obtain ⟨⟨t271, t272, t275⟩, A80, H⟩ := H
 replace H : ((spec_LogText.f k t271 t272 t275).bind fun t278 => ((laws_toLog.f k a0_0 l0_1 l0_2).bind fun bt279 => ((impl_LogText.f k bt279.1 bt279.2.1 bt279.2.2).bind fun t287 => (if t287.toList = t278.toList then ((laws_toLog.f k a0_0 l0_1 l0_2).bind fun bt288 => ((laws_eqLog.f k bt279.1 bt279.2.1 bt279.2.2 bt288.1 bt288.2.1 bt288.2.2).bind fun t295 => (if t295 = true then (some true) else (some false)))) else (some false))))) = some r := H
 have A8 := ak A80
 clear A80
 replace H := Option.bind_eq_some_iff.mp H
 obtain ⟨t278, A90, H⟩ := H
 replace H : ((laws_toLog.f k a0_0 l0_1 l0_2).bind fun bt279 => ((impl_LogText.f k bt279.1 bt279.2.1 bt279.2.2).bind fun t287 => (if t287.toList = t278.toList then ((laws_toLog.f k a0_0 l0_1 l0_2).bind fun bt288 => ((laws_eqLog.f k bt279.1 bt279.2.1 bt279.2.2 bt288.1 bt288.2.1 bt288.2.2).bind fun t295 => (if t295 = true then (some true) else (some false)))) else (some false)))) = some r := H
 have A9 := ak A90
 clear A90
 replace H := Option.bind_eq_some_iff.mp H
 obtain ⟨⟨t279, t280, t283⟩, A100, H⟩ := H
 replace H : ((impl_LogText.f k t279 t280 t283).bind fun t287 => (if t287.toList = t278.toList then ((laws_toLog.f k a0_0 l0_1 l0_2).bind fun bt288 => ((laws_eqLog.f k t279 t280 t283 bt288.1 bt288.2.1 bt288.2.2).bind fun t295 => (if t295 = true then (some true) else (some false)))) else (some false))) = some r := H
 have A10 := ak A100
 clear A100
 replace H := Option.bind_eq_some_iff.mp H
 obtain ⟨t287, A110, H⟩ := H
 replace H : (if t287.toList = t278.toList then ((laws_toLog.f k a0_0 l0_1 l0_2).bind fun bt288 => ((laws_eqLog.f k t279 t280 t283 bt288.1 bt288.2.1 bt288.2.2).bind fun t295 => (if t295 = true then (some true) else (some false)))) else (some false)) = some r := H
 have A11 := ak A110
 clear A110
 by_cases c12 : t287.toList = t278.toList
 {
 rw [if_pos c12] at H
 have c12b0 : (t287.toList == t278.toList) = true := beq_iff_eq.mpr c12
 have c12b1 : (t287.toList != t278.toList) = false := bne_eq_false_iff_eq.mpr c12
 clear c12
 replace H := Option.bind_eq_some_iff.mp H
 obtain ⟨⟨t288, t289, t292⟩, A130, H⟩ := H
 replace H : ((laws_eqLog.f k t279 t280 t283 t288 t289 t292).bind fun t295 => (if t295 = true then (some true) else (some false))) = some r := H
 have A13 := ak A130
 clear A130
 replace H := Option.bind_eq_some_iff.mp H
 obtain ⟨t295, A140, H⟩ := H
 replace H : (if t295 = true then (some true) else (some false)) = some r := H
 have A14 := ak A140
 clear A140
 by_cases c15 : t295 = true
 {
 subst c15
 have H1 : (some true) = some r := by rw [if_pos rfl] at H; exact H
 clear H
 have H := H1
 clear H1
 obtain rfl := Option.some.inj H
 go_enter Tryd.func4, Tryd.ntmps4
 try go_wp2_with (first | ((with_reducible refine gate_dst (N := 1) rfl ?_); refine box_event ?hg (N := 1) ?hd (cs := #[.int .i64 a0_0, .slice A0_1 l0_1.length c0_1, .slice A0_2 l0_2.length c0_2]) (t := 34) ?hr ?_; (case hd => rfl); (case hg => rfl); (case hr => first | (go_simp; done) | (go_simp; rfl)); intro gb269 hg w16 hbox hb; have n0_ := ak (below_step (zB HB.out) hb); have n1_ := ak (hbox); have n2_ := ak ((by rw [hg]; exact (below_size (zB HB.out)) : w.heap.size ≤ gb269)); have n3_ := ak ((by rw [hg]; exact (below_size (zB HB.out)) : w.heap.size ≤ gb269)); clear HB; have HB := n0_; have BK269 := n1_; have GW269 := n2_; have GE269 := n3_; clear n0_ n1_ n2_ n3_; clear hb hbox hg; have hcz17_0 : w16.cell? ⟨gb269, 0, none⟩ = some (.int .i64 a0_0) := (blk_cell BK269.out 0).trans rfl; have hcz17_1 : w16.cell? ⟨gb269, 1, none⟩ = some (.slice A0_1 l0_1.length c0_1) := (blk_cell BK269.out 1).trans rfl; have hcz17_2 : w16.cell? ⟨gb269, 2, none⟩ = some (.slice A0_2 l0_2.length c0_2) := (blk_cell BK269.out 2).trans rfl; have hfz17_0 := blk_frozen BK269.out 0; have hfz17_1 := blk_frozen BK269.out 1; have hfz17_2 := blk_frozen BK269.out 2) | ((with_reducible refine gate_callee (f := 10) rfl ?_); refine goesL_ (some 9) rfl rfl Tryd.func10 (by kernel_rfl) rfl #[.agg #[.int .i64 a0_0, .slice A0_1 l0_1.length c0_1, .slice A0_2 l0_2.length c0_2], .int .i64 1048576] rfl (by (try simp only [List.map_toArray, List.map_cons, List.map_nil]); first | done | rfl | (simp only [List.length_drop, List.length_take]; rfl)) ?_; (with_reducible refine (laws_szLog.calls a0_0 _ _ l0_1 _ _ l0_2 1048576 t270 _ ?side1 ?side2 ?side3 ?side4 A3.out).mono ?_); (case side1 => repeat (first | exact (Kd.C_below HR0_1.out HB.out) | (with_reducible refine Kd.C_alloc ?_ _) | (with_reducible refine Kd.C_drewN ?_ _) | (with_reducible refine Kd.C_drew ?_))); (case side2 => exact HC0_1.out); (case side3 => repeat (first | exact (Kd.C_below HR0_2.out HB.out) | (with_reducible refine Kd.C_alloc ?_ _) | (with_reducible refine Kd.C_drewN ?_ _) | (with_reducible refine Kd.C_drew ?_))); (case side4 => exact HC0_2.out); rintro e w18 ⟨rfl, hb⟩; refine ⟨_, rfl, ?_⟩; have n0_ := ak (blk_below (g := gb269) (o := .cells #[.int .i64 a0_0, .slice A0_1 l0_1.length c0_1, .slice A0_2 l0_2.length c0_2] 34 (0, 0)) (zK BK269.out) hb); have n1_ := ak (below_step (zBG HB.out GE269.out) hb); clear BK269 HB; have BK269 := n0_; have HB := n1_; clear n0_ n1_; (try clear hb); (try clear hb2); (try clear hk); (try clear hi); have hcz19_0 : w18.cell? ⟨gb269, 0, none⟩ = some (.int .i64 a0_0) := (blk_cell BK269.out 0).trans rfl; have hcz19_1 : w18.cell? ⟨gb269, 1, none⟩ = some (.slice A0_1 l0_1.length c0_1) := (blk_cell BK269.out 1).trans rfl; have hcz19_2 : w18.cell? ⟨gb269, 2, none⟩ = some (.slice A0_2 l0_2.length c0_2) := (blk_cell BK269.out 2).trans rfl; have hfz19_0 := blk_frozen BK269.out 0; have hfz19_1 := blk_frozen BK269.out 1; have hfz19_2 := blk_frozen BK269.out 2) | ((with_reducible refine gate_callee (f := 12) rfl ?_); refine goesL_ (some 13) rfl rfl Tryd.func12 (by kernel_rfl) rfl #[.agg #[.int .i64 a0_0, .slice A0_1 l0_1.length c0_1, .slice A0_2 l0_2.length c0_2]] rfl (by (try simp only [List.map_toArray, List.map_cons, List.map_nil]); first | done | rfl | (simp only [List.length_drop, List.length_take]; rfl)) ?_; (with_reducible refine (laws_toLog.calls k a0_0 _ _ l0_1 _ _ l0_2 t271 t272 t275 _ ?side1 ?side2 ?side3 ?side4 A8.out).mono ?_); (case side1 => repeat (first | exact (Kd.C_below HR0_1.out HB.out) | (with_reducible refine Kd.C_alloc ?_ _) | (with_reducible refine Kd.C_drewN ?_ _) | (with_reducible refine Kd.C_drew ?_))); (case side2 => exact HC0_1.out); (case side3 => repeat (first | exact (Kd.C_below HR0_2.out HB.out) | (with_reducible refine Kd.C_alloc ?_ _) | (with_reducible refine Kd.C_drewN ?_ _) | (with_reducible refine Kd.C_drew ?_))); (case side4 => exact HC0_2.out); rintro e w20 ⟨v273, v276, rfl, ho0, ho1, hb⟩; refine ⟨_, rfl, ?_⟩; have n0_ := ak (Kd.R_lower ho0 (below_size (zBG HB.out GE269.out))); have n1_ := ak (Kd.R_lower ho1 (below_size (zBG HB.out GE269.out))); have n2_ := ak (blk_below (g := gb269) (o := .cells #[.int .i64 a0_0, .slice A0_1 l0_1.length c0_1, .slice A0_2 l0_2.length c0_2] 34 (0, 0)) (zK BK269.out) hb); have n3_ := ak (below_step (zBG HB.out GE269.out) hb); clear BK269 HB; have HO274 := n0_; have HO277 := n1_; have BK269 := n2_; have HB := n3_; clear n0_ n1_ n2_ n3_; (try clear hb); (try clear hb2); (try clear hk); (try clear hi); (try clear ho0); (try clear ho1); obtain ⟨Ao21, co21, eo21⟩ := Kd.R_slice HO274.out; subst eo21; obtain ⟨Ao22, co22, eo22⟩ := Kd.R_slice HO277.out; subst eo22) | ((with_reducible refine gate_callee (f := 11) rfl ?_); refine goesL_ (some 14) rfl rfl Tryd.func11 (by kernel_rfl) rfl #[.agg #[.int .i64 t271, .slice Ao21 t272.length co21, .slice Ao22 t275.length co22]] rfl (by (try simp only [List.map_toArray, List.map_cons, List.map_nil]); first | done | rfl | (simp only [List.length_drop, List.length_take]; rfl)) ?_; (with_reducible refine (spec_LogText.calls k t271 _ _ t272 _ _ t275 t278 _ ?side1 ?side2 ?side3 ?side4 A9.out).mono ?_); (case side1 => exact zC (Kd.R_reads' HO274.out).2.2); (case side2 => exact (Kd.R_reads' HO274.out).2.1); (case side3 => exact zC (Kd.R_reads' HO277.out).2.2); (case side4 => exact (Kd.R_reads' HO277.out).2.1); rintro e w23 ⟨rfl, hb⟩; refine ⟨_, rfl, ?_⟩; have n0_ := ak (Kd.R_below (zR HO274.out) hb); have n1_ := ak (Kd.R_below (zR HO277.out) hb); have n2_ := ak (blk_below (g := gb269) (o := .cells #[.int .i64 a0_0, .slice A0_1 l0_1.length c0_1, .slice A0_2 l0_2.length c0_2] 34 (0, 0)) (zK BK269.out) hb); have n3_ := ak (below_step (zBG HB.out GE269.out) hb); clear HO274 HO277 BK269 HB; have HO274 := n0_; have HO277 := n1_; have BK269 := n2_; have HB := n3_; clear n0_ n1_ n2_ n3_; (try clear hb); (try clear hb2); (try clear hk); (try clear hi); have hcz24_0 : w23.cell? ⟨gb269, 0, none⟩ = some (.int .i64 a0_0) := (blk_cell BK269.out 0).trans rfl; have hcz24_1 : w23.cell? ⟨gb269, 1, none⟩ = some (.slice A0_1 l0_1.length c0_1) := (blk_cell BK269.out 1).trans rfl; have hcz24_2 : w23.cell? ⟨gb269, 2, none⟩ = some (.slice A0_2 l0_2.length c0_2) := (blk_cell BK269.out 2).trans rfl; have hfz24_0 := blk_frozen BK269.out 0; have hfz24_1 := blk_frozen BK269.out 1; have hfz24_2 := blk_frozen BK269.out 2) | ((with_reducible refine gate_callee (f := 12) rfl ?_); refine goesL_ (some 16) rfl rfl Tryd.func12 (by kernel_rfl) rfl #[.agg #[.int .i64 a0_0, .slice A0_1 l0_1.length c0_1, .slice A0_2 l0_2.length c0_2]] rfl (by (try simp only [List.map_toArray, List.map_cons, List.map_nil]); first | done | rfl | (simp only [List.length_drop, List.length_take]; rfl)) ?_; (with_reducible refine (laws_toLog.calls k a0_0 _ _ l0_1 _ _ l0_2 t279 t280 t283 _ ?side1 ?side2 ?side3 ?side4 A10.out).mono ?_); (case side1 => repeat (first | exact (Kd.C_below HR0_1.out HB.out) | (with_reducible refine Kd.C_alloc ?_ _) | (with_reducible refine Kd.C_drewN ?_ _) | (with_reducible refine Kd.C_drew ?_))); (case side2 => exact HC0_1.out); (case side3 => repeat (first | exact (Kd.C_below HR0_2.out HB.out) | (with_reducible refine Kd.C_alloc ?_ _) | (with_reducible refine Kd.C_drewN ?_ _) | (with_reducible refine Kd.C_drew ?_))); (case side4 => exact HC0_2.out); rintro e w25 ⟨v281, v284, rfl, ho0, ho1, hb⟩; refine ⟨_, rfl, ?_⟩; have n0_ := ak (Kd.R_elder' (zR HO274.out) (Kd.R_base ho0) hb); have n1_ := ak (Kd.R_elder' (zR HO277.out) (Kd.R_base ho1) hb); have n2_ := ak (Kd.R_lower (Kd.R_new' ho0 (Kd.R_lt (zR HO274.out))) (below_size (zBG HB.out GE269.out))); have n3_ := ak (Kd.R_lower (Kd.R_new' ho1 (Kd.R_lt (zR HO277.out))) (below_size (zBG HB.out GE269.out))); have n4_ := ak (blk_below (g := gb269) (o := .cells #[.int .i64 a0_0, .slice A0_1 l0_1.length c0_1, .slice A0_2 l0_2.length c0_2] 34 (0, 0)) (zK BK269.out) hb); have n5_ := ak (below_step (zBG HB.out GE269.out) hb); clear HO274 HO277 BK269 HB; have HO274 := n0_; have HO277 := n1_; have HO282 := n2_; have HO285 := n3_; have BK269 := n4_; have HB := n5_; clear n0_ n1_ n2_ n3_ n4_ n5_; (try clear hb); (try clear hb2); (try clear hk); (try clear hi); (try clear ho0); (try clear ho1)) | ((with_reducible refine gate_dst (N := 5) rfl ?_); refine box_event ?hg (N := 5) ?hd (cs := #[.int .i64 0, .slice none 0 0, .slice none 0 0]) (t := 39) ?hr ?_; (case hd => rfl); (case hg => rfl); (case hr => first | (go_simp; done) | (go_simp; rfl)); intro gb286 hg w26 hbox hb; have n0_ := ak (Kd.R_below (zR HO274.out) hb); have n1_ := ak (Kd.R_below (zR HO277.out) hb); have n2_ := ak (Kd.R_below (zR HO282.out) hb); have n3_ := ak (Kd.R_below (zR HO285.out) hb); have n4_ := ak (blk_below (g := gb269) (o := .cells #[.int .i64 a0_0, .slice A0_1 l0_1.length c0_1, .slice A0_2 l0_2.length c0_2] 34 (0, 0)) (zK BK269.out) hb); have n5_ := ak (below_step (zBG HB.out GE269.out) hb); have n6_ := ak (hbox); have n7_ := ak ((by rw [hg]; exact (below_size (zBG HB.out GE269.out)) : w.heap.size ≤ gb286)); have n8_ := ak ((by rw [hg]; exact (below_size (zBG HB.out GE269.out)) : w.heap.size ≤ gb286)); have n9_ := ak ((by rw [hg]; exact Nat.ne_of_lt (blk_lt (g := gb269) (o := .cells #[.int .i64 a0_0, .slice A0_1 l0_1.length c0_1, .slice A0_2 l0_2.length c0_2] 34 (0, 0)) (zK BK269.out)) : gb269 ≠ gb286)); have n10_ := ak ((by rw [hg]; exact Nat.ne_of_gt (blk_lt (g := gb269) (o := .cells #[.int .i64 a0_0, .slice A0_1 l0_1.length c0_1, .slice A0_2 l0_2.length c0_2] 34 (0, 0)) (zK BK269.out)) : gb286 ≠ gb269)); clear HO274 HO277 HO282 HO285 BK269 HB; have HO274 := n0_; have HO277 := n1_; have HO282 := n2_; have HO285 := n3_; have BK269 := n4_; have HB := n5_; have BK286 := n6_; have GW286 := n7_; have GE286 := n8_; have NB269_286 := n9_; have NB286_269 := n10_; clear n0_ n1_ n2_ n3_ n4_ n5_ n6_ n7_ n8_ n9_ n10_; clear hb hbox hg; have hnb27 := NB286_269.out; have hnc27 := NB269_286.out; have hcz28_0 : w26.cell? ⟨gb286, 0, none⟩ = some (.int .i64 0) := (blk_cell BK286.out 0).trans rfl; have hcz28_1 : w26.cell? ⟨gb286, 1, none⟩ = some (.slice none 0 0) := (blk_cell BK286.out 1).trans rfl; have hcz28_2 : w26.cell? ⟨gb286, 2, none⟩ = some (.slice none 0 0) := (blk_cell BK286.out 2).trans rfl; have hfz28_0 := blk_frozen BK286.out 0; have hfz28_1 := blk_frozen BK286.out 1; have hfz28_2 := blk_frozen BK286.out 2; obtain ⟨Ao29, co29, eo29⟩ := Kd.R_slice HO282.out; subst eo29; obtain ⟨Ao30, co30, eo30⟩ := Kd.R_slice HO285.out; subst eo30) | ((with_reducible refine gate_callee (f := 13) rfl ?_); refine goesL_ (some 18) rfl rfl Tryd.func13 (by kernel_rfl) rfl #[.agg #[.int .i64 t279, .slice Ao29 t280.length co29, .slice Ao30 t283.length co30]] rfl (by (try simp only [List.map_toArray, List.map_cons, List.map_nil]); first | done | rfl | (simp only [List.length_drop, List.length_take]; rfl)) ?_; (with_reducible refine (impl_LogText.calls k t279 _ _ t280 _ _ t283  t287 _ ?side1 ?side2 ?side3 ?side4 ?side5 A11.out).mono ?_); (case side1 => refine (Kd.R_reads' (e := 60) (base := w.heap.size) (ok := fun k_ => (True ∧ some k_ ≠ (.slice Ao21 t272.length co21 : Value).ownBlock)) (n := t280.length) (c := co29) ?_).2.2; exact (by (with_reducible repeat (first | apply Kd.R_alloc | apply Kd.R_drewN | apply Kd.R_drew)); exact (Kd.R_mono (Kd.R_far (p := ⟨gb286, 2, none⟩) (Kd.R_far (p := ⟨gb286, 1, none⟩) (Kd.R_far (p := ⟨gb286, 0, none⟩) (Kd.R_types HO282.out BK286.out (by decide)) (fun _ hk => hk.2) (.int .i64 t279)) (fun _ hk => hk.2) (.slice Ao29 t280.length co29)) (fun _ hk => hk.2) (.slice Ao30 t283.length co30)) (fun _ h_ => h_.1)))); (case side2 => exact (Kd.R_reads' HO282.out).2.1); (case side3 => refine (Kd.R_reads' (e := 22) (base := w.heap.size) (ok := fun k_ => (True ∧ some k_ ≠ (.slice Ao22 t275.length co22 : Value).ownBlock)) (n := t283.length) (c := co30) ?_).2.2; exact (by (with_reducible repeat (first | apply Kd.R_alloc | apply Kd.R_drewN | apply Kd.R_drew)); exact (Kd.R_mono (Kd.R_far (p := ⟨gb286, 2, none⟩) (Kd.R_far (p := ⟨gb286, 1, none⟩) (Kd.R_far (p := ⟨gb286, 0, none⟩) (Kd.R_types HO285.out BK286.out (by decide)) (fun _ hk => hk.2) (.int .i64 t279)) (fun _ hk => hk.2) (.slice Ao29 t280.length co29)) (fun _ hk => hk.2) (.slice Ao30 t283.length co30)) (fun _ h_ => h_.1)))); (case side4 => exact (Kd.R_reads' HO285.out).2.1); (case side5 => exact Go.Proofs.YtgpilljegihblaaDoor.H.tab10_below HGT.out (by repeat (first | (with_reducible first | exact HB.out | apply below_alloc | apply pw_below_drewN | apply below_drew1 | refine below_set ?_ GE269.out | refine below_set ?_ GE286.out) | exact HB.out))); rintro e w31 ⟨rfl, hb⟩; refine ⟨_, rfl, ?_⟩; have n0_ := ak (Kd.R_below (by (with_reducible repeat (first | apply Kd.R_alloc | apply Kd.R_drewN | apply Kd.R_drew)); exact (Kd.R_mono (Kd.R_far (p := ⟨gb286, 2, none⟩) (Kd.R_far (p := ⟨gb286, 1, none⟩) (Kd.R_far (p := ⟨gb286, 0, none⟩) (Kd.R_types HO274.out BK286.out (by decide)) (fun _ hk => hk.2) (.int .i64 t279)) (fun _ hk => hk.2) (.slice Ao29 t280.length co29)) (fun _ hk => hk.2) (.slice Ao30 t283.length co30)) (fun _ h_ => h_.1))) hb); have n1_ := ak (Kd.R_below (by (with_reducible repeat (first | apply Kd.R_alloc | apply Kd.R_drewN | apply Kd.R_drew)); exact (Kd.R_mono (Kd.R_far (p := ⟨gb286, 2, none⟩) (Kd.R_far (p := ⟨gb286, 1, none⟩) (Kd.R_far (p := ⟨gb286, 0, none⟩) (Kd.R_types HO277.out BK286.out (by decide)) (fun _ hk => hk.2) (.int .i64 t279)) (fun _ hk => hk.2) (.slice Ao29 t280.length co29)) (fun _ hk => hk.2) (.slice Ao30 t283.length co30)) (fun _ h_ => h_.1))) hb); have n2_ := ak (Kd.R_below (by (with_reducible repeat (first | apply Kd.R_alloc | apply Kd.R_drewN | apply Kd.R_drew)); exact (Kd.R_mono (Kd.R_far (p := ⟨gb286, 2, none⟩) (Kd.R_far (p := ⟨gb286, 1, none⟩) (Kd.R_far (p := ⟨gb286, 0, none⟩) (Kd.R_types HO282.out BK286.out (by decide)) (fun _ hk => hk.2) (.int .i64 t279)) (fun _ hk => hk.2) (.slice Ao29 t280.length co29)) (fun _ hk => hk.2) (.slice Ao30 t283.length co30)) (fun _ h_ => h_.1))) hb); have n3_ := ak (Kd.R_below (by (with_reducible repeat (first | apply Kd.R_alloc | apply Kd.R_drewN | apply Kd.R_drew)); exact (Kd.R_mono (Kd.R_far (p := ⟨gb286, 2, none⟩) (Kd.R_far (p := ⟨gb286, 1, none⟩) (Kd.R_far (p := ⟨gb286, 0, none⟩) (Kd.R_types HO285.out BK286.out (by decide)) (fun _ hk => hk.2) (.int .i64 t279)) (fun _ hk => hk.2) (.slice Ao29 t280.length co29)) (fun _ hk => hk.2) (.slice Ao30 t283.length co30)) (fun _ h_ => h_.1))) hb); have n4_ := ak (blk_below (g := gb269) (o := .cells #[.int .i64 a0_0, .slice A0_1 l0_1.length c0_1, .slice A0_2 l0_2.length c0_2] 34 (0, 0)) (by (with_reducible repeat (first | refine blk_drewN ?_ _ | refine blk_drew ?_ | refine blk_alloc ?_ _)); refine blk_far ?_ NB269_286.out _; (with_reducible repeat (first | refine blk_drewN ?_ _ | refine blk_drew ?_ | refine blk_alloc ?_ _)); refine blk_far ?_ NB269_286.out _; (with_reducible repeat (first | refine blk_drewN ?_ _ | refine blk_drew ?_ | refine blk_alloc ?_ _)); refine blk_far ?_ NB269_286.out _; (with_reducible repeat (first | refine blk_drewN ?_ _ | refine blk_drew ?_ | refine blk_alloc ?_ _)); exact BK269.out) hb); have n5_ := ak (blk_below (g := gb286) (o := .cells #[.int .i64 t279, .slice Ao29 t280.length co29, .slice Ao30 t283.length co30] 39 (0, 0)) (by (with_reducible repeat (first | refine blk_drewN ?_ _ | refine blk_drew ?_ | refine blk_alloc ?_ _)); refine blk_put (cs := #[.int .i64 t279, .slice Ao29 t280.length co29, .slice none 0 0]) ?_ 2 _ rfl; (with_reducible repeat (first | refine blk_drewN ?_ _ | refine blk_drew ?_ | refine blk_alloc ?_ _)); refine blk_put (cs := #[.int .i64 t279, .slice none 0 0, .slice none 0 0]) ?_ 1 _ rfl; (with_reducible repeat (first | refine blk_drewN ?_ _ | refine blk_drew ?_ | refine blk_alloc ?_ _)); refine blk_put (cs := #[.int .i64 0, .slice none 0 0, .slice none 0 0]) ?_ 0 _ rfl; (with_reducible repeat (first | refine blk_drewN ?_ _ | refine blk_drew ?_ | refine blk_alloc ?_ _)); exact BK286.out) hb); have n6_ := ak (below_step (by repeat (first | (with_reducible first | exact HB.out | apply below_alloc | apply pw_below_drewN | apply below_drew1 | refine below_set ?_ GE269.out | refine below_set ?_ GE286.out) | exact HB.out)) hb); clear HO274 HO277 HO282 HO285 BK269 BK286 HB; have HO274 := n0_; have HO277 := n1_; have HO282 := n2_; have HO285 := n3_; have BK269 := n4_; have BK286 := n5_; have HB := n6_; clear n0_ n1_ n2_ n3_ n4_ n5_ n6_; (try clear hb); (try clear hb2); (try clear hk); (try clear hi)))
 have n0_ := ak (Kd.R_drew HO274.out)
 have n1_ := ak (Kd.R_drew HO277.out)
 have n2_ := ak (Kd.R_drew HO282.out)
 have n3_ := ak (Kd.R_drew HO285.out)
 have n4_ := ak (blk_drew BK269.out)
 have n5_ := ak (blk_drew BK286.out)
 have n6_ := ak (below_drew1 HB.out)
 clear HO274 HO277 HO282 HO285 BK269 BK286 HB
 have HO274 := n0_
 have HO277 := n1_
 have HO282 := n2_
 have HO285 := n3_
 have BK269 := n4_
 have BK286 := n5_
 have HB := n6_
 clear n0_ n1_ n2_ n3_ n4_ n5_ n6_
 refine start_ (n := 5) (S := fun w' => w'.cell? ⟨gb286, 0, none⟩ = some (.int .i64 t279) ∧ w'.cell? ⟨gb286, 1, none⟩ = some (.slice Ao29 t280.length co29) ∧ w'.cell? ⟨gb286, 2, none⟩ = some (.slice Ao30 t283.length co30) ∧ w'.cell? ⟨gb269, 0, none⟩ = some (.int .i64 a0_0) ∧ w'.cell? ⟨gb269, 1, none⟩ = some (.slice A0_1 l0_1.length c0_1) ∧ w'.cell? ⟨gb269, 2, none⟩ = some (.slice A0_2 l0_2.length c0_2)) (ds := []) #[false, false, false, false, false] (by kernel_rfl) rfl rfl ⟨(blk_cell BK286.out 0).trans rfl, (blk_cell BK286.out 1).trans rfl, (blk_cell BK286.out 2).trans rfl, (blk_cell BK269.out 0).trans rfl, (blk_cell BK269.out 1).trans rfl, (blk_cell BK269.out 2).trans rfl⟩ (fun hHeld => ?_)
 generalize w31.drew = w32 at HO274 HO277 HO282 HO285 BK269 BK286 HB hHeld ⊢
 refine take_ (i := 0) (N := some 22) (v := ?_) (a' := ?_) #[true, false, false, false, false] rfl rfl (by kernel_rfl) (fun _ _ _ h => h) (Or.inl ⟨by rfl, ?_⟩) hHeld ?_ ?_
 rotate_left
 {
 rintro w' ⟨s0, s1, s2, s3, s4, s5⟩
 go_simp
 with_reducible rfl
 }
 rotate_left
 · simp only [Act.put, zs, zz, zk, i64_w, i32_w]; rfl
 refine take_ (i := 1) (N := some 23) (v := ?_) (a' := ?_) #[true, true, false, false, false] rfl rfl (by kernel_rfl) (fun _ _ _ h => h) (Or.inl ⟨by rfl, ?_⟩) hHeld ?_ ?_
 rotate_left
 {
 rintro w' ⟨s0, s1, s2, s3, s4, s5⟩
 go_simp
 with_reducible rfl
 }
 rotate_left
 · simp only [Act.put, zs, zz, zk, i64_w, i32_w]; rfl
 refine one_ (i := 2) (N := some 24) #[true, true, true, false, false] rfl rfl (by kernel_rfl) (by decide) (fun K hK => ?_)
 refine goes_ Tryd.func12 (by kernel_rfl) rfl #[.agg #[.int .i64 a0_0, .slice A0_1 l0_1.length c0_1, .slice A0_2 l0_2.length c0_2]] (by rfl) rfl rfl (by (try simp only [List.map_toArray, List.map_cons, List.map_nil]); first | done | rfl | (simp only [List.length_drop, List.length_take]; rfl)) ?_
 with_reducible refine (laws_toLog.calls k a0_0 _ _ l0_1 _ _ l0_2 t288 t289 t292 _ ?side1 ?side2 ?side3 ?side4 A13.out).mono ?_
 (case side1 => repeat (first | exact (Kd.C_below HR0_1.out HB.out) | (with_reducible refine Kd.C_alloc ?_ _) | (with_reducible refine Kd.C_drewN ?_ _) | (with_reducible refine Kd.C_drew ?_)))
 (case side2 => exact HC0_1.out)
 (case side3 => repeat (first | exact (Kd.C_below HR0_2.out HB.out) | (with_reducible refine Kd.C_alloc ?_ _) | (with_reducible refine Kd.C_drewN ?_ _) | (with_reducible refine Kd.C_drew ?_)))
 (case side4 => exact HC0_2.out)
 rintro e w33 ⟨v290, v293, rfl, ho0, ho1, hb⟩
 refine ⟨_, rfl, ?_⟩
 have n0_ := ak (Kd.R_elder' (zR HO274.out) (Kd.R_base ho0) hb)
 have n1_ := ak (Kd.R_elder' (zR HO277.out) (Kd.R_base ho1) hb)
 have n2_ := ak (Kd.R_elder' (zR HO282.out) (Kd.R_base ho0) hb)
 have n3_ := ak (Kd.R_elder' (zR HO285.out) (Kd.R_base ho1) hb)
 have n4_ := ak (Kd.R_lower (Kd.R_new' (Kd.R_new' ho0 (Kd.R_lt (zR HO274.out))) (Kd.R_lt (zR HO282.out))) (below_size (by repeat (first | (with_reducible first | exact HB.out | apply below_alloc | apply pw_below_drewN | apply below_drew1 | refine below_set ?_ GE269.out | refine below_set ?_ GE286.out) | exact HB.out))))
 have n5_ := ak (Kd.R_lower (Kd.R_new' (Kd.R_new' ho1 (Kd.R_lt (zR HO277.out))) (Kd.R_lt (zR HO285.out))) (below_size (by repeat (first | (with_reducible first | exact HB.out | apply below_alloc | apply pw_below_drewN | apply below_drew1 | refine below_set ?_ GE269.out | refine below_set ?_ GE286.out) | exact HB.out))))
 have n6_ := ak (blk_below (g := gb269) (o := .cells #[.int .i64 a0_0, .slice A0_1 l0_1.length c0_1, .slice A0_2 l0_2.length c0_2] 34 (0, 0)) (zK BK269.out) hb)
 have n7_ := ak (blk_below (g := gb286) (o := .cells #[.int .i64 t279, .slice Ao29 t280.length co29, .slice Ao30 t283.length co30] 39 (0, 0)) (zK BK286.out) hb)
 have n8_ := ak (below_step (by repeat (first | (with_reducible first | exact HB.out | apply below_alloc | apply pw_below_drewN | apply below_drew1 | refine below_set ?_ GE269.out | refine below_set ?_ GE286.out) | exact HB.out)) hb)
 clear HO274 HO277 HO282 HO285 BK269 BK286 HB
 have HO274 := n0_
 have HO277 := n1_
 have HO282 := n2_
 have HO285 := n3_
 have HO291 := n4_
 have HO294 := n5_
 have BK269 := n6_
 have BK286 := n7_
 have HB := n8_
 clear n0_ n1_ n2_ n3_ n4_ n5_ n6_ n7_ n8_
 (try clear hb)
 (try clear hb2)
 (try clear hk)
 (try clear hi)
 (try clear ho0)
 (try clear ho1)
 obtain ⟨Ao34, co34, eo34⟩ := Kd.R_slice HO291.out
 (first | subst eo34 | (injection eo34 with f1_ f2_ f3_; have f4_ := f1_.symm; have f5_ := f3_.symm; clear f1_ f2_ f3_; subst f4_; subst f5_))
 obtain ⟨Ao35, co35, eo35⟩ := Kd.R_slice HO294.out
 (first | subst eo35 | (injection eo35 with f1_ f2_ f3_; have f4_ := f1_.symm; have f5_ := f3_.symm; clear f1_ f2_ f3_; subst f4_; subst f5_))
 refine hK.out _ _ ⟨(blk_cell BK286.out 0).trans rfl, (blk_cell BK286.out 1).trans rfl, (blk_cell BK286.out 2).trans rfl, (blk_cell BK269.out 0).trans rfl, (blk_cell BK269.out 1).trans rfl, (blk_cell BK269.out 2).trans rfl⟩ (fun hHeld => ?_)
 clear hK K
 refine norm_ (a' := ?_) ?_ ?_
 rotate_left
 {
 show Act.put _ (some 24) _ = _
 simp only [Act.put, zs, zz, zk, i64_w, i32_w]
 rfl
 }
 refine one_ (i := 3) (N := some 25) #[true, true, true, true, false] rfl rfl (by kernel_rfl) (by decide) (fun K hK => ?_)
 refine goes_ Tryd.func14 (by kernel_rfl) rfl #[.agg #[.int .i64 t279, .slice Ao29 t280.length co29, .slice Ao30 t283.length co30], .agg #[.int .i64 t288, .slice Ao34 t289.length co34, .slice Ao35 t292.length co35]] (by rfl) rfl rfl (by (try simp only [List.map_toArray, List.map_cons, List.map_nil]); first | done | rfl | (simp only [List.length_drop, List.length_take]; rfl)) ?_
 with_reducible refine (laws_eqLog.calls k t279 _ _ t280 _ _ t283 t288 _ _ t289 _ _ t292 true _ ?side1 ?side2 ?side3 ?side4 ?side5 ?side6 ?side7 ?side8 A14.out).mono ?_
 (case side1 => exact zC (Kd.R_reads' HO282.out).2.2)
 (case side2 => exact (Kd.R_reads' HO282.out).2.1)
 (case side3 => exact zC (Kd.R_reads' HO285.out).2.2)
 (case side4 => exact (Kd.R_reads' HO285.out).2.1)
 (case side5 => exact zC (Kd.R_reads' HO291.out).2.2)
 (case side6 => exact (Kd.R_reads' HO291.out).2.1)
 (case side7 => exact zC (Kd.R_reads' HO294.out).2.2)
 (case side8 => exact (Kd.R_reads' HO294.out).2.1)
 rintro e w36 ⟨rfl, hb⟩
 refine ⟨_, rfl, ?_⟩
 have n0_ := ak (Kd.R_below (zR HO274.out) hb)
 have n1_ := ak (Kd.R_below (zR HO277.out) hb)
 have n2_ := ak (Kd.R_below (zR HO282.out) hb)
 have n3_ := ak (Kd.R_below (zR HO285.out) hb)
 have n4_ := ak (Kd.R_below (zR HO291.out) hb)
 have n5_ := ak (Kd.R_below (zR HO294.out) hb)
 have n6_ := ak (blk_below (g := gb269) (o := .cells #[.int .i64 a0_0, .slice A0_1 l0_1.length c0_1, .slice A0_2 l0_2.length c0_2] 34 (0, 0)) (zK BK269.out) hb)
 have n7_ := ak (blk_below (g := gb286) (o := .cells #[.int .i64 t279, .slice Ao29 t280.length co29, .slice Ao30 t283.length co30] 39 (0, 0)) (zK BK286.out) hb)
 have n8_ := ak (below_step (by repeat (first | (with_reducible first | exact HB.out | apply below_alloc | apply pw_below_drewN | apply below_drew1 | refine below_set ?_ GE269.out | refine below_set ?_ GE286.out) | exact HB.out)) hb)
 clear HO274 HO277 HO282 HO285 HO291 HO294 BK269 BK286 HB
 have HO274 := n0_
 have HO277 := n1_
 have HO282 := n2_
 have HO285 := n3_
 have HO291 := n4_
 have HO294 := n5_
 have BK269 := n6_
 have BK286 := n7_
 have HB := n8_
 clear n0_ n1_ n2_ n3_ n4_ n5_ n6_ n7_ n8_
 (try clear hb)
 (try clear hb2)
 (try clear hk)
 (try clear hi)
 refine hK.out _ _ ⟨(blk_cell BK286.out 0).trans rfl, (blk_cell BK286.out 1).trans rfl, (blk_cell BK286.out 2).trans rfl, (blk_cell BK269.out 0).trans rfl, (blk_cell BK269.out 1).trans rfl, (blk_cell BK269.out 2).trans rfl⟩ (fun hHeld => ?_)
 clear hK K
 refine norm_ (a' := ?_) ?_ ?_
 rotate_left
 {
 show Act.put _ (some 25) _ = _
 simp only [Act.put, zs, zz, zk, i64_w, i32_w]
 rfl
 }
 refine pure_ (i := 4) (N := some 26) (v := ?_) (a' := ?_) #[true, true, true, true, true] rfl rfl (by kernel_rfl) (fun _ _ _ h => h) (Or.inl ⟨by rfl, ?_⟩) ?_ ?_
 rotate_left
 {
 intro w'
 go_simp
 with_reducible rfl
 }
 rotate_left
 · simp only [Act.put, zs, zz, zk, i64_w, i32_w]; rfl
 refine done_ (by kernel_rfl) ?_
 try go_wp2
 go_ret
 exact ⟨by first | rfl | (simp [errW_none, errW_some] <;> rfl) | (simp [*, errW_none, errW_some] <;> rfl), by repeat (first | (with_reducible first | exact HB.out | apply below_alloc | apply pw_below_drewN | apply below_drew1 | refine below_set ?_ GE269.out | refine below_set ?_ GE286.out) | exact HB.out)⟩
 }
 {
 replace c15 := Bool.eq_false_iff.mpr c15
 subst c15
 have H1 : (some false) = some r := by rw [if_neg (show ¬ (false = true) by decide)] at H; exact H
 clear H
 have H := H1
 clear H1
 exact absurd ((Option.some.inj H).trans HT.out) (by decide)
 }
 }
 · rw [if_neg c12] at H; have c12b0 : (t287.toList == t278.toList) = false := beq_eq_false_iff_ne.mpr c12; have c12b1 : (t287.toList != t278.toList) = true := bne_iff_ne.mpr c12; exact absurd ((Option.some.inj H).trans HT.out) (by decide)
 }
/-- THE ONE PURE STATEMENT of laws_FnExactLogText: mine. -/
def laws_FnExactLogText.Pure : Prop := ∀ (a0_0 : Int) (l0_1 : List Int) (l0_2 : List Int) , ((Lit.int .i64 a0_0).wf = true) → (l0_1.length ≤ 9223372036854775807 ∧ ∀ x_ ∈ l0_1, ((Lit.int .u16 x_).wf = true)) → (l0_2.length ≤ 9223372036854775807 ∧ ∀ x_ ∈ l0_2, ((Lit.int .i16 x_).wf = true)) → ∃ k, laws_FnExactLogText.f k a0_0 l0_1 l0_2  = some true

end Go.Proofs.YtgpilljegihblaaDoor.P
