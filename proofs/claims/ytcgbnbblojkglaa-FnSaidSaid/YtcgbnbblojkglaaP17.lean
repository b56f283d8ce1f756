-- Printed by wip/print (my turned copy of the kit's print) out of the translation; Lean checks it.
import Derived.Test.YtcgbnbblojkglaaP0
import Derived.Test.YtcgbnbblojkglaaP3
import Derived.Test.YtcgbnbblojkglaaP4
import Derived.Test.YtcgbnbblojkglaaP6
import Derived.Test.YtcgbnbblojkglaaP9
import Derived.Test.YtcgbnbblojkglaaP10
import Derived.Test.YtcgbnbblojkglaaP11
import Derived.Test.YtcgbnbblojkglaaP12
import Derived.Test.YtcgbnbblojkglaaP13
import Derived.Test.YtcgbnbblojkglaaP14
import Derived.Test.YtcgbnbblojkglaaP15
import Derived.Test.YtcgbnbblojkglaaP16
namespace Go.Proofs.Ytcgbnbblojkglaa.P
open Go.RowKit Go.Proofs.YtcgbnbblojkglaaW.PrintWords Go.Proofs.YtcgbnbblojkglaaW.PrintLast Go.Proofs.YtcgbnbblojkglaaW.PrintMore
attribute [local go_sem] max2_int min2_int max_two min_two max_three min_three max_four min_four   -- for this text's walks alone
set_option linter.unusedVariables false
set_option linter.unusedSimpArgs false

set_option maxHeartbeats 8000000 in
set_option maxRecDepth 100000 in
theorem laws_FnSaid.calls (k : Nat) (A0 : Option Addr) (c0 : Nat) (l0 : List Int) (A1 : Option Addr) (c1 : Nat) (l1 : List Int) (r : Bool) (w : World) (hr0 : Kd.C (Kd.int .u8) w A0 l0.length l0) (hc0 : l0.length ≤ c0) (hr1 : Kd.C (Kd.int .u8) w A1 l1.length l1) (hc1 : l1.length ≤ c1) (hT : r = true) (h : laws_FnSaid.f k l0 l1 = some r) :
    Calls Try.prog 3 #[.slice A0 l0.length c0, .slice A1 l1.length c1] w fun e w' => e = .returned (.bool r) ∧ Below w.heap.size w w' := by
 have hu27 := Try.underlying27
 have hu40 := Try.underlying40
 have hu55 := Try.underlying55
 have HR0 := ak hr0
 have HC0 := ak hc0
 clear hr0 hc0
 have HR1 := ak hr1
 have HC1 := ak hc1
 clear hr1 hc1
 have HT := ak hT
 clear hT
 have HB := ak (Below.refl w.heap.size w)
 have H : ((laws_f6big.f l0).bind fun t378 => (if t378 = true then (laws_FnSaid.j0 k l0 l1 true) else ((laws_f6big.f l1).bind fun t379 => (laws_FnSaid.j0 k l0 l1 t379)))) = some r := h
 clear h
 have HC3 := ak H
 clear H
 go_enter Try.func3, Try.ntmps3
 go_upto_region 1 with (fail)
 refine wp_cutM 20657999024695268717247353376024094994637646342633788102645274852325180976134729557037162826241102651487225358189793902592 (fun (u : Nat → Value) wc => ∃ (kq : Nat) (x49_2 : Bool), u 49 = .bool x49_2 ∧ Aside0 (laws_FnSaid.j0 kq l0 l1 x49_2 = some r) ∧ Aside0 (kq ≤ k) ∧ Aside0 (Below w.heap.size w wc)) ?first ?rest
 case first => (
 intro J_ K_ hJ1_ hK_
 have H := HC3.out
 clear HC3
 replace H := Option.bind_eq_some_iff.mp H
 obtain ⟨t378, A40, H⟩ := H
 replace H : (if t378 = true then (laws_FnSaid.j0 k l0 l1 true) else ((laws_f6big.f l1).bind fun t379 => (laws_FnSaid.j0 k l0 l1 t379))) = some r := H
 have A4 := ak A40
 clear A40
 by_cases c5 : t378 = true
 {
 subst c5
 have H1 : (laws_FnSaid.j0 k l0 l1 true) = some r := by rw [if_pos rfl] at H; exact H
 clear H
 have H := H1
 clear H1
 (
 have H' := ak H
 clear H
 go_wp2_with (first | ((with_reducible refine gate_callee (f := 4) rfl ?_); refine goesL_ (some 45) rfl rfl Try.func4 (by kernel_rfl) rfl #[.slice A0 l0.length c0] rfl gl_ ?_; (with_reducible refine (laws_f6big.calls _ _ l0 true _ ?side1 ?side2 A4.out).mono ?_); (case side1 => repeat (first | exact (Kd.C_below HR0.out HB.out) | (with_reducible refine Kd.C_alloc ?_ _) | (with_reducible refine Kd.C_drewN ?_ _) | (with_reducible refine Kd.C_drew ?_))); (case side2 => exact HC0.out); rintro e w' ⟨rfl, ⟨nd, rfl⟩⟩; refine ⟨_, rfl, ?_⟩))
 refine meetM hJ1_ (by kernel_rfl) ?rel
 case rel => dsimp only [List.getD_cons_succ, List.getD_cons_zero]; exact ⟨_, (true), (by first | rfl | (simp; done) | (simp [*]; done)), H', ⟨by first | omega | exact Nat.le_refl _⟩, ⟨(zB HB.out)⟩⟩
 )
 }
 {
 replace c5 := Bool.eq_false_iff.mpr c5
 subst c5
 have H1 : ((laws_f6big.f l1).bind fun t379 => (laws_FnSaid.j0 k l0 l1 t379)) = some r := by rw [if_neg (show ¬ (false = true) by decide)] at H; exact H
 clear H
 have H := H1
 clear H1
 replace H := Option.bind_eq_some_iff.mp H
 obtain ⟨t379, A60, H⟩ := H
 replace H : (laws_FnSaid.j0 k l0 l1 t379) = some r := H
 have A6 := ak A60
 clear A60
 (
 have H' := ak H
 clear H
 go_wp2_with (first | ((with_reducible refine gate_callee (f := 4) rfl ?_); refine goesL_ (some 45) rfl rfl Try.func4 (by kernel_rfl) rfl #[.slice A0 l0.length c0] rfl gl_ ?_; (with_reducible refine (laws_f6big.calls _ _ l0 false _ ?side1 ?side2 A4.out).mono ?_); (case side1 => repeat (first | exact (Kd.C_below HR0.out HB.out) | (with_reducible refine Kd.C_alloc ?_ _) | (with_reducible refine Kd.C_drewN ?_ _) | (with_reducible refine Kd.C_drew ?_))); (case side2 => exact HC0.out); rintro e w' ⟨rfl, ⟨nd, rfl⟩⟩; refine ⟨_, rfl, ?_⟩) | (go_at_call 4; (with_reducible refine (laws_f6big.calls _ _ l1 t379 _ ?side1 ?side2 A6.out).mono ?_); (case side1 => repeat (first | exact (Kd.C_below HR1.out (zB HB.out)) | (with_reducible refine Kd.C_alloc ?_ _) | (with_reducible refine Kd.C_drewN ?_ _) | (with_reducible refine Kd.C_drew ?_))); (case side2 => exact HC1.out); rintro e w' ⟨rfl, ⟨nd, rfl⟩⟩))
 refine meetM hJ1_ (by kernel_rfl) ?rel
 case rel => dsimp only [List.getD_cons_succ, List.getD_cons_zero]; exact ⟨_, (t379), (by first | rfl | (simp; done) | (simp [*]; done)), H', ⟨by first | omega | exact Nat.le_refl _⟩, ⟨(zB HB.out)⟩⟩
 )
 }
 )
 case rest => (
 intro u1_ wc hcut
 dsimp only [frU, cond, Nat.reduceMod, Nat.reduceDiv, Nat.reduceAdd, Nat.reduceBEq, Nat.reduceEqDiff, beq_self_eq_true]
 clear HC3
 try clear c1
 obtain ⟨kq, x49_2, eu1_49, HA, HJ2, HB⟩ := hcut
 rw [eu1_49]
 clear eu1_49
 cases kq with
 | zero => exact absurd HA.out (by simp [laws_FnSaid.j0])
 | succ kj2 => (
 have H := HA.out
 clear HA
 simp only [laws_FnSaid.j0] at H
 by_cases c7 : x49_2 = true
 {
 subst c7
 have H1 : (some true) = some r := by rw [if_pos rfl] at H; exact H
 clear H
 have H := H1
 clear H1
 (
 obtain rfl := Option.some.inj H
 go_wp2
 go_ret
 exact ⟨by first | rfl | (simp [errW_none, errW_some] <;> rfl) | (simp [*, errW_none, errW_some] <;> rfl), zB HB.out⟩
 )
 }
 {
 replace c7 := Bool.eq_false_iff.mpr c7
 subst c7
 have H1 : ((spec_P6Rope.f kj2 l0).bind fun bt380 => ((spec_P6Holds.f kj2 l1 bt380.1 bt380.2).bind fun t385 => ((impl_CountAlong.f kj2 bt380.1 bt380.2 t385).bind fun bt388 => ((spec_CountAlong.f kj2 bt380.1 bt380.2 t385).bind fun bt392 => ((impl_CheckCount.f kj2 bt380.1 bt380.2 t385 bt392.1).bind fun bt396 => ((impl_FirstFault.f kj2 bt380.1 bt380.2 t385 bt392.1).bind fun bt398 => (if bt388.2 = bt392.2 then (if bt388.2 = 0 then ((spec_SameSaid.f kj2 bt388.1 bt392.1).bind fun t400 => (if t400 = true then (if (bt392.1.length : Int) = (t385.length : Int) then (if bt396.2 = 0 then (if bt396.1 = true then (laws_FnSaid.j1 kj2 l0 l1 t385 bt392.1 (bt398.2 != 6) bt380.1 bt380.2) else (laws_FnSaid.j1 kj2 l0 l1 t385 bt392.1 true bt380.1 bt380.2)) else (laws_FnSaid.j1 kj2 l0 l1 t385 bt392.1 true bt380.1 bt380.2)) else (laws_FnSaid.j1 kj2 l0 l1 t385 bt392.1 true bt380.1 bt380.2)) else (laws_FnSaid.j1 kj2 l0 l1 t385 bt392.1 true bt380.1 bt380.2))) else (laws_FnSaid.j1 kj2 l0 l1 t385 bt392.1 true bt380.1 bt380.2)) else (laws_FnSaid.j1 kj2 l0 l1 t385 bt392.1 true bt380.1 bt380.2)))))))) = some r := by rw [if_neg (show ¬ (false = true) by decide)] at H; exact H
 clear H
 have H := H1
 clear H1
 replace H := Option.bind_eq_some_iff.mp H
 obtain ⟨⟨t380, t381⟩, A80, H⟩ := H
 replace H : ((spec_P6Holds.f kj2 l1 t380 t381).bind fun t385 => ((impl_CountAlong.f kj2 t380 t381 t385).bind fun bt388 => ((spec_CountAlong.f kj2 t380 t381 t385).bind fun bt392 => ((impl_CheckCount.f kj2 t380 t381 t385 bt392.1).bind fun bt396 => ((impl_FirstFault.f kj2 t380 t381 t385 bt392.1).bind fun bt398 => (if bt388.2 = bt392.2 then (if bt388.2 = 0 then ((spec_SameSaid.f kj2 bt388.1 bt392.1).bind fun t400 => (if t400 = true then (if (bt392.1.length : Int) = (t385.length : Int) then (if bt396.2 = 0 then (if bt396.1 = true then (laws_FnSaid.j1 kj2 l0 l1 t385 bt392.1 (bt398.2 != 6) t380 t381) else (laws_FnSaid.j1 kj2 l0 l1 t385 bt392.1 true t380 t381)) else (laws_FnSaid.j1 kj2 l0 l1 t385 bt392.1 true t380 t381)) else (laws_FnSaid.j1 kj2 l0 l1 t385 bt392.1 true t380 t381)) else (laws_FnSaid.j1 kj2 l0 l1 t385 bt392.1 true t380 t381))) else (laws_FnSaid.j1 kj2 l0 l1 t385 bt392.1 true t380 t381)) else (laws_FnSaid.j1 kj2 l0 l1 t385 bt392.1 true t380 t381))))))) = some r := H
 have A8 := ak A80
 clear A80
 replace H := Option.bind_eq_some_iff.mp H
 obtain ⟨t385, A90, H⟩ := H
 replace H : ((impl_CountAlong.f kj2 t380 t381 t385).bind fun bt388 => ((spec_CountAlong.f kj2 t380 t381 t385).bind fun bt392 => ((impl_CheckCount.f kj2 t380 t381 t385 bt392.1).bind fun bt396 => ((impl_FirstFault.f kj2 t380 t381 t385 bt392.1).bind fun bt398 => (if bt388.2 = bt392.2 then (if bt388.2 = 0 then ((spec_SameSaid.f kj2 bt388.1 bt392.1).bind fun t400 => (if t400 = true then (if (bt392.1.length : Int) = (t385.length : Int) then (if bt396.2 = 0 then (if bt396.1 = true then (laws_FnSaid.j1 kj2 l0 l1 t385 bt392.1 (bt398.2 != 6) t380 t381) else (laws_FnSaid.j1 kj2 l0 l1 t385 bt392.1 true t380 t381)) else (laws_FnSaid.j1 kj2 l0 l1 t385 bt392.1 true t380 t381)) else (laws_FnSaid.j1 kj2 l0 l1 t385 bt392.1 true t380 t381)) else (laws_FnSaid.j1 kj2 l0 l1 t385 bt392.1 true t380 t381))) else (laws_FnSaid.j1 kj2 l0 l1 t385 bt392.1 true t380 t381)) else (laws_FnSaid.j1 kj2 l0 l1 t385 bt392.1 true t380 t381)))))) = some r := H
 have A9 := ak A90
 clear A90
 replace H := Option.bind_eq_some_iff.mp H
 obtain ⟨⟨t388, t391⟩, A100, H⟩ := H
 replace H : ((spec_CountAlong.f kj2 t380 t381 t385).bind fun bt392 => ((impl_CheckCount.f kj2 t380 t381 t385 bt392.1).bind fun bt396 => ((impl_FirstFault.f kj2 t380 t381 t385 bt392.1).bind fun bt398 => (if t391 = bt392.2 then (if t391 = 0 then ((spec_SameSaid.f kj2 t388 bt392.1).bind fun t400 => (if t400 = true then (if (bt392.1.length : Int) = (t385.length : Int) then (if bt396.2 = 0 then (if bt396.1 = true then (laws_FnSaid.j1 kj2 l0 l1 t385 bt392.1 (bt398.2 != 6) t380 t381) else (laws_FnSaid.j1 kj2 l0 l1 t385 bt392.1 true t380 t381)) else (laws_FnSaid.j1 kj2 l0 l1 t385 bt392.1 true t380 t381)) else (laws_FnSaid.j1 kj2 l0 l1 t385 bt392.1 true t380 t381)) else (laws_FnSaid.j1 kj2 l0 l1 t385 bt392.1 true t380 t381))) else (laws_FnSaid.j1 kj2 l0 l1 t385 bt392.1 true t380 t381)) else (laws_FnSaid.j1 kj2 l0 l1 t385 bt392.1 true t380 t381))))) = some r := H
 have A10 := ak A100
 clear A100
 replace H := Option.bind_eq_some_iff.mp H
 obtain ⟨⟨t392, t395⟩, A110, H⟩ := H
 replace H : ((impl_CheckCount.f kj2 t380 t381 t385 t392).bind fun bt396 => ((impl_FirstFault.f kj2 t380 t381 t385 t392).bind fun bt398 => (if t391 = t395 then (if t391 = 0 then ((spec_SameSaid.f kj2 t388 t392).bind fun t400 => (if t400 = true then (if (t392.length : Int) = (t385.length : Int) then (if bt396.2 = 0 then (if bt396.1 = true then (laws_FnSaid.j1 kj2 l0 l1 t385 t392 (bt398.2 != 6) t380 t381) else (laws_FnSaid.j1 kj2 l0 l1 t385 t392 true t380 t381)) else (laws_FnSaid.j1 kj2 l0 l1 t385 t392 true t380 t381)) else (laws_FnSaid.j1 kj2 l0 l1 t385 t392 true t380 t381)) else (laws_FnSaid.j1 kj2 l0 l1 t385 t392 true t380 t381))) else (laws_FnSaid.j1 kj2 l0 l1 t385 t392 true t380 t381)) else (laws_FnSaid.j1 kj2 l0 l1 t385 t392 true t380 t381)))) = some r := H
 have A11 := ak A110
 clear A110
 replace H := Option.bind_eq_some_iff.mp H
 obtain ⟨⟨t396, t397⟩, A120, H⟩ := H
 replace H : ((impl_FirstFault.f kj2 t380 t381 t385 t392).bind fun bt398 => (if t391 = t395 then (if t391 = 0 then ((spec_SameSaid.f kj2 t388 t392).bind fun t400 => (if t400 = true then (if (t392.length : Int) = (t385.length : Int) then (if t397 = 0 then (if t396 = true then (laws_FnSaid.j1 kj2 l0 l1 t385 t392 (bt398.2 != 6) t380 t381) else (laws_FnSaid.j1 kj2 l0 l1 t385 t392 true t380 t381)) else (laws_FnSaid.j1 kj2 l0 l1 t385 t392 true t380 t381)) else (laws_FnSaid.j1 kj2 l0 l1 t385 t392 true t380 t381)) else (laws_FnSaid.j1 kj2 l0 l1 t385 t392 true t380 t381))) else (laws_FnSaid.j1 kj2 l0 l1 t385 t392 true t380 t381)) else (laws_FnSaid.j1 kj2 l0 l1 t385 t392 true t380 t381))) = some r := H
 have A12 := ak A120
 clear A120
 replace H := Option.bind_eq_some_iff.mp H
 obtain ⟨⟨t398, t399⟩, A130, H⟩ := H
 replace H : (if t391 = t395 then (if t391 = 0 then ((spec_SameSaid.f kj2 t388 t392).bind fun t400 => (if t400 = true then (if (t392.length : Int) = (t385.length : Int) then (if t397 = 0 then (if t396 = true then (laws_FnSaid.j1 kj2 l0 l1 t385 t392 (t399 != 6) t380 t381) else (laws_FnSaid.j1 kj2 l0 l1 t385 t392 true t380 t381)) else (laws_FnSaid.j1 kj2 l0 l1 t385 t392 true t380 t381)) else (laws_FnSaid.j1 kj2 l0 l1 t385 t392 true t380 t381)) else (laws_FnSaid.j1 kj2 l0 l1 t385 t392 true t380 t381))) else (laws_FnSaid.j1 kj2 l0 l1 t385 t392 true t380 t381)) else (laws_FnSaid.j1 kj2 l0 l1 t385 t392 true t380 t381)) = some r := H
 have A13 := ak A130
 clear A130
 have HC14 := ak H
 clear H
 go_upto_region 9 with (first | ((with_reducible refine gate_callee (f := 5) rfl ?_); refine goesL_ (some 51) rfl rfl Try.func5 (by kernel_rfl) rfl #[.slice A0 l0.length c0] rfl gl_ ?_; (with_reducible refine (spec_P6Rope.calls kj2 _ _ l0 t380 t381 _ ?side1 ?side2 A8.out).mono ?_); (case side1 => repeat (first | exact (Kd.C_below HR0.out HB.out) | (with_reducible refine Kd.C_alloc ?_ _) | (with_reducible refine Kd.C_drewN ?_ _) | (with_reducible refine Kd.C_drew ?_))); (case side2 => exact HC0.out); rintro e w15 ⟨v382, rfl, ho0, hb⟩; refine ⟨_, rfl, ?_⟩; have n0_ := ak (Kd.R_lower ho0 (below_size (zB HB.out))); have n1_ := ak (below_step (zB HB.out) hb); clear HB; have HO383 := n0_; have HB := n1_; clear n0_ n1_; (try clear hb); (try clear hb2); (try clear hk); (try clear hi); (try clear ho0)) | ((with_reducible refine gate_dst (N := 5) rfl ?_); (try (refine gate_guard (by rfl) ?_; dsimp only)); refine box_event ?hg (N := 5) ?hd (cs := #[.int .i16 0, .slice none 0 0]) (t := 27) ?hr ?_; (case hd => rfl); (case hg => rfl); (case hr => first | (go_simp; done) | (go_simp; rfl)); intro gb384 hg w16 hbox hb; have n0_ := ak (Kd.R_below (zR HO383.out) hb); have n1_ := ak (below_step (zB HB.out) hb); have n2_ := ak (hbox); have n3_ := ak ((by rw [hg]; exact (below_size (zB HB.out)) : w.heap.size ≤ gb384)); have n4_ := ak ((by rw [hg]; exact (below_size (zB HB.out)) : w.heap.size ≤ gb384)); clear HO383 HB; have HO383 := n0_; have HB := n1_; have BK384 := n2_; have GW384 := n3_; have GE384 := n4_; clear n0_ n1_ n2_ n3_ n4_; clear hb hbox hg; have hcz17_0 : w16.cell? ⟨gb384, 0, none⟩ = some (.int .i16 0) := (blk_cell BK384.out 0).trans rfl; have hcz17_1 : w16.cell? ⟨gb384, 1, none⟩ = some (.slice none 0 0) := (blk_cell BK384.out 1).trans rfl; have hfz17_0 := blk_frozen BK384.out 0; have hfz17_1 := blk_frozen BK384.out 1; obtain ⟨Ao18, co18, eo18⟩ := Kd.R_slice HO383.out; subst eo18) | ((with_reducible refine gate_callee (f := 6) rfl ?_); refine goesL_ (some 54) rfl rfl Try.func6 (by kernel_rfl) rfl #[.slice A1 l1.length c1, .agg #[.int .i16 t380, .slice Ao18 t381.length co18]] rfl gl_ ?_; (with_reducible refine (spec_P6Holds.calls kj2 _ _ l1 t380 _ _ t381 t385 _ ?side1 ?side2 ?side3 ?side4 A9.out).mono ?_); (case side1 => exact Kd.C_below HR1.out (zBG HB.out GE384.out)); (case side2 => exact HC1.out); (case side3 => refine (Kd.R_reads' (e := 24) (base := w.heap.size) (ok := fun k_ => True) (n := t381.length) (c := co18) ?_).2.2; exact (by (with_reducible repeat (first | apply Kd.R_alloc | apply Kd.R_drewN | apply Kd.R_drew)); exact (Kd.R_mono (Kd.R_far (p := ⟨gb384, 1, none⟩) (Kd.R_far (p := ⟨gb384, 0, none⟩) (Kd.R_types HO383.out BK384.out (by decide)) (fun _ hk => hk.2) (.int .i16 t380)) (fun _ hk => hk.2) (.slice Ao18 t381.length co18)) (fun _ h_ => h_.1)))); (case side4 => exact (Kd.R_reads' HO383.out).2.1); rintro e w19 ⟨v386, rfl, ho0, hb⟩; refine ⟨_, rfl, ?_⟩; have n0_ := ak (Kd.R_below (by (with_reducible repeat (first | apply Kd.R_alloc | apply Kd.R_drewN | apply Kd.R_drew)); exact (Kd.R_mono (Kd.R_far (p := ⟨gb384, 1, none⟩) (Kd.R_far (p := ⟨gb384, 0, none⟩) (Kd.R_types HO383.out BK384.out (by decide)) (fun _ hk => hk.2) (.int .i16 t380)) (fun _ hk => hk.2) (.slice Ao18 t381.length co18)) (fun _ h_ => h_.1))) hb); have n1_ := ak (Kd.R_lower ho0 (below_size (zBG HB.out GE384.out))); have n2_ := ak (blk_below (g := gb384) (o := .cells #[.int .i16 t380, .slice Ao18 t381.length co18] 27 (0, 0)) (by (with_reducible repeat (first | refine blk_drewN ?_ _ | refine blk_drew ?_ | refine blk_alloc ?_ _)); refine blk_put (cs := #[.int .i16 t380, .slice none 0 0]) ?_ 1 _ rfl; (with_reducible repeat (first | refine blk_drewN ?_ _ | refine blk_drew ?_ | refine blk_alloc ?_ _)); refine blk_put (cs := #[.int .i16 0, .slice none 0 0]) ?_ 0 _ rfl; (with_reducible repeat (first | refine blk_drewN ?_ _ | refine blk_drew ?_ | refine blk_alloc ?_ _)); exact BK384.out) hb); have n3_ := ak (below_step (zBG HB.out GE384.out) hb); clear HO383 BK384 HB; have HO383 := n0_; have HO387 := n1_; have BK384 := n2_; have HB := n3_; clear n0_ n1_ n2_ n3_; (try clear hb); (try clear hb2); (try clear hk); (try clear hi); (try clear ho0); have hcz20_0 : w19.cell? ⟨gb384, 0, none⟩ = some (.int .i16 t380) := (blk_cell BK384.out 0).trans rfl; have hcz20_1 : w19.cell? ⟨gb384, 1, none⟩ = some (.slice Ao18 t381.length co18) := (blk_cell BK384.out 1).trans rfl; have hfz20_0 := blk_frozen BK384.out 0; have hfz20_1 := blk_frozen BK384.out 1; obtain ⟨Ao21, co21, eo21⟩ := Kd.R_slice HO387.out; subst eo21) | ((with_reducible refine gate_callee (f := 7) rfl ?_); refine goesL_ (some 58) rfl rfl Try.func7 (by kernel_rfl) rfl #[.agg #[.int .i16 t380, .slice Ao18 t381.length co18], .slice Ao21 t385.length co21] rfl gl_ ?_; (with_reducible refine (impl_CountAlong.calls kj2 t380 _ _ t381 _ _ t385 t388 t391 _ ?side1 ?side2 ?side3 ?side4 A10.out).mono ?_); (case side1 => exact zC (Kd.R_reads' HO383.out).2.2); (case side2 => exact (Kd.R_reads' HO383.out).2.1); (case side3 => exact zC (Kd.R_reads' HO387.out).2.2); (case side4 => exact (Kd.R_reads' HO387.out).2.1); rintro e w22 ⟨v389, rfl, ho0, hb⟩; refine ⟨_, rfl, ?_⟩; have n0_ := ak (Kd.R_below (zR HO383.out) hb); have n1_ := ak (Kd.R_below (zR HO387.out) hb); have n2_ := ak (Kd.R_lower ho0 (below_size (zBG HB.out GE384.out))); have n3_ := ak (blk_below (g := gb384) (o := .cells #[.int .i16 t380, .slice Ao18 t381.length co18] 27 (0, 0)) (zK BK384.out) hb); have n4_ := ak (below_step (zBG HB.out GE384.out) hb); clear HO383 HO387 BK384 HB; have HO383 := n0_; have HO387 := n1_; have HO390 := n2_; have BK384 := n3_; have HB := n4_; clear n0_ n1_ n2_ n3_ n4_; (try clear hb); (try clear hb2); (try clear hk); (try clear hi); (try clear ho0); have hcz23_0 : w22.cell? ⟨gb384, 0, none⟩ = some (.int .i16 t380) := (blk_cell BK384.out 0).trans rfl; have hcz23_1 : w22.cell? ⟨gb384, 1, none⟩ = some (.slice Ao18 t381.length co18) := (blk_cell BK384.out 1).trans rfl; have hfz23_0 := blk_frozen BK384.out 0; have hfz23_1 := blk_frozen BK384.out 1) | ((with_reducible refine gate_callee (f := 8) rfl ?_); refine goesL_ (some 64) rfl rfl Try.func8 (by kernel_rfl) rfl #[.agg #[.int .i16 t380, .slice Ao18 t381.length co18], .slice Ao21 t385.length co21] rfl gl_ ?_; (with_reducible refine (spec_CountAlong.calls kj2 t380 _ _ t381 _ _ t385 t392 t395 _ ?side1 ?side2 ?side3 ?side4 A11.out).mono ?_); (case side1 => exact zC (Kd.R_reads' HO383.out).2.2); (case side2 => exact (Kd.R_reads' HO383.out).2.1); (case side3 => exact zC (Kd.R_reads' HO387.out).2.2); (case side4 => exact (Kd.R_reads' HO387.out).2.1); rintro e w24 ⟨v393, rfl, ho0, hb⟩; refine ⟨_, rfl, ?_⟩; have n0_ := ak (Kd.R_below (zR HO383.out) hb); have n1_ := ak (Kd.R_below (zR HO387.out) hb); have n2_ := ak (Kd.R_elder' (zR HO390.out) (Kd.R_base ho0) hb); have n3_ := ak (Kd.R_lower (Kd.R_new' ho0 (Kd.R_lt (zR HO390.out))) (below_size (zBG HB.out GE384.out))); have n4_ := ak (blk_below (g := gb384) (o := .cells #[.int .i16 t380, .slice Ao18 t381.length co18] 27 (0, 0)) (zK BK384.out) hb); have n5_ := ak (below_step (zBG HB.out GE384.out) hb); clear HO383 HO387 HO390 BK384 HB; have HO383 := n0_; have HO387 := n1_; have HO390 := n2_; have HO394 := n3_; have BK384 := n4_; have HB := n5_; clear n0_ n1_ n2_ n3_ n4_ n5_; (try clear hb); (try clear hb2); (try clear hk); (try clear hi); (try clear ho0); have hcz25_0 : w24.cell? ⟨gb384, 0, none⟩ = some (.int .i16 t380) := (blk_cell BK384.out 0).trans rfl; have hcz25_1 : w24.cell? ⟨gb384, 1, none⟩ = some (.slice Ao18 t381.length co18) := (blk_cell BK384.out 1).trans rfl; have hfz25_0 := blk_frozen BK384.out 0; have hfz25_1 := blk_frozen BK384.out 1; obtain ⟨Ao26, co26, eo26⟩ := Kd.R_slice HO394.out; subst eo26) | ((with_reducible refine gate_callee (f := 9) rfl ?_); refine goesL_ (some 71) rfl rfl Try.func9 (by kernel_rfl) rfl #[.agg #[.int .i16 t380, .slice Ao18 t381.length co18], .slice Ao21 t385.length co21, .slice Ao26 t392.length co26] rfl gl_ ?_; (with_reducible refine (impl_CheckCount.calls kj2 t380 _ _ t381 _ _ t385 _ _ t392 t396 t397 _ ?side1 ?side2 ?side3 ?side4 ?side5 ?side6 A12.out).mono ?_); (case side1 => exact zC (Kd.R_reads' HO383.out).2.2); (case side2 => exact (Kd.R_reads' HO383.out).2.1); (case side3 => exact zC (Kd.R_reads' HO387.out).2.2); (case side4 => exact (Kd.R_reads' HO387.out).2.1); (case side5 => exact zC (Kd.R_reads' HO394.out).2.2); (case side6 => exact (Kd.R_reads' HO394.out).2.1); rintro e w27 ⟨rfl, hb⟩; refine ⟨_, rfl, ?_⟩; have n0_ := ak (Kd.R_below (zR HO383.out) hb); have n1_ := ak (Kd.R_below (zR HO387.out) hb); have n2_ := ak (Kd.R_below (zR HO390.out) hb); have n3_ := ak (Kd.R_below (zR HO394.out) hb); have n4_ := ak (blk_below (g := gb384) (o := .cells #[.int .i16 t380, .slice Ao18 t381.length co18] 27 (0, 0)) (zK BK384.out) hb); have n5_ := ak (below_step (zBG HB.out GE384.out) hb); clear HO383 HO387 HO390 HO394 BK384 HB; have HO383 := n0_; have HO387 := n1_; have HO390 := n2_; have HO394 := n3_; have BK384 := n4_; have HB := n5_; clear n0_ n1_ n2_ n3_ n4_ n5_; (try clear hb); (try clear hb2); (try clear hk); (try clear hi); have hcz28_0 : w27.cell? ⟨gb384, 0, none⟩ = some (.int .i16 t380) := (blk_cell BK384.out 0).trans rfl; have hcz28_1 : w27.cell? ⟨gb384, 1, none⟩ = some (.slice Ao18 t381.length co18) := (blk_cell BK384.out 1).trans rfl; have hfz28_0 := blk_frozen BK384.out 0; have hfz28_1 := blk_frozen BK384.out 1) | ((with_reducible refine gate_callee (f := 10) rfl ?_); refine goesL_ (some 78) rfl rfl Try.func10 (by kernel_rfl) rfl #[.agg #[.int .i16 t380, .slice Ao18 t381.length co18], .slice Ao21 t385.length co21, .slice Ao26 t392.length co26] rfl gl_ ?_; (with_reducible refine (impl_FirstFault.calls kj2 t380 _ _ t381 _ _ t385 _ _ t392 t398 t399 _ ?side1 ?side2 ?side3 ?side4 ?side5 ?side6 A13.out).mono ?_); (case side1 => exact zC (Kd.R_reads' HO383.out).2.2); (case side2 => exact (Kd.R_reads' HO383.out).2.1); (case side3 => exact zC (Kd.R_reads' HO387.out).2.2); (case side4 => exact (Kd.R_reads' HO387.out).2.1); (case side5 => exact zC (Kd.R_reads' HO394.out).2.2); (case side6 => exact (Kd.R_reads' HO394.out).2.1); rintro e w29 ⟨rfl, hb⟩; refine ⟨_, rfl, ?_⟩; have n0_ := ak (Kd.R_below (zR HO383.out) hb); have n1_ := ak (Kd.R_below (zR HO387.out) hb); have n2_ := ak (Kd.R_below (zR HO390.out) hb); have n3_ := ak (Kd.R_below (zR HO394.out) hb); have n4_ := ak (blk_below (g := gb384) (o := .cells #[.int .i16 t380, .slice Ao18 t381.length co18] 27 (0, 0)) (zK BK384.out) hb); have n5_ := ak (below_step (zBG HB.out GE384.out) hb); clear HO383 HO387 HO390 HO394 BK384 HB; have HO383 := n0_; have HO387 := n1_; have HO390 := n2_; have HO394 := n3_; have BK384 := n4_; have HB := n5_; clear n0_ n1_ n2_ n3_ n4_ n5_; (try clear hb); (try clear hb2); (try clear hk); (try clear hi)))
 (try simp only [Act.put, zs, zz, zk])
 refine wp_cutM 20657999024695268717247353376024094994637646342633788102645274852325180976134729557037162826241102651487225358189793902592 (fun (u : Nat → Value) wc => ∃ (kq : Nat) (x112_13 : Bool), u 112 = .bool x112_13 ∧ Aside0 (laws_FnSaid.j1 kq l0 l1 t385 t392 x112_13 t380 t381 = some r) ∧ Aside0 (kq ≤ kj2) ∧ Aside0 (Kd.R k47 47 wc w.heap.size (fun _ => True) (.slice Ao21 t385.length co21) t385) ∧ Aside0 (Kd.R k40 40 wc w.heap.size (fun _ => True) (.slice Ao26 t392.length co26) t392) ∧ Aside0 (Kd.R (Kd.int .i16) 24 wc w.heap.size (fun _ => True) (.slice Ao18 t381.length co18) t381) ∧ Aside0 (wc.heap[gb384]? = some (.cells #[.int .i16 t380, (.slice Ao18 t381.length co18)] 27 (0, 0))) ∧ Aside0 (Below w.heap.size w wc)) ?first ?rest
 case first => (
 as_aux_lemma =>
 intro J_ K_ hJ2_ hK_
 have H := HC14.out
 clear HC14
 by_cases c30 : t391 = t395
 {
 rw [if_pos c30] at H
 have c30b0 : (t391 == t395) = true := beq_iff_eq.mpr c30
 have c30b1 : (t391 != t395) = false := bne_eq_false_iff_eq.mpr c30
 clear c30
 (first | rw [c30b0] | (simp only [i64_w, i32_w]; rw [c30b0]) | skip)
 by_cases c31 : t391 = 0
 {
 rw [if_pos c31] at H
 have c31b0 : (t391 == 0) = true := beq_iff_eq.mpr c31
 have c31b1 : (t391 != 0) = false := bne_eq_false_iff_eq.mpr c31
 clear c31
 replace H := Option.bind_eq_some_iff.mp H
 obtain ⟨t400, A320, H⟩ := H
 replace H : (if t400 = true then (if (t392.length : Int) = (t385.length : Int) then (if t397 = 0 then (if t396 = true then (laws_FnSaid.j1 kj2 l0 l1 t385 t392 (t399 != 6) t380 t381) else (laws_FnSaid.j1 kj2 l0 l1 t385 t392 true t380 t381)) else (laws_FnSaid.j1 kj2 l0 l1 t385 t392 true t380 t381)) else (laws_FnSaid.j1 kj2 l0 l1 t385 t392 true t380 t381)) else (laws_FnSaid.j1 kj2 l0 l1 t385 t392 true t380 t381)) = some r := H
 have A32 := ak A320
 clear A320
 by_cases c33 : t400 = true
 {
 subst c33
 have H1 : (if (t392.length : Int) = (t385.length : Int) then (if t397 = 0 then (if t396 = true then (laws_FnSaid.j1 kj2 l0 l1 t385 t392 (t399 != 6) t380 t381) else (laws_FnSaid.j1 kj2 l0 l1 t385 t392 true t380 t381)) else (laws_FnSaid.j1 kj2 l0 l1 t385 t392 true t380 t381)) else (laws_FnSaid.j1 kj2 l0 l1 t385 t392 true t380 t381)) = some r := by rw [if_pos rfl] at H; exact H
 clear H
 have H := H1
 clear H1
 by_cases c34 : (t392.length : Int) = (t385.length : Int)
 {
 rw [if_pos c34] at H
 have c34b0 : ((t392.length : Int) == (t385.length : Int)) = true := beq_iff_eq.mpr c34
 have c34b1 : ((t392.length : Int) != (t385.length : Int)) = false := bne_eq_false_iff_eq.mpr c34
 have c34b2 : (t392.length == t385.length) = true := by first | simpa using c34 | (simp at c34 ⊢; omega)
 clear c34
 by_cases c35 : t397 = 0
 {
 rw [if_pos c35] at H
 have c35b0 : (t397 == 0) = true := beq_iff_eq.mpr c35
 have c35b1 : (t397 != 0) = false := bne_eq_false_iff_eq.mpr c35
 clear c35
 by_cases c36 : t396 = true
 {
 subst c36
 have H1 : (laws_FnSaid.j1 kj2 l0 l1 t385 t392 (t399 != 6) t380 t381) = some r := by rw [if_pos rfl] at H; exact H
 clear H
 have H := H1
 clear H1
 (
 have H' := ak H
 clear H
 obtain ⟨Ao37, co37, eo37⟩ := Kd.R_slice HO390.out
 subst eo37
 go_wp2_with (first | (go_at_call 11; (with_reducible refine (spec_SameSaid.calls kj2 _ _ t388 _ _ t392 true _ ?side1 ?side2 ?side3 ?side4 A32.out).mono ?_); (case side1 => exact zC (Kd.R_reads' HO390.out).2.2); (case side2 => exact (Kd.R_reads' HO390.out).2.1); (case side3 => exact zC (Kd.R_reads' HO394.out).2.2); (case side4 => exact (Kd.R_reads' HO394.out).2.1); rintro e w' ⟨rfl, ⟨nd, rfl⟩⟩))
 refine meetM hJ2_ (by kernel_rfl) ?rel
 case rel => dsimp only [List.getD_cons_succ, List.getD_cons_zero]; exact ⟨_, ((t399 != 6)), (by first | rfl | (simp; done) | (simp [*]; done)), H', ⟨by have := HJ2.out; first | omega | exact Nat.le_refl _⟩, ⟨(zR HO387.out)⟩, ⟨by (with_reducible repeat (first | apply Kd.R_alloc | apply Kd.R_drewN | apply Kd.R_drew)); exact Kd.R_mono HO394.out (fun _ hk => trivial)⟩, ⟨(zR HO383.out)⟩, ⟨(zK BK384.out)⟩, ⟨(zBG HB.out GE384.out)⟩⟩
 )
 }
 {
 replace c36 := Bool.eq_false_iff.mpr c36
 subst c36
 have H1 : (laws_FnSaid.j1 kj2 l0 l1 t385 t392 true t380 t381) = some r := by rw [if_neg (show ¬ (false = true) by decide)] at H; exact H
 clear H
 have H := H1
 clear H1
 (
 have H' := ak H
 clear H
 obtain ⟨Ao38, co38, eo38⟩ := Kd.R_slice HO390.out
 subst eo38
 go_wp2_with (first | (go_at_call 11; (with_reducible refine (spec_SameSaid.calls kj2 _ _ t388 _ _ t392 true _ ?side1 ?side2 ?side3 ?side4 A32.out).mono ?_); (case side1 => exact zC (Kd.R_reads' HO390.out).2.2); (case side2 => exact (Kd.R_reads' HO390.out).2.1); (case side3 => exact zC (Kd.R_reads' HO394.out).2.2); (case side4 => exact (Kd.R_reads' HO394.out).2.1); rintro e w' ⟨rfl, ⟨nd, rfl⟩⟩))
 refine meetM hJ2_ (by kernel_rfl) ?rel
 case rel => dsimp only [List.getD_cons_succ, List.getD_cons_zero]; exact ⟨_, (true), (by first | rfl | (simp; done) | (simp [*]; done)), H', ⟨by have := HJ2.out; first | omega | exact Nat.le_refl _⟩, ⟨(zR HO387.out)⟩, ⟨by (with_reducible repeat (first | apply Kd.R_alloc | apply Kd.R_drewN | apply Kd.R_drew)); exact Kd.R_mono HO394.out (fun _ hk => trivial)⟩, ⟨(zR HO383.out)⟩, ⟨(zK BK384.out)⟩, ⟨(zBG HB.out GE384.out)⟩⟩
 )
 }
 }
 {
 rw [if_neg c35] at H
 have c35b0 : (t397 == 0) = false := beq_eq_false_iff_ne.mpr c35
 have c35b1 : (t397 != 0) = true := bne_iff_ne.mpr c35
 (
 have H' := ak H
 clear H
 obtain ⟨Ao39, co39, eo39⟩ := Kd.R_slice HO390.out
 subst eo39
 go_wp2_with (first | (go_at_call 11; (with_reducible refine (spec_SameSaid.calls kj2 _ _ t388 _ _ t392 true _ ?side1 ?side2 ?side3 ?side4 A32.out).mono ?_); (case side1 => exact zC (Kd.R_reads' HO390.out).2.2); (case side2 => exact (Kd.R_reads' HO390.out).2.1); (case side3 => exact zC (Kd.R_reads' HO394.out).2.2); (case side4 => exact (Kd.R_reads' HO394.out).2.1); rintro e w' ⟨rfl, ⟨nd, rfl⟩⟩))
 refine meetM hJ2_ (by kernel_rfl) ?rel
 case rel => dsimp only [List.getD_cons_succ, List.getD_cons_zero]; exact ⟨_, (true), (by first | rfl | (simp; done) | (simp [*]; done)), H', ⟨by have := HJ2.out; first | omega | exact Nat.le_refl _⟩, ⟨(zR HO387.out)⟩, ⟨by (with_reducible repeat (first | apply Kd.R_alloc | apply Kd.R_drewN | apply Kd.R_drew)); exact Kd.R_mono HO394.out (fun _ hk => trivial)⟩, ⟨(zR HO383.out)⟩, ⟨(zK BK384.out)⟩, ⟨(zBG HB.out GE384.out)⟩⟩
 )
 }
 }
 {
 rw [if_neg c34] at H
 have c34b0 : ((t392.length : Int) == (t385.length : Int)) = false := beq_eq_false_iff_ne.mpr c34
 have c34b1 : ((t392.length : Int) != (t385.length : Int)) = true := bne_iff_ne.mpr c34
 have c34b2 : (t392.length == t385.length) = false := by first | simpa using c34 | (simp at c34 ⊢; omega)
 (
 have H' := ak H
 clear H
 obtain ⟨Ao40, co40, eo40⟩ := Kd.R_slice HO390.out
 subst eo40
 go_wp2_with (first | (go_at_call 11; (with_reducible refine (spec_SameSaid.calls kj2 _ _ t388 _ _ t392 true _ ?side1 ?side2 ?side3 ?side4 A32.out).mono ?_); (case side1 => exact zC (Kd.R_reads' HO390.out).2.2); (case side2 => exact (Kd.R_reads' HO390.out).2.1); (case side3 => exact zC (Kd.R_reads' HO394.out).2.2); (case side4 => exact (Kd.R_reads' HO394.out).2.1); rintro e w' ⟨rfl, ⟨nd, rfl⟩⟩))
 refine meetM hJ2_ (by kernel_rfl) ?rel
 case rel => dsimp only [List.getD_cons_succ, List.getD_cons_zero]; exact ⟨_, (true), (by first | rfl | (simp; done) | (simp [*]; done)), H', ⟨by have := HJ2.out; first | omega | exact Nat.le_refl _⟩, ⟨(zR HO387.out)⟩, ⟨by (with_reducible repeat (first | apply Kd.R_alloc | apply Kd.R_drewN | apply Kd.R_drew)); exact Kd.R_mono HO394.out (fun _ hk => trivial)⟩, ⟨(zR HO383.out)⟩, ⟨(zK BK384.out)⟩, ⟨(zBG HB.out GE384.out)⟩⟩
 )
 }
 }
 {
 replace c33 := Bool.eq_false_iff.mpr c33
 subst c33
 have H1 : (laws_FnSaid.j1 kj2 l0 l1 t385 t392 true t380 t381) = some r := by rw [if_neg (show ¬ (false = true) by decide)] at H; exact H
 clear H
 have H := H1
 clear H1
 (
 have H' := ak H
 clear H
 obtain ⟨Ao41, co41, eo41⟩ := Kd.R_slice HO390.out
 subst eo41
 go_wp2_with (first | (go_at_call 11; (with_reducible refine (spec_SameSaid.calls kj2 _ _ t388 _ _ t392 false _ ?side1 ?side2 ?side3 ?side4 A32.out).mono ?_); (case side1 => exact zC (Kd.R_reads' HO390.out).2.2); (case side2 => exact (Kd.R_reads' HO390.out).2.1); (case side3 => exact zC (Kd.R_reads' HO394.out).2.2); (case side4 => exact (Kd.R_reads' HO394.out).2.1); rintro e w' ⟨rfl, ⟨nd, rfl⟩⟩))
 refine meetM hJ2_ (by kernel_rfl) ?rel
 case rel => dsimp only [List.getD_cons_succ, List.getD_cons_zero]; exact ⟨_, (true), (by first | rfl | (simp; done) | (simp [*]; done)), H', ⟨by have := HJ2.out; first | omega | exact Nat.le_refl _⟩, ⟨(zR HO387.out)⟩, ⟨by (with_reducible repeat (first | apply Kd.R_alloc | apply Kd.R_drewN | apply Kd.R_drew)); exact Kd.R_mono HO394.out (fun _ hk => trivial)⟩, ⟨(zR HO383.out)⟩, ⟨(zK BK384.out)⟩, ⟨(zBG HB.out GE384.out)⟩⟩
 )
 }
 }
 {
 rw [if_neg c31] at H
 have c31b0 : (t391 == 0) = false := beq_eq_false_iff_ne.mpr c31
 have c31b1 : (t391 != 0) = true := bne_iff_ne.mpr c31
 (
 have H' := ak H
 clear H
 go_wp2
 refine meetM hJ2_ (by kernel_rfl) ?rel
 case rel => dsimp only [List.getD_cons_succ, List.getD_cons_zero]; exact ⟨_, (true), (by first | rfl | (simp; done) | (simp [*]; done)), H', ⟨by have := HJ2.out; first | omega | exact Nat.le_refl _⟩, ⟨(zR HO387.out)⟩, ⟨by (with_reducible repeat (first | apply Kd.R_alloc | apply Kd.R_drewN | apply Kd.R_drew)); exact Kd.R_mono HO394.out (fun _ hk => trivial)⟩, ⟨(zR HO383.out)⟩, ⟨(zK BK384.out)⟩, ⟨(zBG HB.out GE384.out)⟩⟩
 )
 }
 }
 {
 rw [if_neg c30] at H
 have c30b0 : (t391 == t395) = false := beq_eq_false_iff_ne.mpr c30
 have c30b1 : (t391 != t395) = true := bne_iff_ne.mpr c30
 (first | rw [c30b0] | (simp only [i64_w, i32_w]; rw [c30b0]) | skip)
 (
 have H' := ak H
 clear H
 go_wp2
 refine meetM hJ2_ (by kernel_rfl) ?rel
 case rel => dsimp only [List.getD_cons_succ, List.getD_cons_zero]; exact ⟨_, (true), (by first | rfl | (simp; done) | (simp [*]; done)), H', ⟨by have := HJ2.out; first | omega | exact Nat.le_refl _⟩, ⟨(zR HO387.out)⟩, ⟨by (with_reducible repeat (first | apply Kd.R_alloc | apply Kd.R_drewN | apply Kd.R_drew)); exact Kd.R_mono HO394.out (fun _ hk => trivial)⟩, ⟨(zR HO383.out)⟩, ⟨(zK BK384.out)⟩, ⟨(zBG HB.out GE384.out)⟩⟩
 )
 }
 )
 case rest => (
 intro u2_ wc hcut
 dsimp only [frU, cond, Nat.reduceMod, Nat.reduceDiv, Nat.reduceAdd, Nat.reduceBEq, Nat.reduceEqDiff, beq_self_eq_true]
 clear HC14
 try clear c1
 try clear c7
 try clear hcz17_0
 try clear hcz17_1
 try clear hcz20_0
 try clear hcz20_1
 try clear hcz23_0
 try clear hcz23_1
 try clear hcz25_0
 try clear hcz25_1
 try clear hcz28_0
 try clear hcz28_1
 try clear hfz17_0
 try clear hfz17_1
 try clear hfz20_0
 try clear hfz20_1
 try clear hfz23_0
 try clear hfz23_1
 try clear hfz25_0
 try clear hfz25_1
 try clear hfz28_0
 try clear hfz28_1
 obtain ⟨kq, x112_13, eu2_112, HA, HJ13, HO_6, HO_9, HO_385001, BK384, HB⟩ := hcut
 rw [eu2_112]
 clear eu2_112
 cases kq with
 | zero => exact absurd HA.out (by simp [laws_FnSaid.j1])
 | succ kj13 => (
 have H := HA.out
 clear HA
 simp only [laws_FnSaid.j1] at H
 by_cases c42 : x112_13 = true
 {
 subst c42
 have H1 : (some false) = some r := by rw [if_pos rfl] at H; exact H
 clear H
 have H := H1
 clear H1
 (
 exact absurd ((Option.some.inj H).trans HT.out) (by decide)
 )
 }
 {
 replace c42 := Bool.eq_false_iff.mpr c42
 subst c42
 have H1 : (laws_FnSaid.l0 kj13 l0 l1 t385 t392 0 t380 t381) = some r := by rw [if_neg (show ¬ (false = true) by decide)] at H; exact H
 clear H
 have H := H1
 clear H1
 have H' := ak H
 clear H
 go_wp2
 refine wp_loopM 11150372588880717853698203879263188094582800 kj13 (fun kq (u : Nat → Value) w' => ∃ (x15_3 : Int), u 15 = .int .i64 x15_3 ∧ Aside0 (laws_FnSaid.l0 kq l0 l1 t385 t392 x15_3 t380 t381 = some r) ∧ Aside0 (kq ≤ kj13) ∧ Aside0 (Kd.R k47 47 w' w.heap.size (fun _ => True) (.slice Ao21 t385.length co21) t385) ∧ Aside0 (Kd.R k40 40 w' w.heap.size (fun _ => True) (.slice Ao26 t392.length co26) t392) ∧ Aside0 (Kd.R (Kd.int .i16) 24 w' w.heap.size (fun _ => True) (.slice Ao18 t381.length co18) t381) ∧ Aside0 (w'.heap[gb384]? = some (.cells #[.int .i16 t380, (.slice Ao18 t381.length co18)] 27 (0, 0))) ∧ Aside0 (Below w.heap.size w w')) ?atStart ?round
 case atStart => dsimp only [List.getD_cons_succ, List.getD_cons_zero]; exact ⟨(0), (by first | rfl | (simp; done) | (simp [*]; done)), H', ⟨Nat.le_refl _⟩, ⟨(zR HO_6.out)⟩, ⟨(zR HO_9.out)⟩, ⟨(zR HO_385001.out)⟩, ⟨(zK BK384.out)⟩, ⟨(zBG HB.out GE384.out)⟩⟩
 case round => (
 intro gk u3_ wr hrel J_ K_ hJ3_ hK_
 dsimp only [frU, cond, Nat.reduceMod, Nat.reduceDiv, Nat.reduceAdd, Nat.reduceBEq, Nat.reduceEqDiff, beq_self_eq_true]
 clear H'
 try clear c1
 try clear c7
 try clear c42
 try clear hcz17_0
 try clear hcz17_1
 try clear hcz20_0
 try clear hcz20_1
 try clear hcz23_0
 try clear hcz23_1
 try clear hcz25_0
 try clear hcz25_1
 try clear hcz28_0
 try clear hcz28_1
 try clear hfz17_0
 try clear hfz17_1
 try clear hfz20_0
 try clear hfz20_1
 try clear hfz23_0
 try clear hfz23_1
 try clear hfz25_0
 try clear hfz25_1
 try clear hfz28_0
 try clear hfz28_1
 obtain ⟨x15_3, eu3_15, HA, HK3, HO_6, HO_9, HO_385001, BK384, HB⟩ := hrel
 rw [eu3_15]
 clear eu3_15
 cases gk with
 | zero => exact absurd HA.out (by simp [laws_FnSaid.l0])
 | succ k3 => (
 have H := HA.out
 clear HA
 simp only [laws_FnSaid.l0] at H
 by_cases c43 : x15_3 < (t392.length : Int)
 {
 rw [if_pos c43] at H
 have c43b0 : decide (x15_3 < (t392.length : Int)) = true := decide_eq_true c43
 clear c43
 by_cases c44 : 0 ≤ x15_3
 {
 rw [if_pos c44] at H
 have c44b0 : decide (0 ≤ x15_3) = true := decide_eq_true c44
 clear c44
 by_cases c45 : ((rd_T40 t392 x15_3).f0) = (wrap64 (x15_3 + 1))
 {
 rw [if_pos c45] at H
 have c45b0 : (((rd_T40 t392 x15_3).f0) == (wrap64 (x15_3 + 1))) = true := beq_iff_eq.mpr c45
 have c45b1 : (((rd_T40 t392 x15_3).f0) != (wrap64 (x15_3 + 1))) = false := bne_eq_false_iff_eq.mpr c45
 (try (have c45b2 : (((rd_T40 t392 x15_3).f0) == (IntKind.i64.wrap (x15_3 + 1))) = true := by first | simpa only [i64_w, i32_w] using (show (((rd_T40 t392 x15_3).f0) == (wrap64 (x15_3 + 1))) = true from beq_iff_eq.mpr c45) | simpa only [i64_w] using (show (((rd_T40 t392 x15_3).f0) == (wrap64 (x15_3 + 1))) = true from beq_iff_eq.mpr c45)))
 (try (have c45b3 : (((rd_T40 t392 x15_3).f0) != (IntKind.i64.wrap (x15_3 + 1))) = false := by first | simpa only [i64_w, i32_w] using (show (((rd_T40 t392 x15_3).f0) != (wrap64 (x15_3 + 1))) = false from bne_eq_false_iff_eq.mpr c45) | simpa only [i64_w] using (show (((rd_T40 t392 x15_3).f0) != (wrap64 (x15_3 + 1))) = false from bne_eq_false_iff_eq.mpr c45)))
 clear c45
 by_cases c46 : ((rd_T40 t392 x15_3).f1) < 0
 {
 rw [if_pos c46] at H
 have c46b0 : decide (((rd_T40 t392 x15_3).f1) < 0) = true := decide_eq_true c46
 clear c46
 (
 exact absurd ((Option.some.inj H).trans HT.out) (by decide)
 )
 }
 {
 rw [if_neg c46] at H
 have c46b0 : decide (((rd_T40 t392 x15_3).f1) < 0) = false := decide_eq_false c46
 clear c46
 by_cases c47 : ((rd_T40 t392 x15_3).f1) > 96
 {
 rw [if_pos c47] at H
 have c47b0 : decide (96 < ((rd_T40 t392 x15_3).f1)) = true := decide_eq_true c47
 clear c47
 (
 exact absurd ((Option.some.inj H).trans HT.out) (by decide)
 )
 }
 {
 rw [if_neg c47] at H
 have c47b0 : decide (96 < ((rd_T40 t392 x15_3).f1)) = false := decide_eq_false c47
 clear c47
 (
 have H' := ak H
 clear H
 have p401 : 0 ≤ (x15_3 : Int) := of_decide_eq_true (by first | (with_reducible assumption) | assumption)
 have q401 : x15_3 < (t392.length : Int) := of_decide_eq_true (by first | (with_reducible assumption) | assumption)
 obtain ⟨ad401, e401, hx401_0, hx401_1⟩ := at_T40 (Kd.R_reads' HO_9.out).2.2 x15_3 p401 q401
 cases e401
 replace p401 := eq_true p401
 replace q401 := eq_true q401
 have p402 : 0 ≤ (x15_3 : Int) := of_decide_eq_true (by first | (with_reducible assumption) | assumption)
 have q402 : x15_3 < (t392.length : Int) := of_decide_eq_true (by first | (with_reducible assumption) | assumption)
 obtain ⟨ad402, e402, hx402_0, hx402_1⟩ := at_T40 (Kd.R_reads' HO_9.out).2.2 x15_3 p402 q402
 obtain rfl : ad401 = ad402 := (by injection e402)
 replace p402 := eq_true p402
 replace q402 := eq_true q402
 have p403 : 0 ≤ (x15_3 : Int) := of_decide_eq_true (by first | (with_reducible assumption) | assumption)
 have q403 : x15_3 < (t392.length : Int) := of_decide_eq_true (by first | (with_reducible assumption) | assumption)
 obtain ⟨ad403, e403, hx403_0, hx403_1⟩ := at_T40 (Kd.R_reads' HO_9.out).2.2 x15_3 p403 q403
 obtain rfl : ad401 = ad403 := (by injection e403)
 replace p403 := eq_true p403
 replace q403 := eq_true q403
 go_wp2
 refine handM k3 hJ3_ ?measure (by kernel_rfl) ?rel
 case measure => have := HJ2.out; have := HJ13.out; have := HK3.out; omega
 case rel => dsimp only [List.getD_cons_succ, List.getD_cons_zero]; exact ⟨(wrap64 (x15_3 + 1)), (by first | rfl | (simp; done) | (simp [*]; done)), H', ⟨by have := HJ2.out; have := HJ13.out; have := HK3.out; omega⟩, ⟨(zR HO_6.out)⟩, ⟨(zR HO_9.out)⟩, ⟨(zR HO_385001.out)⟩, ⟨(zK BK384.out)⟩, ⟨(zBG HB.out GE384.out)⟩⟩
 )
 }
 }
 }
 {
 rw [if_neg c45] at H
 have c45b0 : (((rd_T40 t392 x15_3).f0) == (wrap64 (x15_3 + 1))) = false := beq_eq_false_iff_ne.mpr c45
 have c45b1 : (((rd_T40 t392 x15_3).f0) != (wrap64 (x15_3 + 1))) = true := bne_iff_ne.mpr c45
 (try (have c45b2 : (((rd_T40 t392 x15_3).f0) == (IntKind.i64.wrap (x15_3 + 1))) = false := by first | simpa only [i64_w, i32_w] using (show (((rd_T40 t392 x15_3).f0) == (wrap64 (x15_3 + 1))) = false from beq_eq_false_iff_ne.mpr c45) | simpa only [i64_w] using (show (((rd_T40 t392 x15_3).f0) == (wrap64 (x15_3 + 1))) = false from beq_eq_false_iff_ne.mpr c45)))
 (try (have c45b3 : (((rd_T40 t392 x15_3).f0) != (IntKind.i64.wrap (x15_3 + 1))) = true := by first | simpa only [i64_w, i32_w] using (show (((rd_T40 t392 x15_3).f0) != (wrap64 (x15_3 + 1))) = true from bne_iff_ne.mpr c45) | simpa only [i64_w] using (show (((rd_T40 t392 x15_3).f0) != (wrap64 (x15_3 + 1))) = true from bne_iff_ne.mpr c45)))
 (
 exact absurd ((Option.some.inj H).trans HT.out) (by decide)
 )
 }
 }
 · rw [if_neg c44] at H; exact absurd H (by simp)
 }
 {
 rw [if_neg c43] at H
 have c43b0 : decide (x15_3 < (t392.length : Int)) = false := decide_eq_false c43
 clear c43
 by_cases c48 : (t385.length : Int) = 0
 {
 rw [if_pos c48] at H
 have c48b0 : ((t385.length : Int) == 0) = true := beq_iff_eq.mpr c48
 have c48b1 : ((t385.length : Int) != 0) = false := bne_eq_false_iff_eq.mpr c48
 clear c48
 replace H := Option.bind_eq_some_iff.mp H
 obtain ⟨⟨t404, t407⟩, A490, H⟩ := H
 replace H : (if t407 = 0 then (some ((t404.length : Int) == 0)) else (some false)) = some r := H
 have A49 := ak A490
 clear A490
 by_cases c50 : t407 = 0
 {
 rw [if_pos c50] at H
 have c50b0 : (t407 == 0) = true := beq_iff_eq.mpr c50
 have c50b1 : (t407 != 0) = false := bne_eq_false_iff_eq.mpr c50
 clear c50
 (
 obtain rfl := Option.some.inj H
 have hcz51_0 : wr.cell? ⟨gb384, 0, none⟩ = some (.int .i16 t380) := (blk_cell BK384.out 0).trans rfl
 have hcz51_1 : wr.cell? ⟨gb384, 1, none⟩ = some (.slice Ao18 t381.length co18) := (blk_cell BK384.out 1).trans rfl
 have hfz51_0 := blk_frozen BK384.out 0
 have hfz51_1 := blk_frozen BK384.out 1
 go_wp2_with (first | ((with_reducible refine gate_callee (f := 12) rfl ?_); refine goesL_ (some 151) rfl rfl Try.func12 (by kernel_rfl) rfl #[.agg #[.int .i16 t380, .slice Ao18 t381.length co18], .slice Ao21 t385.length co21, .agg #[.int .i64 0, .int .i64 0]] rfl gl_ ?_; (with_reducible refine (impl_MissingBy.calls k3 t380 _ _ t381 _ _ t385 0 0 t404 t407 _ ?side1 ?side2 ?side3 ?side4 A49.out).mono ?_); (case side1 => exact zC (Kd.R_reads' HO_385001.out).2.2); (case side2 => exact (Kd.R_reads' HO_385001.out).2.1); (case side3 => exact zC (Kd.R_reads' HO_6.out).2.2); (case side4 => exact (Kd.R_reads' HO_6.out).2.1); rintro e w52 ⟨v405, rfl, ho0, hb⟩; refine ⟨_, rfl, ?_⟩; have n0_ := ak (Kd.R_below (zR HO_6.out) hb); have n1_ := ak (Kd.R_below (zR HO_9.out) hb); have n2_ := ak (Kd.R_below (zR HO_385001.out) hb); have n3_ := ak (Kd.R_lower ho0 (below_size (zBG HB.out GE384.out))); have n4_ := ak (blk_below (g := gb384) (o := .cells #[.int .i16 t380, .slice Ao18 t381.length co18] 27 (0, 0)) (zK BK384.out) hb); have n5_ := ak (below_step (zBG HB.out GE384.out) hb); clear HO_6 HO_9 HO_385001 BK384 HB; have HO_6 := n0_; have HO_9 := n1_; have HO_385001 := n2_; have HO406 := n3_; have BK384 := n4_; have HB := n5_; clear n0_ n1_ n2_ n3_ n4_ n5_; (try clear hb); (try clear hb2); (try clear hk); (try clear hi); (try clear ho0); obtain ⟨Ao53, co53, eo53⟩ := Kd.R_slice HO406.out; subst eo53))
 go_ret
 exact ⟨by first | rfl | (simp [errW_none, errW_some] <;> rfl) | (simp [*, errW_none, errW_some] <;> rfl), zBG HB.out GE384.out⟩
 )
 }
 {
 rw [if_neg c50] at H
 have c50b0 : (t407 == 0) = false := beq_eq_false_iff_ne.mpr c50
 have c50b1 : (t407 != 0) = true := bne_iff_ne.mpr c50
 (
 exact absurd ((Option.some.inj H).trans HT.out) (by decide)
 )
 }
 }
 {
 rw [if_neg c48] at H
 have c48b0 : ((t385.length : Int) == 0) = false := beq_eq_false_iff_ne.mpr c48
 have c48b1 : ((t385.length : Int) != 0) = true := bne_iff_ne.mpr c48
 have c48b2 : ¬ (t385 = []) := fun h_ => c48 (by rw [h_]; rfl)
 replace H := Option.bind_eq_some_iff.mp H
 obtain ⟨t408, A540, H⟩ := H
 replace H : ((some (([] : List (S40)) : List (S40))).bind fun y409 => (if y409.length + t392.length < 8796093022208 then ((some (y409 ++ t392 : List (S40))).bind fun y412 => (if 0 ≤ t408 then (if t408 < (y412.length : Int) then ((spec_P6Pick.f l1 96).bind fun t416 => ((some (y412.set (t408 : Int).toNat (⟨(rd_T40 y412 t408).f0, Int.tmod (wrap64 ((wrap64 (((rd_T40 y412 t408).f1) + 1)) + t416)) 97⟩ : S40) : List (S40))).bind fun y417 => ((impl_FirstFault.f k3 t380 t381 t385 y417).bind fun bt418 => ((impl_CheckCount.f k3 t380 t381 t385 y417).bind fun bt420 => (if t408 ≤ (t392.length : Int) then ((impl_FirstFault.f k3 t380 t381 t385 (t392.take (t408 : Int).toNat)).bind fun bt426 => ((some (([] : List (S40)) : List (S40))).bind fun y428 => (if y428.length + t392.length < 8796093022208 then ((some (y428 ++ t392 : List (S40))).bind fun y431 => ((some (([(⟨1, 0⟩ : S40)] : List (S40)) : List (S40))).bind fun y434 => (if y431.length + y434.length < 8796093022208 then ((impl_FirstFault.f k3 t380 t381 t385 (y431 ++ y434)).bind fun bt440 => (if bt418.2 = 0 then (if bt418.1 = t408 then (if bt420.2 = 0 then (if bt420.1 = true then (laws_FnSaid.j3 k3 t385 (t385.length : Int) t408 true t380 t381) else (if bt426.2 = 0 then (if bt426.1 = t408 then (if bt440.2 = 0 then (laws_FnSaid.j3 k3 t385 (t385.length : Int) t408 (bt440.1 != (t385.length : Int)) t380 t381) else (laws_FnSaid.j3 k3 t385 (t385.length : Int) t408 true t380 t381)) else (laws_FnSaid.j3 k3 t385 (t385.length : Int) t408 true t380 t381)) else (laws_FnSaid.j3 k3 t385 (t385.length : Int) t408 true t380 t381))) else (laws_FnSaid.j3 k3 t385 (t385.length : Int) t408 true t380 t381)) else (laws_FnSaid.j3 k3 t385 (t385.length : Int) t408 true t380 t381)) else (laws_FnSaid.j3 k3 t385 (t385.length : Int) t408 true t380 t381))) else (none)))) else (none)))) else (none)))))) else (none)) else (none))) else (none))) = some r := H
 have A54 := ak A540
 clear A540
 obtain ⟨y409, hy409⟩ : ∃ y_ : List (S40), y_ = (([] : List (S40))) := ⟨_, rfl⟩
 replace H : (if y409.length + t392.length < 8796093022208 then ((some (y409 ++ t392 : List (S40))).bind fun y412 => (if 0 ≤ t408 then (if t408 < (y412.length : Int) then ((spec_P6Pick.f l1 96).bind fun t416 => ((some (y412.set (t408 : Int).toNat (⟨(rd_T40 y412 t408).f0, Int.tmod (wrap64 ((wrap64 (((rd_T40 y412 t408).f1) + 1)) + t416)) 97⟩ : S40) : List (S40))).bind fun y417 => ((impl_FirstFault.f k3 t380 t381 t385 y417).bind fun bt418 => ((impl_CheckCount.f k3 t380 t381 t385 y417).bind fun bt420 => (if t408 ≤ (t392.length : Int) then ((impl_FirstFault.f k3 t380 t381 t385 (t392.take (t408 : Int).toNat)).bind fun bt426 => ((some (([] : List (S40)) : List (S40))).bind fun y428 => (if y428.length + t392.length < 8796093022208 then ((some (y428 ++ t392 : List (S40))).bind fun y431 => ((some (([(⟨1, 0⟩ : S40)] : List (S40)) : List (S40))).bind fun y434 => (if y431.length + y434.length < 8796093022208 then ((impl_FirstFault.f k3 t380 t381 t385 (y431 ++ y434)).bind fun bt440 => (if bt418.2 = 0 then (if bt418.1 = t408 then (if bt420.2 = 0 then (if bt420.1 = true then (laws_FnSaid.j3 k3 t385 (t385.length : Int) t408 true t380 t381) else (if bt426.2 = 0 then (if bt426.1 = t408 then (if bt440.2 = 0 then (laws_FnSaid.j3 k3 t385 (t385.length : Int) t408 (bt440.1 != (t385.length : Int)) t380 t381) else (laws_FnSaid.j3 k3 t385 (t385.length : Int) t408 true t380 t381)) else (laws_FnSaid.j3 k3 t385 (t385.length : Int) t408 true t380 t381)) else (laws_FnSaid.j3 k3 t385 (t385.length : Int) t408 true t380 t381))) else (laws_FnSaid.j3 k3 t385 (t385.length : Int) t408 true t380 t381)) else (laws_FnSaid.j3 k3 t385 (t385.length : Int) t408 true t380 t381)) else (laws_FnSaid.j3 k3 t385 (t385.length : Int) t408 true t380 t381))) else (none)))) else (none)))) else (none)))))) else (none)) else (none))) else (none)) = some r := by first | (rw [hy409]; with_reducible exact H) | (have H2_ := (Option.bind_some _ _).symm.trans H; rw [hy409]; with_reducible exact H2_) | (have H2_ := (Option.bind_some _ _).symm.trans H; with_reducible exact H2_) | with_reducible exact H | (rw [hy409]; exact H) | exact H
 have Ny409 := ak hy409
 clear hy409
 by_cases c55 : y409.length + t392.length < 8796093022208
 {
 rw [if_pos c55] at H
 have LMc55 := ak c55
 clear c55
 obtain ⟨y412, hy412⟩ : ∃ y_ : List (S40), y_ = (y409 ++ t392) := ⟨_, rfl⟩
 replace H : (if 0 ≤ t408 then (if t408 < (y412.length : Int) then ((spec_P6Pick.f l1 96).bind fun t416 => ((some (y412.set (t408 : Int).toNat (⟨(rd_T40 y412 t408).f0, Int.tmod (wrap64 ((wrap64 (((rd_T40 y412 t408).f1) + 1)) + t416)) 97⟩ : S40) : List (S40))).bind fun y417 => ((impl_FirstFault.f k3 t380 t381 t385 y417).bind fun bt418 => ((impl_CheckCount.f k3 t380 t381 t385 y417).bind fun bt420 => (if t408 ≤ (t392.length : Int) then ((impl_FirstFault.f k3 t380 t381 t385 (t392.take (t408 : Int).toNat)).bind fun bt426 => ((some (([] : List (S40)) : List (S40))).bind fun y428 => (if y428.length + t392.length < 8796093022208 then ((some (y428 ++ t392 : List (S40))).bind fun y431 => ((some (([(⟨1, 0⟩ : S40)] : List (S40)) : List (S40))).bind fun y434 => (if y431.length + y434.length < 8796093022208 then ((impl_FirstFault.f k3 t380 t381 t385 (y431 ++ y434)).bind fun bt440 => (if bt418.2 = 0 then (if bt418.1 = t408 then (if bt420.2 = 0 then (if bt420.1 = true then (laws_FnSaid.j3 k3 t385 (t385.length : Int) t408 true t380 t381) else (if bt426.2 = 0 then (if bt426.1 = t408 then (if bt440.2 = 0 then (laws_FnSaid.j3 k3 t385 (t385.length : Int) t408 (bt440.1 != (t385.length : Int)) t380 t381) else (laws_FnSaid.j3 k3 t385 (t385.length : Int) t408 true t380 t381)) else (laws_FnSaid.j3 k3 t385 (t385.length : Int) t408 true t380 t381)) else (laws_FnSaid.j3 k3 t385 (t385.length : Int) t408 true t380 t381))) else (laws_FnSaid.j3 k3 t385 (t385.length : Int) t408 true t380 t381)) else (laws_FnSaid.j3 k3 t385 (t385.length : Int) t408 true t380 t381)) else (laws_FnSaid.j3 k3 t385 (t385.length : Int) t408 true t380 t381))) else (none)))) else (none)))) else (none)))))) else (none)) else (none)) = some r := by first | (rw [hy412]; with_reducible exact H) | (have H2_ := (Option.bind_some _ _).symm.trans H; rw [hy412]; with_reducible exact H2_) | (have H2_ := (Option.bind_some _ _).symm.trans H; with_reducible exact H2_) | with_reducible exact H | (rw [hy412]; exact H) | exact H
 have Ny412 := ak hy412
 clear hy412
 by_cases c56 : 0 ≤ t408
 {
 rw [if_pos c56] at H
 have c56b0 : decide (0 ≤ t408) = true := decide_eq_true c56
 clear c56
 by_cases c57 : t408 < (y412.length : Int)
 {
 rw [if_pos c57] at H
 have c57b0 : decide (t408 < (y412.length : Int)) = true := decide_eq_true c57
 clear c57
 replace H := Option.bind_eq_some_iff.mp H
 obtain ⟨t416, A580, H⟩ := H
 replace H : ((some (y412.set (t408 : Int).toNat (⟨(rd_T40 y412 t408).f0, Int.tmod (wrap64 ((wrap64 (((rd_T40 y412 t408).f1) + 1)) + t416)) 97⟩ : S40) : List (S40))).bind fun y417 => ((impl_FirstFault.f k3 t380 t381 t385 y417).bind fun bt418 => ((impl_CheckCount.f k3 t380 t381 t385 y417).bind fun bt420 => (if t408 ≤ (t392.length : Int) then ((impl_FirstFault.f k3 t380 t381 t385 (t392.take (t408 : Int).toNat)).bind fun bt426 => ((some (([] : List (S40)) : List (S40))).bind fun y428 => (if y428.length + t392.length < 8796093022208 then ((some (y428 ++ t392 : List (S40))).bind fun y431 => ((some (([(⟨1, 0⟩ : S40)] : List (S40)) : List (S40))).bind fun y434 => (if y431.length + y434.length < 8796093022208 then ((impl_FirstFault.f k3 t380 t381 t385 (y431 ++ y434)).bind fun bt440 => (if bt418.2 = 0 then (if bt418.1 = t408 then (if bt420.2 = 0 then (if bt420.1 = true then (laws_FnSaid.j3 k3 t385 (t385.length : Int) t408 true t380 t381) else (if bt426.2 = 0 then (if bt426.1 = t408 then (if bt440.2 = 0 then (laws_FnSaid.j3 k3 t385 (t385.length : Int) t408 (bt440.1 != (t385.length : Int)) t380 t381) else (laws_FnSaid.j3 k3 t385 (t385.length : Int) t408 true t380 t381)) else (laws_FnSaid.j3 k3 t385 (t385.length : Int) t408 true t380 t381)) else (laws_FnSaid.j3 k3 t385 (t385.length : Int) t408 true t380 t381))) else (laws_FnSaid.j3 k3 t385 (t385.length : Int) t408 true t380 t381)) else (laws_FnSaid.j3 k3 t385 (t385.length : Int) t408 true t380 t381)) else (laws_FnSaid.j3 k3 t385 (t385.length : Int) t408 true t380 t381))) else (none)))) else (none)))) else (none))))) = some r := H
 have A58 := ak A580
 clear A580
 obtain ⟨y417, hy417⟩ : ∃ y_ : List (S40), y_ = (y412.set (t408 : Int).toNat (⟨(rd_T40 y412 t408).f0, Int.tmod (wrap64 ((wrap64 (((rd_T40 y412 t408).f1) + 1)) + t416)) 97⟩ : S40)) := ⟨_, rfl⟩
 replace H : ((impl_FirstFault.f k3 t380 t381 t385 y417).bind fun bt418 => ((impl_CheckCount.f k3 t380 t381 t385 y417).bind fun bt420 => (if t408 ≤ (t392.length : Int) then ((impl_FirstFault.f k3 t380 t381 t385 (t392.take (t408 : Int).toNat)).bind fun bt426 => ((some (([] : List (S40)) : List (S40))).bind fun y428 => (if y428.length + t392.length < 8796093022208 then ((some (y428 ++ t392 : List (S40))).bind fun y431 => ((some (([(⟨1, 0⟩ : S40)] : List (S40)) : List (S40))).bind fun y434 => (if y431.length + y434.length < 8796093022208 then ((impl_FirstFault.f k3 t380 t381 t385 (y431 ++ y434)).bind fun bt440 => (if bt418.2 = 0 then (if bt418.1 = t408 then (if bt420.2 = 0 then (if bt420.1 = true then (laws_FnSaid.j3 k3 t385 (t385.length : Int) t408 true t380 t381) else (if bt426.2 = 0 then (if bt426.1 = t408 then (if bt440.2 = 0 then (laws_FnSaid.j3 k3 t385 (t385.length : Int) t408 (bt440.1 != (t385.length : Int)) t380 t381) else (laws_FnSaid.j3 k3 t385 (t385.length : Int) t408 true t380 t381)) else (laws_FnSaid.j3 k3 t385 (t385.length : Int) t408 true t380 t381)) else (laws_FnSaid.j3 k3 t385 (t385.length : Int) t408 true t380 t381))) else (laws_FnSaid.j3 k3 t385 (t385.length : Int) t408 true t380 t381)) else (laws_FnSaid.j3 k3 t385 (t385.length : Int) t408 true t380 t381)) else (laws_FnSaid.j3 k3 t385 (t385.length : Int) t408 true t380 t381))) else (none)))) else (none)))) else (none)))) = some r := by first | (rw [hy417]; with_reducible exact H) | (have H2_ := (Option.bind_some _ _).symm.trans H; rw [hy417]; with_reducible exact H2_) | (have H2_ := (Option.bind_some _ _).symm.trans H; with_reducible exact H2_) | with_reducible exact H | (rw [hy417]; exact H) | exact H
 have Ny417 := ak hy417
 clear hy417
 replace H := Option.bind_eq_some_iff.mp H
 obtain ⟨⟨t418, t419⟩, A600, H⟩ := H
 replace H : ((impl_CheckCount.f k3 t380 t381 t385 y417).bind fun bt420 => (if t408 ≤ (t392.length : Int) then ((impl_FirstFault.f k3 t380 t381 t385 (t392.take (t408 : Int).toNat)).bind fun bt426 => ((some (([] : List (S40)) : List (S40))).bind fun y428 => (if y428.length + t392.length < 8796093022208 then ((some (y428 ++ t392 : List (S40))).bind fun y431 => ((some (([(⟨1, 0⟩ : S40)] : List (S40)) : List (S40))).bind fun y434 => (if y431.length + y434.length < 8796093022208 then ((impl_FirstFault.f k3 t380 t381 t385 (y431 ++ y434)).bind fun bt440 => (if t419 = 0 then (if t418 = t408 then (if bt420.2 = 0 then (if bt420.1 = true then (laws_FnSaid.j3 k3 t385 (t385.length : Int) t408 true t380 t381) else (if bt426.2 = 0 then (if bt426.1 = t408 then (if bt440.2 = 0 then (laws_FnSaid.j3 k3 t385 (t385.length : Int) t408 (bt440.1 != (t385.length : Int)) t380 t381) else (laws_FnSaid.j3 k3 t385 (t385.length : Int) t408 true t380 t381)) else (laws_FnSaid.j3 k3 t385 (t385.length : Int) t408 true t380 t381)) else (laws_FnSaid.j3 k3 t385 (t385.length : Int) t408 true t380 t381))) else (laws_FnSaid.j3 k3 t385 (t385.length : Int) t408 true t380 t381)) else (laws_FnSaid.j3 k3 t385 (t385.length : Int) t408 true t380 t381)) else (laws_FnSaid.j3 k3 t385 (t385.length : Int) t408 true t380 t381))) else (none)))) else (none)))) else (none))) = some r := H
 have A60 := ak A600
 clear A600
 replace H := Option.bind_eq_some_iff.mp H
 obtain ⟨⟨t420, t421⟩, A610, H⟩ := H
 replace H : (if t408 ≤ (t392.length : Int) then ((impl_FirstFault.f k3 t380 t381 t385 (t392.take (t408 : Int).toNat)).bind fun bt426 => ((some (([] : List (S40)) : List (S40))).bind fun y428 => (if y428.length + t392.length < 8796093022208 then ((some (y428 ++ t392 : List (S40))).bind fun y431 => ((some (([(⟨1, 0⟩ : S40)] : List (S40)) : List (S40))).bind fun y434 => (if y431.length + y434.length < 8796093022208 then ((impl_FirstFault.f k3 t380 t381 t385 (y431 ++ y434)).bind fun bt440 => (if t419 = 0 then (if t418 = t408 then (if t421 = 0 then (if t420 = true then (laws_FnSaid.j3 k3 t385 (t385.length : Int) t408 true t380 t381) else (if bt426.2 = 0 then (if bt426.1 = t408 then (if bt440.2 = 0 then (laws_FnSaid.j3 k3 t385 (t385.length : Int) t408 (bt440.1 != (t385.length : Int)) t380 t381) else (laws_FnSaid.j3 k3 t385 (t385.length : Int) t408 true t380 t381)) else (laws_FnSaid.j3 k3 t385 (t385.length : Int) t408 true t380 t381)) else (laws_FnSaid.j3 k3 t385 (t385.length : Int) t408 true t380 t381))) else (laws_FnSaid.j3 k3 t385 (t385.length : Int) t408 true t380 t381)) else (laws_FnSaid.j3 k3 t385 (t385.length : Int) t408 true t380 t381)) else (laws_FnSaid.j3 k3 t385 (t385.length : Int) t408 true t380 t381))) else (none)))) else (none)))) else (none)) = some r := H
 have A61 := ak A610
 clear A610
 have c62b0 := eq_true (of_decide_eq_true (by first | (with_reducible assumption) | assumption) : 0 ≤ t408)
 by_cases c63 : t408 ≤ (t392.length : Int)
 {
 rw [if_pos c63] at H
 have c63b0 := eq_true c63
 have c63b1 : decide (t408 ≤ (t392.length : Int)) = true := decide_eq_true c63
 clear c63
 obtain ⟨y422, hy422⟩ : ∃ y_ : List (S40), y_ = (t392.take (t408 : Int).toNat) := ⟨_, rfl⟩
 replace H : ((impl_FirstFault.f k3 t380 t381 t385 y422).bind fun bt426 => ((some (([] : List (S40)) : List (S40))).bind fun y428 => (if y428.length + t392.length < 8796093022208 then ((some (y428 ++ t392 : List (S40))).bind fun y431 => ((some (([(⟨1, 0⟩ : S40)] : List (S40)) : List (S40))).bind fun y434 => (if y431.length + y434.length < 8796093022208 then ((impl_FirstFault.f k3 t380 t381 t385 (y431 ++ y434)).bind fun bt440 => (if t419 = 0 then (if t418 = t408 then (if t421 = 0 then (if t420 = true then (laws_FnSaid.j3 k3 t385 (t385.length : Int) t408 true t380 t381) else (if bt426.2 = 0 then (if bt426.1 = t408 then (if bt440.2 = 0 then (laws_FnSaid.j3 k3 t385 (t385.length : Int) t408 (bt440.1 != (t385.length : Int)) t380 t381) else (laws_FnSaid.j3 k3 t385 (t385.length : Int) t408 true t380 t381)) else (laws_FnSaid.j3 k3 t385 (t385.length : Int) t408 true t380 t381)) else (laws_FnSaid.j3 k3 t385 (t385.length : Int) t408 true t380 t381))) else (laws_FnSaid.j3 k3 t385 (t385.length : Int) t408 true t380 t381)) else (laws_FnSaid.j3 k3 t385 (t385.length : Int) t408 true t380 t381)) else (laws_FnSaid.j3 k3 t385 (t385.length : Int) t408 true t380 t381))) else (none)))) else (none)))) = some r := by first | (rw [hy422]; with_reducible exact H) | (have H2_ := (Option.bind_some _ _).symm.trans H; rw [hy422]; with_reducible exact H2_) | (have H2_ := (Option.bind_some _ _).symm.trans H; with_reducible exact H2_) | with_reducible exact H | (rw [hy422]; exact H) | exact H
 have Ny422 := ak hy422
 clear hy422
 replace H := Option.bind_eq_some_iff.mp H
 obtain ⟨⟨t426, t427⟩, A640, H⟩ := H
 replace H : ((some (([] : List (S40)) : List (S40))).bind fun y428 => (if y428.length + t392.length < 8796093022208 then ((some (y428 ++ t392 : List (S40))).bind fun y431 => ((some (([(⟨1, 0⟩ : S40)] : List (S40)) : List (S40))).bind fun y434 => (if y431.length + y434.length < 8796093022208 then ((impl_FirstFault.f k3 t380 t381 t385 (y431 ++ y434)).bind fun bt440 => (if t419 = 0 then (if t418 = t408 then (if t421 = 0 then (if t420 = true then (laws_FnSaid.j3 k3 t385 (t385.length : Int) t408 true t380 t381) else (if t427 = 0 then (if t426 = t408 then (if bt440.2 = 0 then (laws_FnSaid.j3 k3 t385 (t385.length : Int) t408 (bt440.1 != (t385.length : Int)) t380 t381) else (laws_FnSaid.j3 k3 t385 (t385.length : Int) t408 true t380 t381)) else (laws_FnSaid.j3 k3 t385 (t385.length : Int) t408 true t380 t381)) else (laws_FnSaid.j3 k3 t385 (t385.length : Int) t408 true t380 t381))) else (laws_FnSaid.j3 k3 t385 (t385.length : Int) t408 true t380 t381)) else (laws_FnSaid.j3 k3 t385 (t385.length : Int) t408 true t380 t381)) else (laws_FnSaid.j3 k3 t385 (t385.length : Int) t408 true t380 t381))) else (none)))) else (none))) = some r := H
 have A64 := ak A640
 clear A640
 obtain ⟨y428, hy428⟩ : ∃ y_ : List (S40), y_ = (([] : List (S40))) := ⟨_, rfl⟩
 replace H : (if y428.length + t392.length < 8796093022208 then ((some (y428 ++ t392 : List (S40))).bind fun y431 => ((some (([(⟨1, 0⟩ : S40)] : List (S40)) : List (S40))).bind fun y434 => (if y431.length + y434.length < 8796093022208 then ((impl_FirstFault.f k3 t380 t381 t385 (y431 ++ y434)).bind fun bt440 => (if t419 = 0 then (if t418 = t408 then (if t421 = 0 then (if t420 = true then (laws_FnSaid.j3 k3 t385 (t385.length : Int) t408 true t380 t381) else (if t427 = 0 then (if t426 = t408 then (if bt440.2 = 0 then (laws_FnSaid.j3 k3 t385 (t385.length : Int) t408 (bt440.1 != (t385.length : Int)) t380 t381) else (laws_FnSaid.j3 k3 t385 (t385.length : Int) t408 true t380 t381)) else (laws_FnSaid.j3 k3 t385 (t385.length : Int) t408 true t380 t381)) else (laws_FnSaid.j3 k3 t385 (t385.length : Int) t408 true t380 t381))) else (laws_FnSaid.j3 k3 t385 (t385.length : Int) t408 true t380 t381)) else (laws_FnSaid.j3 k3 t385 (t385.length : Int) t408 true t380 t381)) else (laws_FnSaid.j3 k3 t385 (t385.length : Int) t408 true t380 t381))) else (none)))) else (none)) = some r := by first | (rw [hy428]; with_reducible exact H) | (have H2_ := (Option.bind_some _ _).symm.trans H; rw [hy428]; with_reducible exact H2_) | (have H2_ := (Option.bind_some _ _).symm.trans H; with_reducible exact H2_) | with_reducible exact H | (rw [hy428]; exact H) | exact H
 have Ny428 := ak hy428
 clear hy428
 by_cases c65 : y428.length + t392.length < 8796093022208
 {
 rw [if_pos c65] at H
 have LMc65 := ak c65
 clear c65
 obtain ⟨y431, hy431⟩ : ∃ y_ : List (S40), y_ = (y428 ++ t392) := ⟨_, rfl⟩
 replace H : ((some (([(⟨1, 0⟩ : S40)] : List (S40)) : List (S40))).bind fun y434 => (if y431.length + y434.length < 8796093022208 then ((impl_FirstFault.f k3 t380 t381 t385 (y431 ++ y434)).bind fun bt440 => (if t419 = 0 then (if t418 = t408 then (if t421 = 0 then (if t420 = true then (laws_FnSaid.j3 k3 t385 (t385.length : Int) t408 true t380 t381) else (if t427 = 0 then (if t426 = t408 then (if bt440.2 = 0 then (laws_FnSaid.j3 k3 t385 (t385.length : Int) t408 (bt440.1 != (t385.length : Int)) t380 t381) else (laws_FnSaid.j3 k3 t385 (t385.length : Int) t408 true t380 t381)) else (laws_FnSaid.j3 k3 t385 (t385.length : Int) t408 true t380 t381)) else (laws_FnSaid.j3 k3 t385 (t385.length : Int) t408 true t380 t381))) else (laws_FnSaid.j3 k3 t385 (t385.length : Int) t408 true t380 t381)) else (laws_FnSaid.j3 k3 t385 (t385.length : Int) t408 true t380 t381)) else (laws_FnSaid.j3 k3 t385 (t385.length : Int) t408 true t380 t381))) else (none))) = some r := by first | (rw [hy431]; with_reducible exact H) | (have H2_ := (Option.bind_some _ _).symm.trans H; rw [hy431]; with_reducible exact H2_) | (have H2_ := (Option.bind_some _ _).symm.trans H; with_reducible exact H2_) | with_reducible exact H | (rw [hy431]; exact H) | exact H
 have Ny431 := ak hy431
 clear hy431
 obtain ⟨y434, hy434⟩ : ∃ y_ : List (S40), y_ = (([(⟨1, 0⟩ : S40)] : List (S40))) := ⟨_, rfl⟩
 replace H : (if y431.length + y434.length < 8796093022208 then ((impl_FirstFault.f k3 t380 t381 t385 (y431 ++ y434)).bind fun bt440 => (if t419 = 0 then (if t418 = t408 then (if t421 = 0 then (if t420 = true then (laws_FnSaid.j3 k3 t385 (t385.length : Int) t408 true t380 t381) else (if t427 = 0 then (if t426 = t408 then (if bt440.2 = 0 then (laws_FnSaid.j3 k3 t385 (t385.length : Int) t408 (bt440.1 != (t385.length : Int)) t380 t381) else (laws_FnSaid.j3 k3 t385 (t385.length : Int) t408 true t380 t381)) else (laws_FnSaid.j3 k3 t385 (t385.length : Int) t408 true t380 t381)) else (laws_FnSaid.j3 k3 t385 (t385.length : Int) t408 true t380 t381))) else (laws_FnSaid.j3 k3 t385 (t385.length : Int) t408 true t380 t381)) else (laws_FnSaid.j3 k3 t385 (t385.length : Int) t408 true t380 t381)) else (laws_FnSaid.j3 k3 t385 (t385.length : Int) t408 true t380 t381))) else (none)) = some r := by first | (rw [hy434]; with_reducible exact H) | (have H2_ := (Option.bind_some _ _).symm.trans H; rw [hy434]; with_reducible exact H2_) | (have H2_ := (Option.bind_some _ _).symm.trans H; with_reducible exact H2_) | with_reducible exact H | (rw [hy434]; exact H) | exact H
 have Ny434 := ak hy434
 clear hy434
 by_cases c66 : y431.length + y434.length < 8796093022208
 {
 rw [if_pos c66] at H
 have LMc66 := ak c66
 clear c66
 obtain ⟨y437, hy437⟩ : ∃ y_ : List (S40), y_ = (y431 ++ y434) := ⟨_, rfl⟩
 replace H : ((impl_FirstFault.f k3 t380 t381 t385 y437).bind fun bt440 => (if t419 = 0 then (if t418 = t408 then (if t421 = 0 then (if t420 = true then (laws_FnSaid.j3 k3 t385 (t385.length : Int) t408 true t380 t381) else (if t427 = 0 then (if t426 = t408 then (if bt440.2 = 0 then (laws_FnSaid.j3 k3 t385 (t385.length : Int) t408 (bt440.1 != (t385.length : Int)) t380 t381) else (laws_FnSaid.j3 k3 t385 (t385.length : Int) t408 true t380 t381)) else (laws_FnSaid.j3 k3 t385 (t385.length : Int) t408 true t380 t381)) else (laws_FnSaid.j3 k3 t385 (t385.length : Int) t408 true t380 t381))) else (laws_FnSaid.j3 k3 t385 (t385.length : Int) t408 true t380 t381)) else (laws_FnSaid.j3 k3 t385 (t385.length : Int) t408 true t380 t381)) else (laws_FnSaid.j3 k3 t385 (t385.length : Int) t408 true t380 t381))) = some r := by first | (rw [hy437]; with_reducible exact H) | (have H2_ := (Option.bind_some _ _).symm.trans H; rw [hy437]; with_reducible exact H2_) | (have H2_ := (Option.bind_some _ _).symm.trans H; with_reducible exact H2_) | with_reducible exact H | (rw [hy437]; exact H) | exact H
 have Ny437 := ak hy437
 clear hy437
 replace H := Option.bind_eq_some_iff.mp H
 obtain ⟨⟨t440, t441⟩, A670, H⟩ := H
 replace H : (if t419 = 0 then (if t418 = t408 then (if t421 = 0 then (if t420 = true then (laws_FnSaid.j3 k3 t385 (t385.length : Int) t408 true t380 t381) else (if t427 = 0 then (if t426 = t408 then (if t441 = 0 then (laws_FnSaid.j3 k3 t385 (t385.length : Int) t408 (t440 != (t385.length : Int)) t380 t381) else (laws_FnSaid.j3 k3 t385 (t385.length : Int) t408 true t380 t381)) else (laws_FnSaid.j3 k3 t385 (t385.length : Int) t408 true t380 t381)) else (laws_FnSaid.j3 k3 t385 (t385.length : Int) t408 true t380 t381))) else (laws_FnSaid.j3 k3 t385 (t385.length : Int) t408 true t380 t381)) else (laws_FnSaid.j3 k3 t385 (t385.length : Int) t408 true t380 t381)) else (laws_FnSaid.j3 k3 t385 (t385.length : Int) t408 true t380 t381)) = some r := H
 have A67 := ak A670
 clear A670
 have HC68 := ak H
 clear H
 try go_wp2_with (first | ((with_reducible refine gate_callee (f := 13) rfl ?_); refine goesL_ (some 163) rfl rfl Try.func13 (by kernel_rfl) rfl #[.slice A0 l0.length c0, .int .i64 (t385.length : Int)] rfl gl_ ?_; (with_reducible refine (spec_P6Pick.calls _ _ l0 (t385.length : Int) t408 _ ?side1 ?side2 A54.out).mono ?_); (case side1 => repeat (first | exact (Kd.C_below HR0.out HB.out) | (with_reducible refine Kd.C_alloc ?_ _) | (with_reducible refine Kd.C_drewN ?_ _) | (with_reducible refine Kd.C_drew ?_))); (case side2 => exact HC0.out); rintro e w69 ⟨rfl, hb⟩; refine ⟨_, rfl, ?_⟩; have n0_ := ak (Kd.R_below (zR HO_6.out) hb); have n1_ := ak (Kd.R_below (zR HO_9.out) hb); have n2_ := ak (Kd.R_below (zR HO_385001.out) hb); have n3_ := ak (blk_below (g := gb384) (o := .cells #[.int .i16 t380, .slice Ao18 t381.length co18] 27 (0, 0)) (zK BK384.out) hb); have n4_ := ak (below_step (zBG HB.out GE384.out) hb); clear HO_6 HO_9 HO_385001 BK384 HB; have HO_6 := n0_; have HO_9 := n1_; have HO_385001 := n2_; have BK384 := n3_; have HB := n4_; clear n0_ n1_ n2_ n3_ n4_; (try clear hb); (try clear hb2); (try clear hk); (try clear hi)) | ((with_reducible refine gate_dst (N := 164) rfl ?_); (try (refine gate_guard (by rfl) ?_; dsimp only)); refine Kd.R_lit k40 _ 40 ?hg (N := 164) ?hd (xs := ([] : List (S40))) (inner := []) (ok := fun _ => True) (okp := fun _ => True) ?hr ?hp (fun _ hk => hk) trivial (Below.refl _ _) (Nat.le_refl _) (by simp) ?_; (case hd => rfl); (case hg => rfl); (case hr => first | (go_simp; done) | (go_simp; rfl)); (case hp => exact (Reps.none _ _)); intro v410 w70 ho71 hb hg_ hnew_; clear hg_ hnew_; (first | rw [← Ny409.out] at ho71 | (simp only [Int.reduceToNat] at ho71; rw [← Ny409.out] at ho71)); have n0_ := ak (Kd.R_below (zR HO_6.out) hb); have n1_ := ak (Kd.R_elder' (zR HO_9.out) (Kd.R_base ho71) hb); have n2_ := ak (Kd.R_below (zR HO_385001.out) hb); have n3_ := ak (Kd.R_lower (Kd.R_new' ho71 (Kd.R_lt (zR HO_9.out))) (below_size (zBG HB.out GE384.out))); have n4_ := ak (blk_below (g := gb384) (o := .cells #[.int .i16 t380, .slice Ao18 t381.length co18] 27 (0, 0)) (zK BK384.out) hb); have n5_ := ak (below_step (zBG HB.out GE384.out) hb); clear HO_6 HO_9 HO_385001 BK384 HB; have HO_6 := n0_; have HO_9 := n1_; have HO_385001 := n2_; have HO411 := n3_; have BK384 := n4_; have HB := n5_; clear n0_ n1_ n2_ n3_ n4_ n5_; clear hb ho71) | ((with_reducible refine gate_builtin (b := .append) (xs := #[.tmp 164, .tmp 165]) rfl ?_); (try (refine gate_guard (by rfl) ?_; dsimp only)); at_builtin; refine Kd.R_append_rows k40 (w0 := w) w.heap.size rfl (.tmp 164) (.tmp 165) 31 40 (.agg #[(.int .i64 0), (.int .i64 0)]) 16 rfl Try.underlying31 info40 rfl (by decide) (by omega) v410 y409 t392 _ _ _ (fun k_ => some k_ ≠ (.slice Ao26 t392.length co26 : Value).ownBlock) (fun _ => False) rfl rfl ?aO ?aR (fun _ _ h => h) (fun _ h => h.elim) ?aF ?aB ?aS ?aL ?_; (case aR => exact zC (Kd.R_reads' HO_9.out).2.2); (case aB => exact (zBG HB.out GE384.out)); (case aF => exact (fun k_ hk => Kd.fresh' (Kd.R_lt (zR HO_9.out)) k_ hk)); (case aO => exact (by (with_reducible repeat (first | apply Kd.R_alloc | apply Kd.R_drewN | apply Kd.R_drew)); exact Kd.R_mono HO411.out (fun _ hk => hk.2))); (case aS => exact (below_size (zBG HB.out GE384.out))); (case aL => have := LMc55.out; omega); intro v413 w72 ho hb hg hat; rw [← Ny412.out] at ho; have n0_ := ak (Kd.R_over' (zR HO_6.out) (Kd.R_typed (zR HO411.out)) (by decide) hg); have n1_ := ak (Kd.R_after (ok := (fun _ => True)) (zR HO_9.out) hg hat); have n2_ := ak (Kd.R_over' (zR HO_385001.out) (Kd.R_typed (zR HO411.out)) (by decide) hg); have n3_ := ak (blk_grown (g := gb384) (o := .cells #[.int .i16 t380, .slice Ao18 t381.length co18] 27 (0, 0)) (zK BK384.out) hg (Kd.R_ne HO411.out BK384.out (by decide))); have n4_ := ak (hb); have n5_ := ak (ho); clear HO_6 HO_9 HO_385001 BK384 HB HO411; have HO_6 := n0_; have HO_9 := n1_; have HO_385001 := n2_; have BK384 := n3_; have HB := n4_; have HO414 := n5_; clear n0_ n1_ n2_ n3_ n4_ n5_; clear ho hb hg hat))
 have n0_ := ak (Kd.R_drew HO_6.out)
 have n1_ := ak (Kd.R_drew HO_9.out)
 have n2_ := ak (Kd.R_drew HO_385001.out)
 have n3_ := ak (Kd.R_drew HO414.out)
 have n4_ := ak (blk_drew BK384.out)
 have n5_ := ak (below_drew1 HB.out)
 clear HO_6 HO_9 HO_385001 HO414 BK384 HB
 have HO_6 := n0_
 have HO_9 := n1_
 have HO_385001 := n2_
 have HO414 := n3_
 have BK384 := n4_
 have HB := n5_
 clear n0_ n1_ n2_ n3_ n4_ n5_
 obtain ⟨Ao74, co74, eo74⟩ := Kd.R_slice HO414.out
 (first | subst eo74 | (injection eo74 with f1_ f2_ f3_; have f4_ := f1_.symm; have f5_ := f3_.symm; clear f1_ f2_ f3_; subst f4_; subst f5_))
 have p415 : 0 ≤ (t408 : Int) := of_decide_eq_true (by first | (with_reducible assumption) | assumption)
 have q415 : t408 < (y412.length : Int) := of_decide_eq_true (by first | (with_reducible assumption) | assumption)
 obtain ⟨ad415, e415, hx415_0, hx415_1⟩ := at_T40 (Kd.R_reads' HO414.out).2.2 t408 p415 q415
 cases e415
 replace p415 := eq_true p415
 replace q415 := eq_true q415
 refine start_ (n := 15) (S := fun w' => w'.cell? (ad415.add ((t408).toNat * 2)) = some (.int .i64 ((rd_T40 y412 t408).f0)) ∧ w'.cell? ⟨(ad415.add ((t408).toNat * 2)).block, (ad415.add ((t408).toNat * 2)).off + 1, none⟩ = some (.int .i64 ((rd_T40 y412 t408).f1))) (ds := [14]) (bA 15 0) (by kernel_rfl) rfl rfl ⟨hx415_0, hx415_1⟩ (fun hHeld => ?_); refine with_tabW laws_FnSaid.tab22 laws_FnSaid.bits22 (fun HT_ HW_ => ?_)
 generalize w72.drew = w73 at HO_6 HO_9 HO_385001 HO414 BK384 HB hx415_0 hx415_1 hHeld ⊢
 refine pure_ (i := 0) (N := some 167) (v := ?_) (a' := ?_) (bA 15 1) rfl rfl (any_of HT_.out (by kernel_rfl)) (fun _ _ _ h => h) (Or.inl ⟨by rfl, ?_⟩) ?_ ?_
 rotate_left
 {
 intro w'
 go_simp
 with_reducible rfl
 }
 rotate_left
 · exact pt_
 refine pure_ (i := 1) (N := some 168) (v := ?_) (a' := ?_) (bA 15 3) rfl rfl (any_of HT_.out (by kernel_rfl)) (fun _ _ _ h => h) (Or.inl ⟨by rfl, ?_⟩) ?_ ?_
 rotate_left
 {
 intro w'
 go_simp
 with_reducible rfl
 }
 rotate_left
 · exact pt_
 refine pure_ (i := 2) (N := some 169) (v := ?_) (a' := ?_) (bA 15 7) rfl rfl (any_of HT_.out (by kernel_rfl)) (fun _ _ _ h => h) (Or.inl ⟨by rfl, ?_⟩) ?_ ?_
 rotate_left
 {
 intro w'
 go_simp
 with_reducible rfl
 }
 rotate_left
 · exact pt_
 refine pure_ (i := 3) (N := some 170) (v := ?_) (a' := ?_) (bA 15 15) rfl rfl (any_of HT_.out (by kernel_rfl)) (fun _ _ _ h => h) (Or.inl ⟨by rfl, ?_⟩) ?_ ?_
 rotate_left
 {
 intro w'
 go_simp
 with_reducible rfl
 }
 rotate_left
 · exact pt_
 refine pure_ (i := 4) (N := some 171) (v := ?_) (a' := ?_) (bA 15 31) rfl rfl (any_of HT_.out (by kernel_rfl)) (fun _ _ _ h => h) (Or.inl ⟨by rfl, ?_⟩) ?_ ?_
 rotate_left
 {
 intro w'
 go_simp
 with_reducible rfl
 }
 rotate_left
 · exact pt_
 refine pure_ (i := 5) (N := some 172) (v := ?_) (a' := ?_) (bA 15 63) rfl rfl (any_of HT_.out (by kernel_rfl)) (fun _ _ _ h => h) (Or.inl ⟨by rfl, ?_⟩) ?_ ?_
 rotate_left
 {
 intro w'
 go_simp
 with_reducible rfl
 }
 rotate_left
 · exact pt_
 refine pure_ (i := 8) (N := some 175) (v := ?_) (a' := ?_) (bA 15 319) rfl rfl (any_of HT_.out (by kernel_rfl)) (fun _ _ _ h => h) (Or.inl ⟨by rfl, ?_⟩) ?_ ?_
 rotate_left
 {
 intro w'
 go_simp
 with_reducible rfl
 }
 rotate_left
 · exact pt_
 refine take_ (i := 6) (N := some 173) (v := ?_) (a' := ?_) (bA 15 383) rfl rfl (take_ofW HT_.out HW_.out (by kernel_rfl)) (fun _ _ _ h => h) (Or.inl ⟨by rfl, ?_⟩) hHeld ?_ ?_
 rotate_left
 {
 rintro w' ⟨s0, s1⟩
 go_simp
 with_reducible rfl
 }
 rotate_left
 · exact pt_
 refine pure_ (i := 7) (N := some 174) (v := ?_) (a' := ?_) (bA 15 511) rfl rfl (any_of HT_.out (by kernel_rfl)) (fun _ _ _ h => h) (Or.inl ⟨by rfl, ?_⟩) ?_ ?_
 rotate_left
 {
 intro w'
 go_simp
 with_reducible rfl
 }
 rotate_left
 · exact pt_
 refine one_ (i := 9) (N := some 176) (bA 15 1023) rfl rfl (one_of HT_.out (by kernel_rfl)) (by decide) (fun K hK => ?_)
 refine goes_ Try.func13 (by kernel_rfl) rfl #[.slice A1 l1.length c1, .int .i64 96] (by rfl) rfl rfl gl_ ?_
 with_reducible refine (spec_P6Pick.calls _ _ l1 96 t416 _ ?side1 ?side2 A58.out).mono ?_
 (case side1 => repeat (first | exact (Kd.C_below HR1.out HB.out) | (with_reducible refine Kd.C_alloc ?_ _) | (with_reducible refine Kd.C_drewN ?_ _) | (with_reducible refine Kd.C_drew ?_)))
 (case side2 => exact HC1.out)
 rintro e w75 ⟨rfl, hb⟩
 have HS0_ := (hb.cell (World.block_lt_of_cell? _ _ (hHeld.1))).trans (hHeld.1)
 have HS1_ := (hb.cell (World.block_lt_of_cell? _ _ (hHeld.2))).trans (hHeld.2)
 refine ⟨_, rfl, ?_⟩
 have n0_ := ak (Kd.R_below (zR HO_6.out) hb)
 have n1_ := ak (Kd.R_below (zR HO_9.out) hb)
 have n2_ := ak (Kd.R_below (zR HO_385001.out) hb)
 have n3_ := ak (Kd.R_below (zR HO414.out) hb)
 have n4_ := ak (blk_below (g := gb384) (o := .cells #[.int .i16 t380, .slice Ao18 t381.length co18] 27 (0, 0)) (zK BK384.out) hb)
 have n5_ := ak (below_step (zBG HB.out GE384.out) hb)
 clear HO_6 HO_9 HO_385001 HO414 BK384 HB
 have HO_6 := n0_
 have HO_9 := n1_
 have HO_385001 := n2_
 have HO414 := n3_
 have BK384 := n4_
 have HB := n5_
 clear n0_ n1_ n2_ n3_ n4_ n5_
 (try clear hb)
 (try clear hb2)
 (try clear hk)
 (try clear hi)
 have p59 : 0 ≤ (t408 : Int) := of_decide_eq_true (by first | (with_reducible assumption) | assumption)
 have q59 : (t408 : Int) < ((y412.length : Int) : Int) := of_decide_eq_true (by first | (with_reducible assumption) | assumption)
 obtain ⟨go59, co59, eo59, gb59, gl59, cl59, HG59⟩ := Kd.R_form HO414.out (by omega)
 (first | cases eo59 | (injection eo59 with ea_ en_ ec_; (first | subst ea_ | (injection ea_ with ea_; subst ea_)); subst ec_; clear en_))
 have GB59 := ak gb59
 have GG59 := ak HG59
 clear gb59 gl59 HG59
 (first | simp only [add_plain] at hx415_0 | skip)
 (first | simp only [add_plain] at hx415_1 | skip)
 obtain ⟨ce59, hcl59, hM59, hcc59, hfr59⟩ := Kd.R_elem HO414.out z40 (t408 : Int) p59 q59
 obtain rfl := k40_openM hM59
 have hx59_0 : World.cell? _ ⟨go59, (t408 : Int).toNat * 2, none⟩ = some (.int .i64 ((rd_T40 y412 t408).f0)) := hcc59 0 _ rfl
 have hx59_1 : World.cell? _ ⟨go59, (t408 : Int).toNat * 2 + 1, none⟩ = some (.int .i64 ((rd_T40 y412 t408).f1)) := hcc59 1 _ rfl
 have hf59_0 : World.frozen? _ ⟨go59, (t408 : Int).toNat * 2, none⟩ = false := hfr59 0
 have hf59_1 : World.frozen? _ ⟨go59, (t408 : Int).toNat * 2 + 1, none⟩ = false := hfr59 1
 (try simp only [show k40.sz = 2 from rfl, Nat.mul_one, Nat.add_zero, World.setCells] at hx59_0 hf59_0 hx59_1 hf59_1)
 clear hcl59 hcc59 hfr59 hM59
 replace p59 := eq_true p59
 replace q59 := eq_true q59
 obtain ⟨ce76, hcl76, hM76, hcc76, hfr76⟩ := Kd.R_elem HO414.out z40 (t408 : Int) (of_decide_eq_true (by first | (with_reducible assumption) | assumption)) (by have h_ : (t408 : Int) < ((y412.length : Int) : Int) := of_decide_eq_true (by first | (with_reducible assumption) | assumption); first | exact h_ | (have e_ := (Kd.R_reads' HO414.out).1; omega) | simpa using h_)
 obtain rfl := k40_openM hM76
 have HP76 := (Kd.R_seg HO414.out (t408 : Int) (of_decide_eq_true (by first | (with_reducible assumption) | assumption)) (by have h_ : (t408 : Int) < ((y412.length : Int) : Int) := of_decide_eq_true (by first | (with_reducible assumption) | assumption); first | exact h_ | (have e_ := (Kd.R_reads' HO414.out).1; omega) | simpa using h_) (seg := [.int .i64 (Int.tmod (wrap64 ((wrap64 (((rd_T40 y412 t408).f1) + 1)) + t416)) 97)]) (j := 1) hcl76 hcc76 (show 2 ≤ 2 from by decide) (x' := (⟨(rd_T40 y412 t408).f0, Int.tmod (wrap64 ((wrap64 (((rd_T40 y412 t408).f1) + 1)) + t416)) 97⟩ : S40)) (k40_mkM _ _ _ (⟨(rd_T40 y412 t408).f0, Int.tmod (wrap64 ((wrap64 (((rd_T40 y412 t408).f1) + 1)) + t416)) 97⟩ : S40) ) (fun _ hk => hk)).1
 rw [← Ny417.out] at HP76
 have HQ76 := ak HP76
 clear hcl76 hcc76 hfr76 hM76 HP76
 refine hK.out _ _ ⟨HS0_, HS1_⟩ (fun hHeld => ?_)
 clear hK K
 refine norm_ (a' := ?_) ?_ ?_
 rotate_left
 {
 show Act.put _ (some 176) _ = _
 simp only [Act.put, zs, zz, zk, i64_w, i32_w]
 rfl
 }
 refine pure_ (i := 10) (N := some 177) (v := ?_) (a' := ?_) (bA 15 2047) rfl rfl (any_of HT_.out (by kernel_rfl)) (fun _ _ _ h => h) (Or.inl ⟨by rfl, ?_⟩) ?_ ?_
 rotate_left
 {
 intro w'
 go_simp
 with_reducible rfl
 }
 rotate_left
 · exact pt_
 refine pure_ (i := 11) (N := some 178) (v := ?_) (a' := ?_) (bA 15 4095) rfl rfl (any_of HT_.out (by kernel_rfl)) (fun _ _ _ h => h) (Or.inl ⟨by rfl, ?_⟩) ?_ ?_
 rotate_left
 {
 intro w'
 go_simp
 with_reducible rfl
 }
 rotate_left
 · exact pt_
 refine pure_ (i := 12) (N := some 179) (v := ?_) (a' := ?_) (bA 15 8191) rfl rfl (any_of HT_.out (by kernel_rfl)) (fun _ _ _ h => h) (Or.inl ⟨by rfl, ?_⟩) ?_ ?_
 rotate_left
 {
 intro w'
 go_simp
 with_reducible rfl
 }
 rotate_left
 · exact pt_
 refine pure_ (i := 13) (N := some 180) (v := ?_) (a' := ?_) (bA 15 16383) rfl rfl (any_of HT_.out (by kernel_rfl)) (fun _ _ _ h => h) (Or.inl ⟨by rfl, ?_⟩) ?_ ?_
 rotate_left
 {
 intro w'
 go_simp
 with_reducible rfl
 }
 rotate_left
 · exact pt_
 refine last_ (i := 14) (N := none) #[true, true, true, true, true, true, true, true, true, true, true, true, true, true, true] rfl rfl (one_of HT_.out (by kernel_rfl)) (by decide) (fun K hK => ?_)
 refine skip_ (w1 := ?_) (by rfl) rfl ?_ ?_
 rotate_left
 · go_simp; rfl
 refine hK.out _ _ ?_
 clear hK K
 refine done_ (done_of HT_.out (by kernel_rfl)) ?_
 have hcz77_0 : (w75.setCell ⟨go59, (t408).toNat * 2 + 1, none⟩ (.int .i64 (Int.tmod (wrap64 ((wrap64 (((rd_T40 y412 t408).f1) + 1)) + t416)) 97))).cell? ⟨gb384, 0, none⟩ = some (.int .i16 t380) := (blk_cell (blk_far BK384.out (by have h_ := Kd.R_ne HO414.out BK384.out (by decide); intro e_; exact h_ (by rw [e_]; rfl)) _) 0).trans rfl
 have hcz77_1 : (w75.setCell ⟨go59, (t408).toNat * 2 + 1, none⟩ (.int .i64 (Int.tmod (wrap64 ((wrap64 (((rd_T40 y412 t408).f1) + 1)) + t416)) 97))).cell? ⟨gb384, 1, none⟩ = some (.slice Ao18 t381.length co18) := (blk_cell (blk_far BK384.out (by have h_ := Kd.R_ne HO414.out BK384.out (by decide); intro e_; exact h_ (by rw [e_]; rfl)) _) 1).trans rfl
 have hfz77_0 : (w75.setCell ⟨go59, (t408).toNat * 2 + 1, none⟩ (.int .i64 (Int.tmod (wrap64 ((wrap64 (((rd_T40 y412 t408).f1) + 1)) + t416)) 97))).frozen? ⟨gb384, 0, none⟩ = false := blk_frozen (blk_far BK384.out (by have h_ := Kd.R_ne HO414.out BK384.out (by decide); intro e_; exact h_ (by rw [e_]; rfl)) _) 0
 have hfz77_1 : (w75.setCell ⟨go59, (t408).toNat * 2 + 1, none⟩ (.int .i64 (Int.tmod (wrap64 ((wrap64 (((rd_T40 y412 t408).f1) + 1)) + t416)) 97))).frozen? ⟨gb384, 1, none⟩ = false := blk_frozen (blk_far BK384.out (by have h_ := Kd.R_ne HO414.out BK384.out (by decide); intro e_; exact h_ (by rw [e_]; rfl)) _) 1
 try go_wp2_with (first | ((with_reducible refine gate_callee (f := 10) rfl ?_); refine goesL_ (some 185) rfl rfl Try.func10 (by kernel_rfl) rfl #[.agg #[.int .i16 t380, .slice Ao18 t381.length co18], .slice Ao21 t385.length co21, .slice (some ⟨go59, 0, none⟩) y417.length co74] rfl (by (try simp only [List.map_toArray, List.map_cons, List.map_nil]); first | done | (rw [show y417.length = y412.length from (Kd.R_reads' HQ76.out).1.symm] <;> rfl) | rfl | (simp only [List.length_drop, List.length_take]; rfl)) ?_; (with_reducible refine (impl_FirstFault.calls k3 t380 _ _ t381 _ _ t385 _ _ y417 t418 t419 _ ?side1 ?side2 ?side3 ?side4 ?side5 ?side6 A60.out).mono ?_); (case side1 => refine (Kd.R_reads' (e := 24) (base := w.heap.size) (ok := fun k_ => True) (n := t381.length) (c := co18) ?_).2.2; exact (by (with_reducible repeat (first | apply Kd.R_alloc | apply Kd.R_drewN | apply Kd.R_drew)); exact (Kd.R_mono (Kd.R_far (p := ⟨go59, (t408 : Int).toNat * 2 + 1, none⟩) (Kd.R_types HO_385001.out GG59.out (by decide)) (fun _ hk => hk.2) (.int .i64 (Int.tmod (wrap64 ((wrap64 (((rd_T40 y412 t408).f1) + 1)) + t416)) 97))) (fun _ h_ => h_.1)))); (case side2 => exact (Kd.R_reads' HO_385001.out).2.1); (case side3 => refine (Kd.R_reads' (e := 47) (base := w.heap.size) (ok := fun k_ => True) (n := t385.length) (c := co21) ?_).2.2; exact (by (with_reducible repeat (first | apply Kd.R_alloc | apply Kd.R_drewN | apply Kd.R_drew)); exact (Kd.R_mono (Kd.R_far (p := ⟨go59, (t408 : Int).toNat * 2 + 1, none⟩) (Kd.R_types HO_6.out GG59.out (by decide)) (fun _ hk => hk.2) (.int .i64 (Int.tmod (wrap64 ((wrap64 (((rd_T40 y412 t408).f1) + 1)) + t416)) 97))) (fun _ h_ => h_.1)))); (case side4 => exact (Kd.R_reads' HO_6.out).2.1); (case side5 => refine (Kd.R_reads' (e := 40) (base := w.heap.size) (ok := fun k_ => some k_ ≠ (.slice Ao26 t392.length co26 : Value).ownBlock) (n := y412.length) (c := co74) ?_).2.2; exact (zR HQ76.out)); (case side6 => rw [show y417.length = y412.length from (Kd.R_reads' HQ76.out).1.symm]; exact (Kd.R_reads' HO414.out).2.1); rintro e w78 ⟨rfl, hb⟩; refine ⟨_, rfl, ?_⟩; have n0_ := ak (Kd.R_below (by (with_reducible repeat (first | apply Kd.R_alloc | apply Kd.R_drewN | apply Kd.R_drew)); exact (Kd.R_mono (Kd.R_far (p := ⟨go59, (t408 : Int).toNat * 2 + 1, none⟩) (Kd.R_types HO_6.out GG59.out (by decide)) (fun _ hk => hk.2) (.int .i64 (Int.tmod (wrap64 ((wrap64 (((rd_T40 y412 t408).f1) + 1)) + t416)) 97))) (fun _ h_ => h_.1))) hb); have n1_ := ak (Kd.R_below (by (with_reducible repeat (first | apply Kd.R_alloc | apply Kd.R_drewN | apply Kd.R_drew)); exact (Kd.R_mono (Kd.R_far (p := ⟨go59, (t408 : Int).toNat * 2 + 1, none⟩) (Kd.R_mono HO_9.out (fun k_ hk => (⟨hk, fun e_ => hk.2 (by rw [e_]; rfl)⟩ : _ ∧ k_ ≠ go59))) (fun _ hk => hk.2) (.int .i64 (Int.tmod (wrap64 ((wrap64 (((rd_T40 y412 t408).f1) + 1)) + t416)) 97))) (fun _ h_ => h_.1))) hb); have n2_ := ak (Kd.R_below (by (with_reducible repeat (first | apply Kd.R_alloc | apply Kd.R_drewN | apply Kd.R_drew)); exact (Kd.R_mono (Kd.R_far (p := ⟨go59, (t408 : Int).toNat * 2 + 1, none⟩) (Kd.R_types HO_385001.out GG59.out (by decide)) (fun _ hk => hk.2) (.int .i64 (Int.tmod (wrap64 ((wrap64 (((rd_T40 y412 t408).f1) + 1)) + t416)) 97))) (fun _ h_ => h_.1))) hb); have n3_ := ak (Kd.R_below (zR HQ76.out) hb); have n4_ := ak (blk_below (g := gb384) (o := .cells #[.int .i16 t380, .slice Ao18 t381.length co18] 27 (0, 0)) (by (with_reducible repeat (first | refine blk_drewN ?_ _ | refine blk_drew ?_ | refine blk_alloc ?_ _)); refine blk_far ?_ (by have h_ := Kd.R_ne HO414.out BK384.out (by decide); intro e_; exact h_ (by rw [e_]; rfl)) _; (with_reducible repeat (first | refine blk_drewN ?_ _ | refine blk_drew ?_ | refine blk_alloc ?_ _)); exact BK384.out) hb); have n5_ := ak (below_step (by repeat (first | (with_reducible first | exact HB.out | apply below_alloc | apply pw_below_drewN | apply below_drew1 | refine below_set ?_ GB59.out | refine below_set ?_ GE384.out) | exact HB.out)) hb); clear HO_6 HO_9 HO_385001 HO414 BK384 HB; have HO_6 := n0_; have HO_9 := n1_; have HO_385001 := n2_; have HO414 := n3_; have BK384 := n4_; have HB := n5_; clear n0_ n1_ n2_ n3_ n4_ n5_; (try clear hb); (try clear hb2); (try clear hk); (try clear hi); have hcz79_0 : w78.cell? ⟨gb384, 0, none⟩ = some (.int .i16 t380) := (blk_cell BK384.out 0).trans rfl; have hcz79_1 : w78.cell? ⟨gb384, 1, none⟩ = some (.slice Ao18 t381.length co18) := (blk_cell BK384.out 1).trans rfl; have hfz79_0 := blk_frozen BK384.out 0; have hfz79_1 := blk_frozen BK384.out 1) | ((with_reducible refine gate_callee (f := 9) rfl ?_); refine goesL_ (some 192) rfl rfl Try.func9 (by kernel_rfl) rfl #[.agg #[.int .i16 t380, .slice Ao18 t381.length co18], .slice Ao21 t385.length co21, .slice (some ⟨go59, 0, none⟩) y417.length co74] rfl (by (try simp only [List.map_toArray, List.map_cons, List.map_nil]); first | done | (rw [show y417.length = y412.length from (Kd.R_reads' HO414.out).1.symm] <;> rfl) | rfl | (simp only [List.length_drop, List.length_take]; rfl)) ?_; (with_reducible refine (impl_CheckCount.calls k3 t380 _ _ t381 _ _ t385 _ _ y417 t420 t421 _ ?side1 ?side2 ?side3 ?side4 ?side5 ?side6 A61.out).mono ?_); (case side1 => exact zC (Kd.R_reads' HO_385001.out).2.2); (case side2 => exact (Kd.R_reads' HO_385001.out).2.1); (case side3 => exact zC (Kd.R_reads' HO_6.out).2.2); (case side4 => exact (Kd.R_reads' HO_6.out).2.1); (case side5 => exact zC (Kd.R_reads' HO414.out).2.2); (case side6 => rw [show y417.length = y412.length from (Kd.R_reads' HO414.out).1.symm]; exact (Kd.R_reads' HO414.out).2.1); rintro e w80 ⟨rfl, hb⟩; refine ⟨_, rfl, ?_⟩; have n0_ := ak (Kd.R_below (zR HO_6.out) hb); have n1_ := ak (Kd.R_below (zR HO_9.out) hb); have n2_ := ak (Kd.R_below (zR HO_385001.out) hb); have n3_ := ak (Kd.R_below (zR HO414.out) hb); have n4_ := ak (blk_below (g := gb384) (o := .cells #[.int .i16 t380, .slice Ao18 t381.length co18] 27 (0, 0)) (zK BK384.out) hb); have n5_ := ak (below_step (zBG HB.out GE384.out) hb); clear HO_6 HO_9 HO_385001 HO414 BK384 HB; have HO_6 := n0_; have HO_9 := n1_; have HO_385001 := n2_; have HO414 := n3_; have BK384 := n4_; have HB := n5_; clear n0_ n1_ n2_ n3_ n4_ n5_; (try clear hb); (try clear hb2); (try clear hk); (try clear hi)))
 have n0_ := ak (Kd.R_drew HO_6.out)
 have n1_ := ak (Kd.R_drew HO_9.out)
 have n2_ := ak (Kd.R_drew HO_385001.out)
 have n3_ := ak (Kd.R_drew HO414.out)
 have n4_ := ak (blk_drew BK384.out)
 have n5_ := ak (below_drew1 HB.out)
 clear HO_6 HO_9 HO_385001 HO414 BK384 HB
 have HO_6 := n0_
 have HO_9 := n1_
 have HO_385001 := n2_
 have HO414 := n3_
 have BK384 := n4_
 have HB := n5_
 clear n0_ n1_ n2_ n3_ n4_ n5_
 have q82 : (t408 : Int) ≤ ((t392.length : Int) : Int) := of_decide_eq_true (by first | (with_reducible assumption) | assumption)
 obtain ⟨i082, hi082, _, hsz82, _⟩ := info_parts info40
 have hroom82 : t392.length ≤ co26 := (Kd.R_reads' HO_9.out).2.1
 have hC82 : Kd.C k40 _ Ao26 t392.length t392 := (Kd.R_reads' HO_9.out).2.2
 have hcut82 := cut_to (P := Try.prog) 31 40 .i64 Try.underlying31 hi082 Ao26 t392.length co26 t408 (of_decide_eq_true (by first | (with_reducible assumption) | assumption)) q82 hroom82
 have hr82 := Kd.C_take (m := (t408 : Int).toNat) hC82 (by omega)
 have hy82 : y422.length = (t408 : Int).toNat := (by rw [Ny422.out, List.length_take]; omega)
 rw [← Ny422.out] at hr82
 rw [← hy82] at hcut82
 have HR425 := ak hr82
 have HC425 := ak (show y422.length ≤ co26 from by omega)
 clear hr82 hC82 hroom82 hi082 hsz82
 have KY82 := ak hy82
 clear hy82
 have KL82 := ak (show (t408 : Int).toNat ≤ t392.length from by omega)
 replace q82 := eq_true q82
 refine start_ (n := 11) (S := fun w' => w'.cell? ⟨gb384, 0, none⟩ = some (.int .i16 t380) ∧ w'.cell? ⟨gb384, 1, none⟩ = some (.slice Ao18 t381.length co18)) (ds := []) (bA 11 0) (by kernel_rfl) rfl rfl ⟨(blk_cell BK384.out 0).trans rfl, (blk_cell BK384.out 1).trans rfl⟩ (fun hHeld => ?_); refine with_tabW laws_FnSaid.tab25 laws_FnSaid.bits25 (fun HT_ HW_ => ?_)
 generalize w80.drew = w81 at HO_6 HO_9 HO_385001 HO414 BK384 HB HR425 hHeld ⊢
 refine pure_ (i := 1) (N := some 197) (v := ?_) (a' := ?_) (bA 11 2) rfl rfl (any_of HT_.out (by kernel_rfl)) (fun _ _ _ h => h) (Or.inl ⟨by rfl, ?_⟩) ?_ ?_
 rotate_left
 {
 intro w'
 go_simp
 with_reducible rfl
 }
 rotate_left
 · exact pt_
 refine pure_ (i := 2) (N := some 198) (v := ?_) (a' := ?_) (bA 11 6) rfl rfl (any_of HT_.out (by kernel_rfl)) (fun _ _ _ h => h) (Or.inl ⟨by rfl, ?_⟩) ?_ ?_
 rotate_left
 {
 intro w'
 go_simp
 with_reducible rfl
 }
 rotate_left
 · exact pt_
 refine pure_ (i := 3) (N := some 199) (v := ?_) (a' := ?_) (bA 11 14) rfl rfl (any_of HT_.out (by kernel_rfl)) (fun _ _ _ h => h) (Or.inl ⟨by rfl, ?_⟩) ?_ ?_
 rotate_left
 {
 intro w'
 go_simp
 with_reducible rfl
 }
 rotate_left
 · exact pt_
 refine pure_ (i := 4) (N := some 200) (v := ?_) (a' := ?_) (bA 11 30) rfl rfl (any_of HT_.out (by kernel_rfl)) (fun _ _ _ h => h) (Or.inl ⟨by rfl, ?_⟩) ?_ ?_
 rotate_left
 {
 intro w'
 go_simp
 with_reducible rfl
 }
 rotate_left
 · exact pt_
 refine take_ (i := 0) (N := some 196) (v := ?_) (a' := ?_) (bA 11 31) rfl rfl (take_ofW HT_.out HW_.out (by kernel_rfl)) (fun _ _ _ h => h) (Or.inl ⟨by rfl, ?_⟩) hHeld ?_ ?_
 rotate_left
 {
 rintro w' ⟨s0, s1⟩
 go_simp
 with_reducible rfl
 }
 rotate_left
 · exact pt_
 refine one_ (i := 5) (N := some 201) (bA 11 63) rfl rfl (one_of HT_.out (by kernel_rfl)) (by decide) (fun K hK => ?_)
 refine goes_ Try.func10 (by kernel_rfl) rfl #[.agg #[.int .i16 t380, .slice Ao18 t381.length co18], .slice Ao21 t385.length co21, .slice Ao26 y422.length co26] (by rfl) rfl rfl gl_ ?_
 with_reducible refine (impl_FirstFault.calls k3 t380 _ _ t381 _ _ t385 _ _ y422 t426 t427 _ ?side1 ?side2 ?side3 ?side4 ?side5 ?side6 A64.out).mono ?_
 (case side1 => exact zC (Kd.R_reads' HO_385001.out).2.2)
 (case side2 => exact (Kd.R_reads' HO_385001.out).2.1)
 (case side3 => exact zC (Kd.R_reads' HO_6.out).2.2)
 (case side4 => exact (Kd.R_reads' HO_6.out).2.1)
 (case side5 => repeat (first | exact (zC HR425.out) | (with_reducible refine Kd.C_alloc ?_ _) | (with_reducible refine Kd.C_drewN ?_ _) | (with_reducible refine Kd.C_drew ?_)))
 (case side6 => exact HC425.out)
 rintro e w83 ⟨rfl, hb⟩
 refine ⟨_, rfl, ?_⟩
 have n0_ := ak (Kd.R_below (zR HO_6.out) hb)
 have n1_ := ak (Kd.R_below (zR HO_9.out) hb)
 have n2_ := ak (Kd.R_below (zR HO_385001.out) hb)
 have n3_ := ak (Kd.R_below (zR HO414.out) hb)
 have n4_ := ak (blk_below (g := gb384) (o := .cells #[.int .i16 t380, .slice Ao18 t381.length co18] 27 (0, 0)) (zK BK384.out) hb)
 have n5_ := ak (Kd.C_below (zC HR425.out) hb)
 have n6_ := ak (below_step (zBG HB.out GE384.out) hb)
 clear HO_6 HO_9 HO_385001 HO414 BK384 HR425 HB
 have HO_6 := n0_
 have HO_9 := n1_
 have HO_385001 := n2_
 have HO414 := n3_
 have BK384 := n4_
 have HR425 := n5_
 have HB := n6_
 clear n0_ n1_ n2_ n3_ n4_ n5_ n6_
 (try clear hb)
 (try clear hb2)
 (try clear hk)
 (try clear hi)
 refine hK.out _ _ ⟨(blk_cell BK384.out 0).trans rfl, (blk_cell BK384.out 1).trans rfl⟩ (fun hHeld => ?_)
 clear hK K
 refine norm_ (a' := ?_) ?_ ?_
 rotate_left
 {
 show Act.put _ (some 201) _ = _
 simp only [Act.put, zs, zz, zk, i64_w, i32_w]
 rfl
 }
 refine pure_ (i := 6) (N := some 195) (v := ?_) (a' := ?_) (bA 11 127) rfl rfl (any_of HT_.out (by kernel_rfl)) (fun _ _ _ h => h) (Or.inl ⟨by rfl, ?_⟩) ?_ ?_
 rotate_left
 {
 intro w'
 go_simp
 with_reducible rfl
 }
 rotate_left
 · exact pt_
 refine pure_ (i := 7) (N := some 202) (v := ?_) (a' := ?_) (bA 11 255) rfl rfl (any_of HT_.out (by kernel_rfl)) (fun _ _ _ h => h) (Or.inl ⟨by rfl, ?_⟩) ?_ ?_
 rotate_left
 {
 intro w'
 go_simp
 with_reducible rfl
 }
 rotate_left
 · exact pt_
 refine pure_ (i := 8) (N := some 203) (v := ?_) (a' := ?_) (bA 11 511) rfl rfl (any_of HT_.out (by kernel_rfl)) (fun _ _ _ h => h) (Or.inl ⟨by rfl, ?_⟩) ?_ ?_
 rotate_left
 {
 intro w'
 go_simp
 with_reducible rfl
 }
 rotate_left
 · exact pt_
 refine pure_ (i := 9) (N := some 25) (v := ?_) (a' := ?_) (bA 11 1023) rfl rfl (any_of HT_.out (by kernel_rfl)) (fun _ _ _ h => h) (Or.inl ⟨by rfl, ?_⟩) ?_ ?_
 rotate_left
 {
 intro w'
 go_simp
 with_reducible rfl
 }
 rotate_left
 · exact pt_
 refine pure_ (i := 10) (N := some 26) (v := ?_) (a' := ?_) (bA 11 2047) rfl rfl (any_of HT_.out (by kernel_rfl)) (fun _ _ _ h => h) (Or.inl ⟨by rfl, ?_⟩) ?_ ?_
 rotate_left
 {
 intro w'
 go_simp
 with_reducible rfl
 }
 rotate_left
 · exact pt_
 refine done_ (done_of HT_.out (by kernel_rfl)) ?_
 try go_wp2
 have n0_ := ak (Kd.R_drew HO_6.out)
 have n1_ := ak (Kd.R_drew HO_9.out)
 have n2_ := ak (Kd.R_drew HO_385001.out)
 have n3_ := ak (Kd.R_drew HO414.out)
 have n4_ := ak (blk_drew BK384.out)
 have n5_ := ak (Kd.C_drew HR425.out)
 have n6_ := ak (below_drew1 HB.out)
 clear HO_6 HO_9 HO_385001 HO414 BK384 HR425 HB
 have HO_6 := n0_
 have HO_9 := n1_
 have HO_385001 := n2_
 have HO414 := n3_
 have BK384 := n4_
 have HR425 := n5_
 have HB := n6_
 clear n0_ n1_ n2_ n3_ n4_ n5_ n6_
 refine start_ (n := 14) (S := fun w' => w'.cell? ⟨gb384, 0, none⟩ = some (.int .i16 t380) ∧ w'.cell? ⟨gb384, 1, none⟩ = some (.slice Ao18 t381.length co18)) (ds := []) (bA 14 0) (by kernel_rfl) rfl rfl ⟨(blk_cell BK384.out 0).trans rfl, (blk_cell BK384.out 1).trans rfl⟩ (fun hHeld => ?_); refine with_tabW laws_FnSaid.tab26 laws_FnSaid.bits26 (fun HT_ HW_ => ?_)
 generalize w83.drew = w84 at HO_6 HO_9 HO_385001 HO414 BK384 HR425 HB hHeld ⊢
 refine pure_ (i := 1) (N := some 206) (v := ?_) (a' := ?_) (bA 14 2) rfl rfl (any_of HT_.out (by kernel_rfl)) (fun _ _ _ h => h) (Or.inl ⟨by rfl, ?_⟩) ?_ ?_
 rotate_left
 {
 intro w'
 go_simp
 with_reducible rfl
 }
 rotate_left
 · exact pt_
 refine pure_ (i := 3) (N := some 208) (v := ?_) (a' := ?_) (bA 14 10) rfl rfl (any_of HT_.out (by kernel_rfl)) (fun _ _ _ h => h) (Or.inl ⟨by rfl, ?_⟩) ?_ ?_
 rotate_left
 {
 intro w'
 go_simp
 with_reducible rfl
 }
 rotate_left
 · exact pt_
 refine pure_ (i := 5) (N := some 210) (v := ?_) (a' := ?_) (bA 14 42) rfl rfl (any_of HT_.out (by kernel_rfl)) (fun _ _ _ h => h) (Or.inl ⟨by rfl, ?_⟩) ?_ ?_
 rotate_left
 {
 intro w'
 go_simp
 with_reducible rfl
 }
 rotate_left
 · exact pt_
 refine take_ (i := 0) (N := some 205) (v := ?_) (a' := ?_) (bA 14 43) rfl rfl (take_ofW HT_.out HW_.out (by kernel_rfl)) (fun _ _ _ h => h) (Or.inl ⟨by rfl, ?_⟩) hHeld ?_ ?_
 rotate_left
 {
 rintro w' ⟨s0, s1⟩
 go_simp
 with_reducible rfl
 }
 rotate_left
 · exact pt_
 refine join_ (σ := Value × Value × Value) 7 #[true, true, true, true, true, true, true, false, false, false, false, false, false, false] (fun s_ => [(207, s_.1), (209, s_.2.1), (211, s_.2.2)]) (fun s_ w' => (w'.cell? ⟨gb384, 0, none⟩ = some (.int .i16 t380) ∧ w'.cell? ⟨gb384, 1, none⟩ = some (.slice Ao18 t381.length co18)) ∧ (Kd.R k40 40 w' w.heap.size (fun k_ => some k_ ≠ (s_.2.1 : Value).ownBlock ∧ some k_ ≠ (s_.2.2 : Value).ownBlock ∧ some k_ ≠ (.slice Ao26 t392.length co26 : Value).ownBlock) (.slice (some ⟨go59, 0, none⟩) y412.length co74) y417) ∧ (Kd.R k40 40 w' w.heap.size (fun k_ => some k_ ≠ (.slice (some ⟨go59, 0, none⟩) y412.length co74 : Value).ownBlock ∧ some k_ ≠ (s_.2.2 : Value).ownBlock ∧ some k_ ≠ (.slice Ao26 t392.length co26 : Value).ownBlock) s_.2.1 y431) ∧ (Kd.R k40 40 w' w.heap.size (fun k_ => some k_ ≠ (.slice (some ⟨go59, 0, none⟩) y412.length co74 : Value).ownBlock ∧ some k_ ≠ (s_.2.1 : Value).ownBlock ∧ some k_ ≠ (.slice Ao26 t392.length co26 : Value).ownBlock) s_.2.2 y434) ∧ (Kd.R (Kd.int .i16) 24 w' w.heap.size (fun _ => True) (.slice Ao18 t381.length co18) t381) ∧ (Kd.R k47 47 w' w.heap.size (fun _ => True) (.slice Ao21 t385.length co21) t385) ∧ (Kd.R k40 40 w' w.heap.size (fun k_ => some k_ ≠ (.slice (some ⟨go59, 0, none⟩) y412.length co74 : Value).ownBlock ∧ some k_ ≠ (s_.2.1 : Value).ownBlock ∧ some k_ ≠ (s_.2.2 : Value).ownBlock) (.slice Ao26 t392.length co26) t392) ∧ (w'.heap[gb384]? = some (.cells #[.int .i16 t380, .slice Ao18 t381.length co18] 27 (0, 0))) ∧ (Below w.heap.size w w')) ?_ ?_
 rotate_left
 {
 intro hCont
 refine two_ (i := 2) (j := 6) (Ni := some 207) (Nj := some 211) #[true, true, true, true, false, true, false, false, false, false, false, false, false, false] #[true, true, false, true, false, true, true, false, false, false, false, false, false, false] rfl rfl rfl rfl (two_of HT_.out (by kernel_rfl)) (by decide) (by decide) (fun K hK => ?_) (fun K hK => ?_)
 {
 skip
 refine Kd.R_lit_step k40 _ 40 ?hg (N := 207) ?hd (xs := ([] : List (S40))) (inner := []) (ok := fun _ => True) (okp := fun _ => True) ?hr ?hp (fun _ hk => hk) trivial (Below.refl _ _) (Nat.le_refl _) (by simp) ?_; (case hd => rfl); (case hg => rfl); (case hr => first | (go_simp; done) | (go_simp; rfl)); (case hp => exact (Reps.none _ _))
 intro v429 w85 ho86 hb hg_ hnew_
 clear hg_ hnew_
 (first | rw [← Ny428.out] at ho86 | (simp only [Int.reduceToNat] at ho86; rw [← Ny428.out] at ho86))
 have n0_ := ak (Kd.R_below (zR HO_6.out) hb)
 have n1_ := ak (Kd.R_elder' (zR HO_9.out) (Kd.R_base ho86) hb)
 have n2_ := ak (Kd.R_below (zR HO_385001.out) hb)
 have n3_ := ak (Kd.R_elder' (zR HO414.out) (Kd.R_base ho86) hb)
 have n4_ := ak (Kd.R_lower (Kd.R_new' (Kd.R_new' ho86 (Kd.R_lt (zR HO_9.out))) (Kd.R_lt (zR HO414.out))) (below_size (zBG HB.out GE384.out)))
 have n5_ := ak (blk_below (g := gb384) (o := .cells #[.int .i16 t380, .slice Ao18 t381.length co18] 27 (0, 0)) (zK BK384.out) hb)
 have n6_ := ak (Kd.C_below (zC HR425.out) hb)
 have n7_ := ak (below_step (zBG HB.out GE384.out) hb)
 clear HO_6 HO_9 HO_385001 HO414 BK384 HR425 HB
 have HO_6 := n0_
 have HO_9 := n1_
 have HO_385001 := n2_
 have HO414 := n3_
 have HO430 := n4_
 have BK384 := n5_
 have HR425 := n6_
 have HB := n7_
 clear n0_ n1_ n2_ n3_ n4_ n5_ n6_ n7_ hb ho86
 refine hK.out _ _ ⟨(blk_cell BK384.out 0).trans rfl, (blk_cell BK384.out 1).trans rfl⟩ (fun hHeld => ?_)
 clear hK K
 refine norm_ (a' := ?_) ?_ ?_
 rotate_left
 {
 show Act.put _ (some 207) _ = _
 simp only [Act.put, zs, zz, zk, i64_w, i32_w]
 rfl
 }
 refine two_ (i := 4) (j := 6) (Ni := some 209) (Nj := some 211) #[true, true, true, true, true, true, false, false, false, false, false, false, false, false] #[true, true, true, true, false, true, true, false, false, false, false, false, false, false] rfl rfl rfl rfl (two_of HT_.out (by kernel_rfl)) (by decide) (by decide) (fun K hK => ?_) (fun K hK => ?_)
 {
 skip
 refine Kd.R_append_rows_step k40 (w0 := w) w.heap.size (by rfl) (.tmp 207) (.tmp 208) 31 40 (.agg #[(.int .i64 0), (.int .i64 0)]) 16 rfl Try.underlying31 info40 rfl (by decide) (by omega) v429 y428 t392 _ _ _ (fun k_ => some k_ ≠ (.slice Ao26 t392.length co26 : Value).ownBlock ∧ some k_ ≠ (.slice (some ⟨go59, 0, none⟩) y412.length co74 : Value).ownBlock) (fun _ => False) rfl rfl ?aO ?aR (fun _ _ h => h) (fun _ h => h.elim) ?aF ?aB ?aS ?aL ?_
 (case aR => exact zC (Kd.R_reads' HO_9.out).2.2)
 (case aB => exact (zBG HB.out GE384.out))
 (case aF => exact (fun k_ hk => ⟨Kd.fresh' (Kd.R_lt (zR HO_9.out)) k_ hk, Kd.fresh' (Kd.R_lt (zR HO414.out)) k_ hk⟩))
 (case aO => exact (by (with_reducible repeat (first | apply Kd.R_alloc | apply Kd.R_drewN | apply Kd.R_drew)); exact Kd.R_mono HO430.out (fun _ hk => ⟨hk.1.2, hk.2⟩)))
 (case aS => exact (below_size (zBG HB.out GE384.out)))
 (case aL => have := LMc65.out; omega)
 intro v432 w87 ho hb hg hat
 rw [← Ny431.out] at ho
 have n0_ := ak (Kd.R_over' (zR HO_6.out) (Kd.R_typed (zR HO430.out)) (by decide) hg)
 have n1_ := ak (Kd.R_after (ok := (fun k_ => some k_ ≠ (.slice (some ⟨go59, 0, none⟩) y412.length co74 : Value).ownBlock)) (by (with_reducible repeat (first | apply Kd.R_alloc | apply Kd.R_drewN | apply Kd.R_drew)); exact Kd.R_mono HO_9.out (fun _ hk => ⟨hk.1.2, hk.2⟩)) hg hat)
 have n2_ := ak (Kd.R_over' (zR HO_385001.out) (Kd.R_typed (zR HO430.out)) (by decide) hg)
 have n3_ := ak (blk_grown (g := gb384) (o := .cells #[.int .i16 t380, .slice Ao18 t381.length co18] 27 (0, 0)) (zK BK384.out) hg (Kd.R_ne HO430.out BK384.out (by decide)))
 have n4_ := ak (Kd.R_after (ok := (fun k_ => some k_ ≠ (.slice Ao26 t392.length co26 : Value).ownBlock)) (zR HO414.out) hg hat)
 have n5_ := ak (hb)
 have n6_ := ak ((show Kd.C k40 w87 Ao26 y422.length y422 from by rw [Ny422.out]; exact Kd.C_take (m := (t408 : Int).toNat) ((Kd.R_reads' (Kd.R_after (ok := (fun k_ => some k_ ≠ (.slice (some ⟨go59, 0, none⟩) y412.length co74 : Value).ownBlock)) (by (with_reducible repeat (first | apply Kd.R_alloc | apply Kd.R_drewN | apply Kd.R_drew)); exact Kd.R_mono HO_9.out (fun _ hk => ⟨hk.1.2, hk.2⟩)) hg hat)).2.2) KL82.out))
 have n7_ := ak (ho)
 clear HO_6 HO_9 HO_385001 BK384 HO414 HB HR425 HO430
 have HO_6 := n0_
 have HO_9 := n1_
 have HO_385001 := n2_
 have BK384 := n3_
 have HO414 := n4_
 have HB := n5_
 have HR425 := n6_
 have HO433 := n7_
 clear n0_ n1_ n2_ n3_ n4_ n5_ n6_ n7_ ho hb hg hat
 refine hK.out _ _ ⟨(blk_cell BK384.out 0).trans rfl, (blk_cell BK384.out 1).trans rfl⟩ (fun hHeld => ?_)
 clear hK K
 refine norm_ (a' := ?_) ?_ ?_
 rotate_left
 {
 show Act.put _ (some 209) _ = _
 simp only [Act.put, zs, zz, zk, i64_w, i32_w]
 rfl
 }
 refine one_ (i := 6) (N := some 211) (bA 14 127) rfl rfl (one_of HT_.out (by kernel_rfl)) (by decide) (fun K hK => ?_)
 refine Kd.R_lit_step k40 _ 40 ?hg (N := 211) ?hd (xs := ([(⟨1, 0⟩ : S40)] : List (S40))) (inner := [.int .i64 1, .int .i64 0]) (ok := fun _ => True) (okp := fun _ => True) ?hr ?hp (fun _ hk => hk) trivial (Below.refl _ _) (Nat.le_refl _) (by simp) ?_; (case hd => rfl); (case hg => rfl); (case hr => first | (go_simp; done) | (go_simp; rfl)); (case hp => exact (Reps.c2 (show Kd.M k40 _ _ _ (⟨1, 0⟩ : S40) [.int .i64 1, .int .i64 0] from (k40_mkM _ _ _ (⟨1, 0⟩ : S40) )) (Reps.none _ _)))
 intro v435 w88 ho89 hb hg_ hnew_
 clear hg_ hnew_
 (first | rw [← Ny434.out] at ho89 | (simp only [Int.reduceToNat] at ho89; rw [← Ny434.out] at ho89))
 have n0_ := ak (Kd.R_below (zR HO_6.out) hb)
 have n1_ := ak (Kd.R_elder' (zR HO_9.out) (Kd.R_base ho89) hb)
 have n2_ := ak (Kd.R_below (zR HO_385001.out) hb)
 have n3_ := ak (Kd.R_elder' (zR HO414.out) (Kd.R_base ho89) hb)
 have n4_ := ak (Kd.R_elder' (zR HO433.out) (Kd.R_base ho89) hb)
 have n5_ := ak (Kd.R_lower (Kd.R_new' (Kd.R_new' (Kd.R_new' ho89 (Kd.R_lt (zR HO_9.out))) (Kd.R_lt (zR HO414.out))) (Kd.R_lt (zR HO433.out))) (below_size (zBG HB.out GE384.out)))
 have n6_ := ak (blk_below (g := gb384) (o := .cells #[.int .i16 t380, .slice Ao18 t381.length co18] 27 (0, 0)) (zK BK384.out) hb)
 have n7_ := ak (Kd.C_below (zC HR425.out) hb)
 have n8_ := ak (below_step (zBG HB.out GE384.out) hb)
 clear HO_6 HO_9 HO_385001 HO414 HO433 BK384 HR425 HB
 have HO_6 := n0_
 have HO_9 := n1_
 have HO_385001 := n2_
 have HO414 := n3_
 have HO433 := n4_
 have HO436 := n5_
 have BK384 := n6_
 have HR425 := n7_
 have HB := n8_
 clear n0_ n1_ n2_ n3_ n4_ n5_ n6_ n7_ n8_ hb ho89
 refine hK.out _ _ ⟨(blk_cell BK384.out 0).trans rfl, (blk_cell BK384.out 1).trans rfl⟩ (fun hHeld => ?_)
 clear hK K
 refine norm_ (a' := ?_) ?_ ?_
 rotate_left
 {
 show Act.put _ (some 211) _ = _
 simp only [Act.put, zs, zz, zk, i64_w, i32_w]
 rfl
 }
 exact norm_ (by simp only [putAll, Act.put, zs, zz, zk]) (hCont (v429, v432, v435) _ ⟨hHeld, (by (with_reducible repeat (first | apply Kd.R_alloc | apply Kd.R_drewN | apply Kd.R_drew)); exact Kd.R_mono HO414.out (fun _ hk => ⟨hk.1.2, ⟨hk.2, hk.1.1⟩⟩)), (by (with_reducible repeat (first | apply Kd.R_alloc | apply Kd.R_drewN | apply Kd.R_drew)); exact Kd.R_mono HO433.out (fun _ hk => ⟨hk.1.2, ⟨hk.2, hk.1.1⟩⟩)), (by (with_reducible repeat (first | apply Kd.R_alloc | apply Kd.R_drewN | apply Kd.R_drew)); exact Kd.R_mono HO436.out (fun _ hk => ⟨hk.1.2, ⟨hk.2, hk.1.1.2⟩⟩)), (zR HO_385001.out), (zR HO_6.out), (by (with_reducible repeat (first | apply Kd.R_alloc | apply Kd.R_drewN | apply Kd.R_drew)); exact Kd.R_mono HO_9.out (fun _ hk => ⟨hk.1.1, ⟨hk.1.2, hk.2⟩⟩)), (zK BK384.out), (zBG HB.out GE384.out)⟩)
 }
 {
 skip
 refine Kd.R_lit_step k40 _ 40 ?hg (N := 211) ?hd (xs := ([(⟨1, 0⟩ : S40)] : List (S40))) (inner := [.int .i64 1, .int .i64 0]) (ok := fun _ => True) (okp := fun _ => True) ?hr ?hp (fun _ hk => hk) trivial (Below.refl _ _) (Nat.le_refl _) (by simp) ?_; (case hd => rfl); (case hg => rfl); (case hr => first | (go_simp; done) | (go_simp; rfl)); (case hp => exact (Reps.c2 (show Kd.M k40 _ _ _ (⟨1, 0⟩ : S40) [.int .i64 1, .int .i64 0] from (k40_mkM _ _ _ (⟨1, 0⟩ : S40) )) (Reps.none _ _)))
 intro v435 w87 ho88 hb hg_ hnew_
 clear hg_ hnew_
 (first | rw [← Ny434.out] at ho88 | (simp only [Int.reduceToNat] at ho88; rw [← Ny434.out] at ho88))
 have n0_ := ak (Kd.R_below (zR HO_6.out) hb)
 have n1_ := ak (Kd.R_elder' (zR HO_9.out) (Kd.R_base ho88) hb)
 have n2_ := ak (Kd.R_below (zR HO_385001.out) hb)
 have n3_ := ak (Kd.R_elder' (zR HO414.out) (Kd.R_base ho88) hb)
 have n4_ := ak (Kd.R_elder' (zR HO430.out) (Kd.R_base ho88) hb)
 have n5_ := ak (Kd.R_lower (Kd.R_new' (Kd.R_new' (Kd.R_new' ho88 (Kd.R_lt (zR HO_9.out))) (Kd.R_lt (zR HO414.out))) (Kd.R_lt (zR HO430.out))) (below_size (zBG HB.out GE384.out)))
 have n6_ := ak (blk_below (g := gb384) (o := .cells #[.int .i16 t380, .slice Ao18 t381.length co18] 27 (0, 0)) (zK BK384.out) hb)
 have n7_ := ak (Kd.C_below (zC HR425.out) hb)
 have n8_ := ak (below_step (zBG HB.out GE384.out) hb)
 clear HO_6 HO_9 HO_385001 HO414 HO430 BK384 HR425 HB
 have HO_6 := n0_
 have HO_9 := n1_
 have HO_385001 := n2_
 have HO414 := n3_
 have HO430 := n4_
 have HO436 := n5_
 have BK384 := n6_
 have HR425 := n7_
 have HB := n8_
 clear n0_ n1_ n2_ n3_ n4_ n5_ n6_ n7_ n8_ hb ho88
 refine hK.out _ _ ⟨(blk_cell BK384.out 0).trans rfl, (blk_cell BK384.out 1).trans rfl⟩ (fun hHeld => ?_)
 clear hK K
 refine norm_ (a' := ?_) ?_ ?_
 rotate_left
 {
 show Act.put _ (some 211) _ = _
 simp only [Act.put, zs, zz, zk, i64_w, i32_w]
 rfl
 }
 refine one_ (i := 4) (N := some 209) (bA 14 127) rfl rfl (one_of HT_.out (by kernel_rfl)) (by decide) (fun K hK => ?_)
 refine Kd.R_append_rows_step k40 (w0 := w) w.heap.size (by rfl) (.tmp 207) (.tmp 208) 31 40 (.agg #[(.int .i64 0), (.int .i64 0)]) 16 rfl Try.underlying31 info40 rfl (by decide) (by omega) v429 y428 t392 _ _ _ (fun k_ => some k_ ≠ (.slice Ao26 t392.length co26 : Value).ownBlock ∧ some k_ ≠ (.slice (some ⟨go59, 0, none⟩) y412.length co74 : Value).ownBlock ∧ some k_ ≠ (v435 : Value).ownBlock) (fun _ => False) rfl rfl ?aO ?aR (fun _ _ h => h) (fun _ h => h.elim) ?aF ?aB ?aS ?aL ?_
 (case aR => exact zC (Kd.R_reads' HO_9.out).2.2)
 (case aB => exact (zBG HB.out GE384.out))
 (case aF => exact (fun k_ hk => ⟨Kd.fresh' (Kd.R_lt (zR HO_9.out)) k_ hk, Kd.fresh' (Kd.R_lt (zR HO414.out)) k_ hk, Kd.fresh' (Kd.R_lt (zR HO436.out)) k_ hk⟩))
 (case aO => exact (by (with_reducible repeat (first | apply Kd.R_alloc | apply Kd.R_drewN | apply Kd.R_drew)); exact Kd.R_mono HO430.out (fun _ hk => ⟨hk.1.1.2, ⟨hk.1.2, hk.2⟩⟩)))
 (case aS => exact (below_size (zBG HB.out GE384.out)))
 (case aL => have := LMc65.out; omega)
 intro v432 w89 ho hb hg hat
 rw [← Ny431.out] at ho
 have n0_ := ak (Kd.R_over' (zR HO_6.out) (Kd.R_typed (zR HO430.out)) (by decide) hg)
 have n1_ := ak (Kd.R_after (ok := (fun k_ => some k_ ≠ (.slice (some ⟨go59, 0, none⟩) y412.length co74 : Value).ownBlock ∧ some k_ ≠ (v435 : Value).ownBlock)) (by (with_reducible repeat (first | apply Kd.R_alloc | apply Kd.R_drewN | apply Kd.R_drew)); exact Kd.R_mono HO_9.out (fun _ hk => ⟨⟨hk.1.1.2, hk.2⟩, hk.1.2⟩)) hg hat)
 have n2_ := ak (Kd.R_over' (zR HO_385001.out) (Kd.R_typed (zR HO430.out)) (by decide) hg)
 have n3_ := ak (blk_grown (g := gb384) (o := .cells #[.int .i16 t380, .slice Ao18 t381.length co18] 27 (0, 0)) (zK BK384.out) hg (Kd.R_ne HO430.out BK384.out (by decide)))
 have n4_ := ak (Kd.R_after (ok := (fun k_ => some k_ ≠ (.slice Ao26 t392.length co26 : Value).ownBlock ∧ some k_ ≠ (v435 : Value).ownBlock)) (by (with_reducible repeat (first | apply Kd.R_alloc | apply Kd.R_drewN | apply Kd.R_drew)); exact Kd.R_mono HO414.out (fun _ hk => ⟨⟨hk.1.1, hk.2⟩, hk.1.2⟩)) hg hat)
 have n5_ := ak (Kd.R_after (ok := (fun k_ => some k_ ≠ (.slice Ao26 t392.length co26 : Value).ownBlock ∧ some k_ ≠ (.slice (some ⟨go59, 0, none⟩) y412.length co74 : Value).ownBlock)) (by (with_reducible repeat (first | apply Kd.R_alloc | apply Kd.R_drewN | apply Kd.R_drew)); exact Kd.R_mono HO436.out (fun _ hk => ⟨⟨hk.1.1.2, hk.1.2⟩, hk.2⟩)) hg hat)
 have n6_ := ak (hb)
 have n7_ := ak ((show Kd.C k40 w89 Ao26 y422.length y422 from by rw [Ny422.out]; exact Kd.C_take (m := (t408 : Int).toNat) ((Kd.R_reads' (Kd.R_after (ok := (fun k_ => some k_ ≠ (.slice (some ⟨go59, 0, none⟩) y412.length co74 : Value).ownBlock ∧ some k_ ≠ (v435 : Value).ownBlock)) (by (with_reducible repeat (first | apply Kd.R_alloc | apply Kd.R_drewN | apply Kd.R_drew)); exact Kd.R_mono HO_9.out (fun _ hk => ⟨⟨hk.1.1.2, hk.2⟩, hk.1.2⟩)) hg hat)).2.2) KL82.out))
 have n8_ := ak (ho)
 clear HO_6 HO_9 HO_385001 BK384 HO414 HO436 HB HR425 HO430
 have HO_6 := n0_
 have HO_9 := n1_
 have HO_385001 := n2_
 have BK384 := n3_
 have HO414 := n4_
 have HO436 := n5_
 have HB := n6_
 have HR425 := n7_
 have HO433 := n8_
 clear n0_ n1_ n2_ n3_ n4_ n5_ n6_ n7_ n8_ ho hb hg hat
 refine hK.out _ _ ⟨(blk_cell BK384.out 0).trans rfl, (blk_cell BK384.out 1).trans rfl⟩ (fun hHeld => ?_)
 clear hK K
 refine norm_ (a' := ?_) ?_ ?_
 rotate_left
 {
 show Act.put _ (some 209) _ = _
 simp only [Act.put, zs, zz, zk, i64_w, i32_w]
 rfl
 }
 exact norm_ (by simp only [putAll, Act.put, zs, zz, zk]) (hCont (v429, v432, v435) _ ⟨hHeld, (by (with_reducible repeat (first | apply Kd.R_alloc | apply Kd.R_drewN | apply Kd.R_drew)); exact Kd.R_mono HO414.out (fun _ hk => ⟨hk.2, ⟨hk.1.2, hk.1.1⟩⟩)), (by (with_reducible repeat (first | apply Kd.R_alloc | apply Kd.R_drewN | apply Kd.R_drew)); exact Kd.R_mono HO433.out (fun _ hk => ⟨hk.2.1, ⟨hk.2.2, hk.1⟩⟩)), (by (with_reducible repeat (first | apply Kd.R_alloc | apply Kd.R_drewN | apply Kd.R_drew)); exact Kd.R_mono HO436.out (fun _ hk => ⟨hk.1.2, ⟨hk.2, hk.1.1⟩⟩)), (zR HO_385001.out), (zR HO_6.out), (by (with_reducible repeat (first | apply Kd.R_alloc | apply Kd.R_drewN | apply Kd.R_drew)); exact Kd.R_mono HO_9.out (fun _ hk => ⟨hk.1.1, ⟨hk.2, hk.1.2⟩⟩)), (zK BK384.out), (zBG HB.out GE384.out)⟩)
 }
 }
 {
 skip
 refine Kd.R_lit_step k40 _ 40 ?hg (N := 211) ?hd (xs := ([(⟨1, 0⟩ : S40)] : List (S40))) (inner := [.int .i64 1, .int .i64 0]) (ok := fun _ => True) (okp := fun _ => True) ?hr ?hp (fun _ hk => hk) trivial (Below.refl _ _) (Nat.le_refl _) (by simp) ?_; (case hd => rfl); (case hg => rfl); (case hr => first | (go_simp; done) | (go_simp; rfl)); (case hp => exact (Reps.c2 (show Kd.M k40 _ _ _ (⟨1, 0⟩ : S40) [.int .i64 1, .int .i64 0] from (k40_mkM _ _ _ (⟨1, 0⟩ : S40) )) (Reps.none _ _)))
 intro v435 w85 ho86 hb hg_ hnew_
 clear hg_ hnew_
 (first | rw [← Ny434.out] at ho86 | (simp only [Int.reduceToNat] at ho86; rw [← Ny434.out] at ho86))
 have n0_ := ak (Kd.R_below (zR HO_6.out) hb)
 have n1_ := ak (Kd.R_elder' (zR HO_9.out) (Kd.R_base ho86) hb)
 have n2_ := ak (Kd.R_below (zR HO_385001.out) hb)
 have n3_ := ak (Kd.R_elder' (zR HO414.out) (Kd.R_base ho86) hb)
 have n4_ := ak (Kd.R_lower (Kd.R_new' (Kd.R_new' ho86 (Kd.R_lt (zR HO_9.out))) (Kd.R_lt (zR HO414.out))) (below_size (zBG HB.out GE384.out)))
 have n5_ := ak (blk_below (g := gb384) (o := .cells #[.int .i16 t380, .slice Ao18 t381.length co18] 27 (0, 0)) (zK BK384.out) hb)
 have n6_ := ak (Kd.C_below (zC HR425.out) hb)
 have n7_ := ak (below_step (zBG HB.out GE384.out) hb)
 clear HO_6 HO_9 HO_385001 HO414 BK384 HR425 HB
 have HO_6 := n0_
 have HO_9 := n1_
 have HO_385001 := n2_
 have HO414 := n3_
 have HO436 := n4_
 have BK384 := n5_
 have HR425 := n6_
 have HB := n7_
 clear n0_ n1_ n2_ n3_ n4_ n5_ n6_ n7_ hb ho86
 refine hK.out _ _ ⟨(blk_cell BK384.out 0).trans rfl, (blk_cell BK384.out 1).trans rfl⟩ (fun hHeld => ?_)
 clear hK K
 refine norm_ (a' := ?_) ?_ ?_
 rotate_left
 {
 show Act.put _ (some 211) _ = _
 simp only [Act.put, zs, zz, zk, i64_w, i32_w]
 rfl
 }
 refine one_ (i := 2) (N := some 207) (bA 14 111) rfl rfl (one_of HT_.out (by kernel_rfl)) (by decide) (fun K hK => ?_)
 refine Kd.R_lit_step k40 _ 40 ?hg (N := 207) ?hd (xs := ([] : List (S40))) (inner := []) (ok := fun _ => True) (okp := fun _ => True) ?hr ?hp (fun _ hk => hk) trivial (Below.refl _ _) (Nat.le_refl _) (by simp) ?_; (case hd => rfl); (case hg => rfl); (case hr => first | (go_simp; done) | (go_simp; rfl)); (case hp => exact (Reps.none _ _))
 intro v429 w87 ho88 hb hg_ hnew_
 clear hg_ hnew_
 (first | rw [← Ny428.out] at ho88 | (simp only [Int.reduceToNat] at ho88; rw [← Ny428.out] at ho88))
 have n0_ := ak (Kd.R_below (zR HO_6.out) hb)
 have n1_ := ak (Kd.R_elder' (zR HO_9.out) (Kd.R_base ho88) hb)
 have n2_ := ak (Kd.R_below (zR HO_385001.out) hb)
 have n3_ := ak (Kd.R_elder' (zR HO414.out) (Kd.R_base ho88) hb)
 have n4_ := ak (Kd.R_elder' (zR HO436.out) (Kd.R_base ho88) hb)
 have n5_ := ak (Kd.R_lower (Kd.R_new' (Kd.R_new' (Kd.R_new' ho88 (Kd.R_lt (zR HO_9.out))) (Kd.R_lt (zR HO414.out))) (Kd.R_lt (zR HO436.out))) (below_size (zBG HB.out GE384.out)))
 have n6_ := ak (blk_below (g := gb384) (o := .cells #[.int .i16 t380, .slice Ao18 t381.length co18] 27 (0, 0)) (zK BK384.out) hb)
 have n7_ := ak (Kd.C_below (zC HR425.out) hb)
 have n8_ := ak (below_step (zBG HB.out GE384.out) hb)
 clear HO_6 HO_9 HO_385001 HO414 HO436 BK384 HR425 HB
 have HO_6 := n0_
 have HO_9 := n1_
 have HO_385001 := n2_
 have HO414 := n3_
 have HO436 := n4_
 have HO430 := n5_
 have BK384 := n6_
 have HR425 := n7_
 have HB := n8_
 clear n0_ n1_ n2_ n3_ n4_ n5_ n6_ n7_ n8_ hb ho88
 refine hK.out _ _ ⟨(blk_cell BK384.out 0).trans rfl, (blk_cell BK384.out 1).trans rfl⟩ (fun hHeld => ?_)
 clear hK K
 refine norm_ (a' := ?_) ?_ ?_
 rotate_left
 {
 show Act.put _ (some 207) _ = _
 simp only [Act.put, zs, zz, zk, i64_w, i32_w]
 rfl
 }
 refine one_ (i := 4) (N := some 209) (bA 14 127) rfl rfl (one_of HT_.out (by kernel_rfl)) (by decide) (fun K hK => ?_)
 refine Kd.R_append_rows_step k40 (w0 := w) w.heap.size (by rfl) (.tmp 207) (.tmp 208) 31 40 (.agg #[(.int .i64 0), (.int .i64 0)]) 16 rfl Try.underlying31 info40 rfl (by decide) (by omega) v429 y428 t392 _ _ _ (fun k_ => some k_ ≠ (.slice Ao26 t392.length co26 : Value).ownBlock ∧ some k_ ≠ (.slice (some ⟨go59, 0, none⟩) y412.length co74 : Value).ownBlock ∧ some k_ ≠ (v435 : Value).ownBlock) (fun _ => False) rfl rfl ?aO ?aR (fun _ _ h => h) (fun _ h => h.elim) ?aF ?aB ?aS ?aL ?_
 (case aR => exact zC (Kd.R_reads' HO_9.out).2.2)
 (case aB => exact (zBG HB.out GE384.out))
 (case aF => exact (fun k_ hk => ⟨Kd.fresh' (Kd.R_lt (zR HO_9.out)) k_ hk, Kd.fresh' (Kd.R_lt (zR HO414.out)) k_ hk, Kd.fresh' (Kd.R_lt (zR HO436.out)) k_ hk⟩))
 (case aO => exact (by (with_reducible repeat (first | apply Kd.R_alloc | apply Kd.R_drewN | apply Kd.R_drew)); exact Kd.R_mono HO430.out (fun _ hk => ⟨hk.1.1.2, ⟨hk.1.2, hk.2⟩⟩)))
 (case aS => exact (below_size (zBG HB.out GE384.out)))
 (case aL => have := LMc65.out; omega)
 intro v432 w89 ho hb hg hat
 rw [← Ny431.out] at ho
 have n0_ := ak (Kd.R_over' (zR HO_6.out) (Kd.R_typed (zR HO430.out)) (by decide) hg)
 have n1_ := ak (Kd.R_after (ok := (fun k_ => some k_ ≠ (.slice (some ⟨go59, 0, none⟩) y412.length co74 : Value).ownBlock ∧ some k_ ≠ (v435 : Value).ownBlock)) (by (with_reducible repeat (first | apply Kd.R_alloc | apply Kd.R_drewN | apply Kd.R_drew)); exact Kd.R_mono HO_9.out (fun _ hk => ⟨⟨hk.1.1.2, hk.1.2⟩, hk.2⟩)) hg hat)
 have n2_ := ak (Kd.R_over' (zR HO_385001.out) (Kd.R_typed (zR HO430.out)) (by decide) hg)
 have n3_ := ak (blk_grown (g := gb384) (o := .cells #[.int .i16 t380, .slice Ao18 t381.length co18] 27 (0, 0)) (zK BK384.out) hg (Kd.R_ne HO430.out BK384.out (by decide)))
 have n4_ := ak (Kd.R_after (ok := (fun k_ => some k_ ≠ (.slice Ao26 t392.length co26 : Value).ownBlock ∧ some k_ ≠ (v435 : Value).ownBlock)) (zR HO414.out) hg hat)
 have n5_ := ak (Kd.R_after (ok := (fun k_ => some k_ ≠ (.slice Ao26 t392.length co26 : Value).ownBlock ∧ some k_ ≠ (.slice (some ⟨go59, 0, none⟩) y412.length co74 : Value).ownBlock)) (by (with_reducible repeat (first | apply Kd.R_alloc | apply Kd.R_drewN | apply Kd.R_drew)); exact Kd.R_mono HO436.out (fun _ hk => ⟨⟨hk.1.1.2, hk.1.2⟩, hk.2⟩)) hg hat)
 have n6_ := ak (hb)
 have n7_ := ak ((show Kd.C k40 w89 Ao26 y422.length y422 from by rw [Ny422.out]; exact Kd.C_take (m := (t408 : Int).toNat) ((Kd.R_reads' (Kd.R_after (ok := (fun k_ => some k_ ≠ (.slice (some ⟨go59, 0, none⟩) y412.length co74 : Value).ownBlock ∧ some k_ ≠ (v435 : Value).ownBlock)) (by (with_reducible repeat (first | apply Kd.R_alloc | apply Kd.R_drewN | apply Kd.R_drew)); exact Kd.R_mono HO_9.out (fun _ hk => ⟨⟨hk.1.1.2, hk.1.2⟩, hk.2⟩)) hg hat)).2.2) KL82.out))
 have n8_ := ak (ho)
 clear HO_6 HO_9 HO_385001 BK384 HO414 HO436 HB HR425 HO430
 have HO_6 := n0_
 have HO_9 := n1_
 have HO_385001 := n2_
 have BK384 := n3_
 have HO414 := n4_
 have HO436 := n5_
 have HB := n6_
 have HR425 := n7_
 have HO433 := n8_
 clear n0_ n1_ n2_ n3_ n4_ n5_ n6_ n7_ n8_ ho hb hg hat
 refine hK.out _ _ ⟨(blk_cell BK384.out 0).trans rfl, (blk_cell BK384.out 1).trans rfl⟩ (fun hHeld => ?_)
 clear hK K
 refine norm_ (a' := ?_) ?_ ?_
 rotate_left
 {
 show Act.put _ (some 209) _ = _
 simp only [Act.put, zs, zz, zk, i64_w, i32_w]
 rfl
 }
 exact norm_ (by simp only [putAll, Act.put, zs, zz, zk]) (hCont (v429, v432, v435) _ ⟨hHeld, (by (with_reducible repeat (first | apply Kd.R_alloc | apply Kd.R_drewN | apply Kd.R_drew)); exact Kd.R_mono HO414.out (fun _ hk => ⟨hk.2, ⟨hk.1.2, hk.1.1⟩⟩)), (by (with_reducible repeat (first | apply Kd.R_alloc | apply Kd.R_drewN | apply Kd.R_drew)); exact Kd.R_mono HO433.out (fun _ hk => ⟨hk.2.1, ⟨hk.2.2, hk.1⟩⟩)), (by (with_reducible repeat (first | apply Kd.R_alloc | apply Kd.R_drewN | apply Kd.R_drew)); exact Kd.R_mono HO436.out (fun _ hk => ⟨hk.1.2, ⟨hk.2, hk.1.1⟩⟩)), (zR HO_385001.out), (zR HO_6.out), (by (with_reducible repeat (first | apply Kd.R_alloc | apply Kd.R_drewN | apply Kd.R_drew)); exact Kd.R_mono HO_9.out (fun _ hk => ⟨hk.1.1, ⟨hk.2, hk.1.2⟩⟩)), (zK BK384.out), (zBG HB.out GE384.out)⟩)
 }
 }
 rintro ⟨v429, v432, v435⟩ w90 ⟨hS_, h0_, h1_, h2_, h3_, h4_, h5_, h6_, h7_⟩
 have n0_ : Aside0 (Kd.R k40 40 w90 w.heap.size (fun k_ => some k_ ≠ (v432 : Value).ownBlock ∧ some k_ ≠ (v435 : Value).ownBlock ∧ some k_ ≠ (.slice Ao26 t392.length co26 : Value).ownBlock) (.slice (some ⟨go59, 0, none⟩) y412.length co74) y417) := ⟨h0_⟩
 have n1_ : Aside0 (Kd.R k40 40 w90 w.heap.size (fun k_ => some k_ ≠ (.slice (some ⟨go59, 0, none⟩) y412.length co74 : Value).ownBlock ∧ some k_ ≠ (v435 : Value).ownBlock ∧ some k_ ≠ (.slice Ao26 t392.length co26 : Value).ownBlock) v432 y431) := ⟨h1_⟩
 have n2_ : Aside0 (Kd.R k40 40 w90 w.heap.size (fun k_ => some k_ ≠ (.slice (some ⟨go59, 0, none⟩) y412.length co74 : Value).ownBlock ∧ some k_ ≠ (v432 : Value).ownBlock ∧ some k_ ≠ (.slice Ao26 t392.length co26 : Value).ownBlock) v435 y434) := ⟨h2_⟩
 have n3_ : Aside0 (Kd.R (Kd.int .i16) 24 w90 w.heap.size (fun _ => True) (.slice Ao18 t381.length co18) t381) := ⟨h3_⟩
 have n4_ : Aside0 (Kd.R k47 47 w90 w.heap.size (fun _ => True) (.slice Ao21 t385.length co21) t385) := ⟨h4_⟩
 have n5_ : Aside0 (Kd.R k40 40 w90 w.heap.size (fun k_ => some k_ ≠ (.slice (some ⟨go59, 0, none⟩) y412.length co74 : Value).ownBlock ∧ some k_ ≠ (v432 : Value).ownBlock ∧ some k_ ≠ (v435 : Value).ownBlock) (.slice Ao26 t392.length co26) t392) := ⟨h5_⟩
 have n6_ : Aside0 (w90.heap[gb384]? = some (.cells #[.int .i16 t380, .slice Ao18 t381.length co18] 27 (0, 0))) := ⟨h6_⟩
 have n7_ : Aside0 (Below w.heap.size w w90) := ⟨h7_⟩
 clear HO_6 HO_9 HO_385001 HO414 BK384 HR425 HB h0_ h1_ h2_ h3_ h4_ h5_ h6_ h7_
 have HO414 := n0_
 have HO433 := n1_
 have HO436 := n2_
 have HO_385001 := n3_
 have HO_6 := n4_
 have HO_9 := n5_
 have BK384 := n6_
 have HB := n7_
 clear n0_ n1_ n2_ n3_ n4_ n5_ n6_ n7_
 have hHeld : w90.cell? ⟨gb384, 0, none⟩ = some (.int .i16 t380) ∧ w90.cell? ⟨gb384, 1, none⟩ = some (.slice Ao18 t381.length co18) := hS_
 obtain ⟨Ao92, co92, eo92⟩ := Kd.R_slice HO436.out
 (first | subst eo92 | (injection eo92 with f1_ f2_ f3_; have f4_ := f1_.symm; have f5_ := f3_.symm; clear f1_ f2_ f3_; subst f4_; subst f5_))
 refine norm_ (a' := ?_) ?_ ?_
 rotate_left
 · simp only [putAll, Act.put, zs, zz, zk]; rfl
 refine one_ (i := 7) (N := some 212) (bA 14 255) rfl rfl (one_of HT_.out (by kernel_rfl)) (by decide) (fun K hK => ?_)
 refine Kd.R_append_rows_step k40 (w0 := w) w.heap.size (by rfl) (.tmp 209) (.tmp 211) 31 40 (.agg #[(.int .i64 0), (.int .i64 0)]) 16 rfl Try.underlying31 info40 rfl (by decide) (by omega) v432 y431 y434 _ _ _ (fun k_ => some k_ ≠ (.slice Ao26 t392.length co26 : Value).ownBlock ∧ some k_ ≠ (.slice (some ⟨go59, 0, none⟩) y412.length co74 : Value).ownBlock ∧ some k_ ≠ (.slice Ao92 y434.length co92 : Value).ownBlock) (fun _ => False) rfl rfl ?aO ?aR (fun _ _ h => h) (fun _ h => h.elim) ?aF ?aB ?aS ?aL ?_
 (case aR => exact zC (Kd.R_reads' HO436.out).2.2)
 (case aB => exact (zBG HB.out GE384.out))
 (case aF => exact (fun k_ hk => ⟨Kd.fresh' (Kd.R_lt (zR HO_9.out)) k_ hk, Kd.fresh' (Kd.R_lt (zR HO414.out)) k_ hk, Kd.fresh' (Kd.R_lt (zR HO436.out)) k_ hk⟩))
 (case aO => exact (by (with_reducible repeat (first | apply Kd.R_alloc | apply Kd.R_drewN | apply Kd.R_drew)); exact Kd.R_mono HO433.out (fun _ hk => ⟨hk.2.2, ⟨hk.1, hk.2.1⟩⟩)))
 (case aS => exact (below_size (zBG HB.out GE384.out)))
 (case aL => have := LMc66.out; omega)
 intro v438 w91 ho hb hg hat
 rw [← Ny437.out] at ho
 have n0_ := ak (Kd.R_over' (zR HO_6.out) (Kd.R_typed (zR HO433.out)) (by decide) hg)
 have n1_ := ak (Kd.R_after (ok := (fun k_ => some k_ ≠ (.slice (some ⟨go59, 0, none⟩) y412.length co74 : Value).ownBlock ∧ some k_ ≠ (.slice Ao92 y434.length co92 : Value).ownBlock)) (by (with_reducible repeat (first | apply Kd.R_alloc | apply Kd.R_drewN | apply Kd.R_drew)); exact Kd.R_mono HO_9.out (fun _ hk => ⟨⟨hk.1, hk.2.2⟩, hk.2.1⟩)) hg hat)
 have n2_ := ak (Kd.R_over' (zR HO_385001.out) (Kd.R_typed (zR HO433.out)) (by decide) hg)
 have n3_ := ak (blk_grown (g := gb384) (o := .cells #[.int .i16 t380, .slice Ao18 t381.length co18] 27 (0, 0)) (zK BK384.out) hg (Kd.R_ne HO433.out BK384.out (by decide)))
 have n4_ := ak (Kd.R_after (ok := (fun k_ => some k_ ≠ (.slice Ao26 t392.length co26 : Value).ownBlock ∧ some k_ ≠ (.slice Ao92 y434.length co92 : Value).ownBlock)) (by (with_reducible repeat (first | apply Kd.R_alloc | apply Kd.R_drewN | apply Kd.R_drew)); exact Kd.R_mono HO414.out (fun _ hk => ⟨⟨hk.2.2, hk.2.1⟩, hk.1⟩)) hg hat)
 have n5_ := ak (Kd.R_after (ok := (fun k_ => some k_ ≠ (.slice Ao26 t392.length co26 : Value).ownBlock ∧ some k_ ≠ (.slice (some ⟨go59, 0, none⟩) y412.length co74 : Value).ownBlock)) (by (with_reducible repeat (first | apply Kd.R_alloc | apply Kd.R_drewN | apply Kd.R_drew)); exact Kd.R_mono HO436.out (fun _ hk => ⟨⟨hk.2.2, hk.1⟩, hk.2.1⟩)) hg hat)
 have n6_ := ak (hb)
 have n7_ := ak (ho)
 clear HO_6 HO_9 HO_385001 BK384 HO414 HO436 HB HO433
 have HO_6 := n0_
 have HO_9 := n1_
 have HO_385001 := n2_
 have BK384 := n3_
 have HO414 := n4_
 have HO436 := n5_
 have HB := n6_
 have HO439 := n7_
 clear n0_ n1_ n2_ n3_ n4_ n5_ n6_ n7_ ho hb hg hat
 obtain ⟨Ao93, co93, eo93⟩ := Kd.R_slice HO439.out
 (first | subst eo93 | (injection eo93 with f1_ f2_ f3_; have f4_ := f1_.symm; have f5_ := f3_.symm; clear f1_ f2_ f3_; subst f4_; subst f5_))
 refine hK.out _ _ ⟨(blk_cell BK384.out 0).trans rfl, (blk_cell BK384.out 1).trans rfl⟩ (fun hHeld => ?_)
 clear hK K
 refine norm_ (a' := ?_) ?_ ?_
 rotate_left
 {
 show Act.put _ (some 212) _ = _
 simp only [Act.put, zs, zz, zk, i64_w, i32_w]
 rfl
 }
 refine one_ (i := 8) (N := some 213) (bA 14 511) rfl rfl (one_of HT_.out (by kernel_rfl)) (by decide) (fun K hK => ?_)
 refine goes_ Try.func10 (by kernel_rfl) rfl #[.agg #[.int .i16 t380, .slice Ao18 t381.length co18], .slice Ao21 t385.length co21, .slice Ao93 y437.length co93] (by rfl) rfl rfl gl_ ?_
 with_reducible refine (impl_FirstFault.calls k3 t380 _ _ t381 _ _ t385 _ _ y437 t440 t441 _ ?side1 ?side2 ?side3 ?side4 ?side5 ?side6 A67.out).mono ?_
 (case side1 => exact zC (Kd.R_reads' HO_385001.out).2.2)
 (case side2 => exact (Kd.R_reads' HO_385001.out).2.1)
 (case side3 => exact zC (Kd.R_reads' HO_6.out).2.2)
 (case side4 => exact (Kd.R_reads' HO_6.out).2.1)
 (case side5 => exact zC (Kd.R_reads' HO439.out).2.2)
 (case side6 => exact (Kd.R_reads' HO439.out).2.1)
 rintro e w94 ⟨rfl, hb⟩
 refine ⟨_, rfl, ?_⟩
 have n0_ := ak (Kd.R_below (zR HO_6.out) hb)
 have n1_ := ak (Kd.R_below (zR HO_9.out) hb)
 have n2_ := ak (Kd.R_below (zR HO_385001.out) hb)
 have n3_ := ak (Kd.R_below (zR HO414.out) hb)
 have n4_ := ak (Kd.R_below (zR HO436.out) hb)
 have n5_ := ak (Kd.R_below (zR HO439.out) hb)
 have n6_ := ak (blk_below (g := gb384) (o := .cells #[.int .i16 t380, .slice Ao18 t381.length co18] 27 (0, 0)) (zK BK384.out) hb)
 have n7_ := ak (below_step (zBG HB.out GE384.out) hb)
 clear HO_6 HO_9 HO_385001 HO414 HO436 HO439 BK384 HB
 have HO_6 := n0_
 have HO_9 := n1_
 have HO_385001 := n2_
 have HO414 := n3_
 have HO436 := n4_
 have HO439 := n5_
 have BK384 := n6_
 have HB := n7_
 clear n0_ n1_ n2_ n3_ n4_ n5_ n6_ n7_
 (try clear hb)
 (try clear hb2)
 (try clear hk)
 (try clear hi)
 refine hK.out _ _ ⟨(blk_cell BK384.out 0).trans rfl, (blk_cell BK384.out 1).trans rfl⟩ (fun hHeld => ?_)
 clear hK K
 refine norm_ (a' := ?_) ?_ ?_
 rotate_left
 {
 show Act.put _ (some 213) _ = _
 simp only [Act.put, zs, zz, zk, i64_w, i32_w]
 rfl
 }
 refine pure_ (i := 9) (N := some 204) (v := ?_) (a' := ?_) (bA 14 1023) rfl rfl (any_of HT_.out (by kernel_rfl)) (fun _ _ _ h => h) (Or.inl ⟨by rfl, ?_⟩) ?_ ?_
 rotate_left
 {
 intro w'
 go_simp
 with_reducible rfl
 }
 rotate_left
 · exact pt_
 refine pure_ (i := 10) (N := some 214) (v := ?_) (a' := ?_) (bA 14 2047) rfl rfl (any_of HT_.out (by kernel_rfl)) (fun _ _ _ h => h) (Or.inl ⟨by rfl, ?_⟩) ?_ ?_
 rotate_left
 {
 intro w'
 go_simp
 with_reducible rfl
 }
 rotate_left
 · exact pt_
 refine pure_ (i := 11) (N := some 215) (v := ?_) (a' := ?_) (bA 14 4095) rfl rfl (any_of HT_.out (by kernel_rfl)) (fun _ _ _ h => h) (Or.inl ⟨by rfl, ?_⟩) ?_ ?_
 rotate_left
 {
 intro w'
 go_simp
 with_reducible rfl
 }
 rotate_left
 · exact pt_
 refine pure_ (i := 12) (N := some 27) (v := ?_) (a' := ?_) (bA 14 8191) rfl rfl (any_of HT_.out (by kernel_rfl)) (fun _ _ _ h => h) (Or.inl ⟨by rfl, ?_⟩) ?_ ?_
 rotate_left
 {
 intro w'
 go_simp
 with_reducible rfl
 }
 rotate_left
 · exact pt_
 refine pure_ (i := 13) (N := some 28) (v := ?_) (a' := ?_) (bA 14 16383) rfl rfl (any_of HT_.out (by kernel_rfl)) (fun _ _ _ h => h) (Or.inl ⟨by rfl, ?_⟩) ?_ ?_
 rotate_left
 {
 intro w'
 go_simp
 with_reducible rfl
 }
 rotate_left
 · exact pt_
 refine done_ (done_of HT_.out (by kernel_rfl)) ?_
 go_upto_region 27 with (fail)
 refine wp_cutM 20657999024695268717247353376024094994637646342633788102645274852325180976134729557037162826241102651487225358189793902592 (fun (u : Nat → Value) wc => ∃ (kq : Nat) (x247_67 : Bool), u 247 = .bool x247_67 ∧ Aside0 (laws_FnSaid.j3 kq t385 (t385.length : Int) t408 x247_67 t380 t381 = some r) ∧ Aside0 (kq ≤ k3) ∧ Aside0 (Kd.R k47 47 wc w.heap.size (fun _ => True) (.slice Ao21 t385.length co21) t385) ∧ Aside0 (Kd.R (Kd.int .i16) 24 wc w.heap.size (fun _ => True) (.slice Ao18 t381.length co18) t381) ∧ Aside0 (wc.heap[gb384]? = some (.cells #[.int .i16 t380, (.slice Ao18 t381.length co18)] 27 (0, 0))) ∧ Aside0 (Below w.heap.size w wc)) ?first ?rest
 case first => (
 as_aux_lemma =>
 intro J_ K_ hJ4_ hK_
 have H := HC68.out
 clear HC68
 by_cases c95 : t419 = 0
 {
 rw [if_pos c95] at H
 have c95b0 : (t419 == 0) = true := beq_iff_eq.mpr c95
 have c95b1 : (t419 != 0) = false := bne_eq_false_iff_eq.mpr c95
 clear c95
 (first | rw [c95b0] | (simp only [i64_w, i32_w]; rw [c95b0]) | skip)
 by_cases c96 : t418 = t408
 {
 rw [if_pos c96] at H
 have c96b0 : (t418 == t408) = true := beq_iff_eq.mpr c96
 have c96b1 : (t418 != t408) = false := bne_eq_false_iff_eq.mpr c96
 clear c96
 by_cases c97 : t421 = 0
 {
 rw [if_pos c97] at H
 have c97b0 : (t421 == 0) = true := beq_iff_eq.mpr c97
 have c97b1 : (t421 != 0) = false := bne_eq_false_iff_eq.mpr c97
 clear c97
 by_cases c98 : t420 = true
 {
 subst c98
 have H1 : (laws_FnSaid.j3 k3 t385 (t385.length : Int) t408 true t380 t381) = some r := by rw [if_pos rfl] at H; exact H
 clear H
 have H := H1
 clear H1
 (
 have H' := ak H
 clear H
 go_wp2
 refine meetM hJ4_ (by kernel_rfl) ?rel
 case rel => dsimp only [List.getD_cons_succ, List.getD_cons_zero]; exact ⟨_, (true), (by first | rfl | (simp; done) | (simp [*]; done)), H', ⟨by have := HJ2.out; have := HJ13.out; have := HK3.out; first | omega | exact Nat.le_refl _⟩, ⟨(zR HO_6.out)⟩, ⟨(zR HO_385001.out)⟩, ⟨(zK BK384.out)⟩, ⟨(zBG HB.out GE384.out)⟩⟩
 )
 }
 {
 replace c98 := Bool.eq_false_iff.mpr c98
 subst c98
 have H1 : (if t427 = 0 then (if t426 = t408 then (if t441 = 0 then (laws_FnSaid.j3 k3 t385 (t385.length : Int) t408 (t440 != (t385.length : Int)) t380 t381) else (laws_FnSaid.j3 k3 t385 (t385.length : Int) t408 true t380 t381)) else (laws_FnSaid.j3 k3 t385 (t385.length : Int) t408 true t380 t381)) else (laws_FnSaid.j3 k3 t385 (t385.length : Int) t408 true t380 t381)) = some r := by rw [if_neg (show ¬ (false = true) by decide)] at H; exact H
 clear H
 have H := H1
 clear H1
 by_cases c99 : t427 = 0
 {
 rw [if_pos c99] at H
 have c99b0 : (t427 == 0) = true := beq_iff_eq.mpr c99
 have c99b1 : (t427 != 0) = false := bne_eq_false_iff_eq.mpr c99
 clear c99
 by_cases c100 : t426 = t408
 {
 rw [if_pos c100] at H
 have c100b0 : (t426 == t408) = true := beq_iff_eq.mpr c100
 have c100b1 : (t426 != t408) = false := bne_eq_false_iff_eq.mpr c100
 clear c100
 by_cases c101 : t441 = 0
 {
 rw [if_pos c101] at H
 have c101b0 : (t441 == 0) = true := beq_iff_eq.mpr c101
 have c101b1 : (t441 != 0) = false := bne_eq_false_iff_eq.mpr c101
 clear c101
 (
 have H' := ak H
 clear H
 go_wp2
 refine meetM hJ4_ (by kernel_rfl) ?rel
 case rel => dsimp only [List.getD_cons_succ, List.getD_cons_zero]; exact ⟨_, ((t440 != (t385.length : Int))), (by first | rfl | (simp; done) | (simp [*]; done)), H', ⟨by have := HJ2.out; have := HJ13.out; have := HK3.out; first | omega | exact Nat.le_refl _⟩, ⟨(zR HO_6.out)⟩, ⟨(zR HO_385001.out)⟩, ⟨(zK BK384.out)⟩, ⟨(zBG HB.out GE384.out)⟩⟩
 )
 }
 {
 rw [if_neg c101] at H
 have c101b0 : (t441 == 0) = false := beq_eq_false_iff_ne.mpr c101
 have c101b1 : (t441 != 0) = true := bne_iff_ne.mpr c101
 (
 have H' := ak H
 clear H
 go_wp2
 refine meetM hJ4_ (by kernel_rfl) ?rel
 case rel => dsimp only [List.getD_cons_succ, List.getD_cons_zero]; exact ⟨_, (true), (by first | rfl | (simp; done) | (simp [*]; done)), H', ⟨by have := HJ2.out; have := HJ13.out; have := HK3.out; first | omega | exact Nat.le_refl _⟩, ⟨(zR HO_6.out)⟩, ⟨(zR HO_385001.out)⟩, ⟨(zK BK384.out)⟩, ⟨(zBG HB.out GE384.out)⟩⟩
 )
 }
 }
 {
 rw [if_neg c100] at H
 have c100b0 : (t426 == t408) = false := beq_eq_false_iff_ne.mpr c100
 have c100b1 : (t426 != t408) = true := bne_iff_ne.mpr c100
 (
 have H' := ak H
 clear H
 go_wp2
 refine meetM hJ4_ (by kernel_rfl) ?rel
 case rel => dsimp only [List.getD_cons_succ, List.getD_cons_zero]; exact ⟨_, (true), (by first | rfl | (simp; done) | (simp [*]; done)), H', ⟨by have := HJ2.out; have := HJ13.out; have := HK3.out; first | omega | exact Nat.le_refl _⟩, ⟨(zR HO_6.out)⟩, ⟨(zR HO_385001.out)⟩, ⟨(zK BK384.out)⟩, ⟨(zBG HB.out GE384.out)⟩⟩
 )
 }
 }
 {
 rw [if_neg c99] at H
 have c99b0 : (t427 == 0) = false := beq_eq_false_iff_ne.mpr c99
 have c99b1 : (t427 != 0) = true := bne_iff_ne.mpr c99
 (
 have H' := ak H
 clear H
 go_wp2
 refine meetM hJ4_ (by kernel_rfl) ?rel
 case rel => dsimp only [List.getD_cons_succ, List.getD_cons_zero]; exact ⟨_, (true), (by first | rfl | (simp; done) | (simp [*]; done)), H', ⟨by have := HJ2.out; have := HJ13.out; have := HK3.out; first | omega | exact Nat.le_refl _⟩, ⟨(zR HO_6.out)⟩, ⟨(zR HO_385001.out)⟩, ⟨(zK BK384.out)⟩, ⟨(zBG HB.out GE384.out)⟩⟩
 )
 }
 }
 }
 {
 rw [if_neg c97] at H
 have c97b0 : (t421 == 0) = false := beq_eq_false_iff_ne.mpr c97
 have c97b1 : (t421 != 0) = true := bne_iff_ne.mpr c97
 (
 have H' := ak H
 clear H
 go_wp2
 refine meetM hJ4_ (by kernel_rfl) ?rel
 case rel => dsimp only [List.getD_cons_succ, List.getD_cons_zero]; exact ⟨_, (true), (by first | rfl | (simp; done) | (simp [*]; done)), H', ⟨by have := HJ2.out; have := HJ13.out; have := HK3.out; first | omega | exact Nat.le_refl _⟩, ⟨(zR HO_6.out)⟩, ⟨(zR HO_385001.out)⟩, ⟨(zK BK384.out)⟩, ⟨(zBG HB.out GE384.out)⟩⟩
 )
 }
 }
 {
 rw [if_neg c96] at H
 have c96b0 : (t418 == t408) = false := beq_eq_false_iff_ne.mpr c96
 have c96b1 : (t418 != t408) = true := bne_iff_ne.mpr c96
 (
 have H' := ak H
 clear H
 go_wp2
 refine meetM hJ4_ (by kernel_rfl) ?rel
 case rel => dsimp only [List.getD_cons_succ, List.getD_cons_zero]; exact ⟨_, (true), (by first | rfl | (simp; done) | (simp [*]; done)), H', ⟨by have := HJ2.out; have := HJ13.out; have := HK3.out; first | omega | exact Nat.le_refl _⟩, ⟨(zR HO_6.out)⟩, ⟨(zR HO_385001.out)⟩, ⟨(zK BK384.out)⟩, ⟨(zBG HB.out GE384.out)⟩⟩
 )
 }
 }
 {
 rw [if_neg c95] at H
 have c95b0 : (t419 == 0) = false := beq_eq_false_iff_ne.mpr c95
 have c95b1 : (t419 != 0) = true := bne_iff_ne.mpr c95
 (first | rw [c95b0] | (simp only [i64_w, i32_w]; rw [c95b0]) | skip)
 (
 have H' := ak H
 clear H
 go_wp2
 refine meetM hJ4_ (by kernel_rfl) ?rel
 case rel => dsimp only [List.getD_cons_succ, List.getD_cons_zero]; exact ⟨_, (true), (by first | rfl | (simp; done) | (simp [*]; done)), H', ⟨by have := HJ2.out; have := HJ13.out; have := HK3.out; first | omega | exact Nat.le_refl _⟩, ⟨(zR HO_6.out)⟩, ⟨(zR HO_385001.out)⟩, ⟨(zK BK384.out)⟩, ⟨(zBG HB.out GE384.out)⟩⟩
 )
 }
 )
 case rest => (
 as_aux_lemma =>
 intro u4_ wc hcut
 dsimp only [frU, cond, Nat.reduceMod, Nat.reduceDiv, Nat.reduceAdd, Nat.reduceBEq, Nat.reduceEqDiff, beq_self_eq_true]
 clear HC68
 try clear c1
 try clear c65
 try clear c66
 obtain ⟨kq, x247_67, eu4_247, HA, HJ67, HO_6, HO_385001, BK384, HB⟩ := hcut
 rw [eu4_247]
 clear eu4_247
 cases kq with
 | zero => exact absurd HA.out (by simp [laws_FnSaid.j3])
 | succ kj67 => (
 have H := HA.out
 clear HA
 simp only [laws_FnSaid.j3] at H
 by_cases c102 : x247_67 = true
 {
 subst c102
 have H1 : (some false) = some r := by rw [if_pos rfl] at H; exact H
 clear H
 have H := H1
 clear H1
 (
 exact absurd ((Option.some.inj H).trans HT.out) (by decide)
 )
 }
 {
 replace c102 := Bool.eq_false_iff.mpr c102
 subst c102
 have H1 : (if (t385.length : Int) < 2 then (some true) else ((some (([] : List (S47)) : List (S47))).bind fun y442 => (if 0 ≤ t408 then (if t408 ≤ (t385.length : Int) then ((some (t385.take (t408 : Int).toNat : List (S47))).bind fun y445 => (if y442.length + y445.length < 35184372088832 then ((some (y442 ++ y445 : List (S47))).bind fun y449 => (if 0 ≤ (wrap64 (t408 + 1)) then (if (wrap64 (t408 + 1)) ≤ (t385.length : Int) then ((some (t385.drop ((wrap64 (t408 + 1)) : Int).toNat : List (S47))).bind fun y452 => (if y449.length + y452.length < 35184372088832 then ((spec_CountAlong.f kj67 t380 t381 (y449 ++ y452)).bind fun bt459 => (if bt459.2 = 0 then (laws_FnSaid.j4 kj67 t385 (t385.length : Int) t408 bt459.1 ((bt459.1.length : Int) == 0) t380 t381) else (laws_FnSaid.j4 kj67 t385 (t385.length : Int) t408 bt459.1 true t380 t381))) else (none))) else (none)) else (none))) else (none))) else (none)) else (none)))) = some r := by rw [if_neg (show ¬ (false = true) by decide)] at H; exact H
 clear H
 have H := H1
 clear H1
 by_cases c103 : (t385.length : Int) < 2
 {
 rw [if_pos c103] at H
 have c103b0 : decide ((t385.length : Int) < 2) = true := decide_eq_true c103
 have c103b1 : decide (t385.length < 2) = true := decide_eq_true (by omega)
 clear c103
 (
 obtain rfl := Option.some.inj H
 go_wp2
 go_ret
 exact ⟨by first | rfl | (simp [errW_none, errW_some] <;> rfl) | (simp [*, errW_none, errW_some] <;> rfl), zBG HB.out GE384.out⟩
 )
 }
 {
 rw [if_neg c103] at H
 have c103b0 : decide ((t385.length : Int) < 2) = false := decide_eq_false c103
 have c103b1 : decide (t385.length < 2) = false := decide_eq_false (by omega)
 clear c103
 obtain ⟨y442, hy442⟩ : ∃ y_ : List (S47), y_ = (([] : List (S47))) := ⟨_, rfl⟩
 replace H : (if 0 ≤ t408 then (if t408 ≤ (t385.length : Int) then ((some (t385.take (t408 : Int).toNat : List (S47))).bind fun y445 => (if y442.length + y445.length < 35184372088832 then ((some (y442 ++ y445 : List (S47))).bind fun y449 => (if 0 ≤ (wrap64 (t408 + 1)) then (if (wrap64 (t408 + 1)) ≤ (t385.length : Int) then ((some (t385.drop ((wrap64 (t408 + 1)) : Int).toNat : List (S47))).bind fun y452 => (if y449.length + y452.length < 35184372088832 then ((spec_CountAlong.f kj67 t380 t381 (y449 ++ y452)).bind fun bt459 => (if bt459.2 = 0 then (laws_FnSaid.j4 kj67 t385 (t385.length : Int) t408 bt459.1 ((bt459.1.length : Int) == 0) t380 t381) else (laws_FnSaid.j4 kj67 t385 (t385.length : Int) t408 bt459.1 true t380 t381))) else (none))) else (none)) else (none))) else (none))) else (none)) else (none)) = some r := by first | (rw [hy442]; with_reducible exact H) | (have H2_ := (Option.bind_some _ _).symm.trans H; rw [hy442]; with_reducible exact H2_) | (have H2_ := (Option.bind_some _ _).symm.trans H; with_reducible exact H2_) | with_reducible exact H | (rw [hy442]; exact H) | exact H
 have Ny442 := ak hy442
 clear hy442
 by_cases c104 : 0 ≤ t408
 {
 rw [if_pos c104] at H
 have c104b0 := eq_true c104
 have c104b1 : decide (0 ≤ t408) = true := decide_eq_true c104
 clear c104
 by_cases c105 : t408 ≤ (t385.length : Int)
 {
 rw [if_pos c105] at H
 have c105b0 := eq_true c105
 have c105b1 : decide (t408 ≤ (t385.length : Int)) = true := decide_eq_true c105
 clear c105
 obtain ⟨y445, hy445⟩ : ∃ y_ : List (S47), y_ = (t385.take (t408 : Int).toNat) := ⟨_, rfl⟩
 replace H : (if y442.length + y445.length < 35184372088832 then ((some (y442 ++ y445 : List (S47))).bind fun y449 => (if 0 ≤ (wrap64 (t408 + 1)) then (if (wrap64 (t408 + 1)) ≤ (t385.length : Int) then ((some (t385.drop ((wrap64 (t408 + 1)) : Int).toNat : List (S47))).bind fun y452 => (if y449.length + y452.length < 35184372088832 then ((spec_CountAlong.f kj67 t380 t381 (y449 ++ y452)).bind fun bt459 => (if bt459.2 = 0 then (laws_FnSaid.j4 kj67 t385 (t385.length : Int) t408 bt459.1 ((bt459.1.length : Int) == 0) t380 t381) else (laws_FnSaid.j4 kj67 t385 (t385.length : Int) t408 bt459.1 true t380 t381))) else (none))) else (none)) else (none))) else (none)) = some r := by first | (rw [hy445]; with_reducible exact H) | (have H2_ := (Option.bind_some _ _).symm.trans H; rw [hy445]; with_reducible exact H2_) | (have H2_ := (Option.bind_some _ _).symm.trans H; with_reducible exact H2_) | with_reducible exact H | (rw [hy445]; exact H) | exact H
 have Ny445 := ak hy445
 clear hy445
 by_cases c106 : y442.length + y445.length < 35184372088832
 {
 rw [if_pos c106] at H
 have LMc106 := ak c106
 clear c106
 obtain ⟨y449, hy449⟩ : ∃ y_ : List (S47), y_ = (y442 ++ y445) := ⟨_, rfl⟩
 replace H : (if 0 ≤ (wrap64 (t408 + 1)) then (if (wrap64 (t408 + 1)) ≤ (t385.length : Int) then ((some (t385.drop ((wrap64 (t408 + 1)) : Int).toNat : List (S47))).bind fun y452 => (if y449.length + y452.length < 35184372088832 then ((spec_CountAlong.f kj67 t380 t381 (y449 ++ y452)).bind fun bt459 => (if bt459.2 = 0 then (laws_FnSaid.j4 kj67 t385 (t385.length : Int) t408 bt459.1 ((bt459.1.length : Int) == 0) t380 t381) else (laws_FnSaid.j4 kj67 t385 (t385.length : Int) t408 bt459.1 true t380 t381))) else (none))) else (none)) else (none)) = some r := by first | (rw [hy449]; with_reducible exact H) | (have H2_ := (Option.bind_some _ _).symm.trans H; rw [hy449]; with_reducible exact H2_) | (have H2_ := (Option.bind_some _ _).symm.trans H; with_reducible exact H2_) | with_reducible exact H | (rw [hy449]; exact H) | exact H
 have Ny449 := ak hy449
 clear hy449
 obtain ⟨ji107, hji107⟩ : ∃ j_ : Int, (wrap64 (t408 + 1)) = j_ := ⟨_, rfl⟩
 replace H : (if 0 ≤ (ji107) then (if (ji107) ≤ (t385.length : Int) then ((some (t385.drop ((ji107) : Int).toNat : List (S47))).bind fun y452 => (if y449.length + y452.length < 35184372088832 then ((spec_CountAlong.f kj67 t380 t381 (y449 ++ y452)).bind fun bt459 => (if bt459.2 = 0 then (laws_FnSaid.j4 kj67 t385 (t385.length : Int) t408 bt459.1 ((bt459.1.length : Int) == 0) t380 t381) else (laws_FnSaid.j4 kj67 t385 (t385.length : Int) t408 bt459.1 true t380 t381))) else (none))) else (none)) else (none)) = some r := by first | (rw [hji107] at H; exact H) | (simp only [hji107] at H ⊢; exact H)
 have hji107w : (IntKind.i64.wrap (t408 + 1)) = ji107 := (i64_w _).trans hji107
 by_cases c108 : 0 ≤ (ji107)
 {
 rw [if_pos c108] at H
 have c108b0 := eq_true c108
 have c108b1 : decide (0 ≤ (ji107)) = true := decide_eq_true c108
 clear c108
 by_cases c109 : (ji107) ≤ (t385.length : Int)
 {
 rw [if_pos c109] at H
 have c109b0 := eq_true c109
 have c109b1 : decide ((ji107) ≤ (t385.length : Int)) = true := decide_eq_true c109
 clear c109
 obtain ⟨y452, hy452⟩ : ∃ y_ : List (S47), y_ = (t385.drop ((ji107) : Int).toNat) := ⟨_, rfl⟩
 replace H : (if y449.length + y452.length < 35184372088832 then ((spec_CountAlong.f kj67 t380 t381 (y449 ++ y452)).bind fun bt459 => (if bt459.2 = 0 then (laws_FnSaid.j4 kj67 t385 (t385.length : Int) t408 bt459.1 ((bt459.1.length : Int) == 0) t380 t381) else (laws_FnSaid.j4 kj67 t385 (t385.length : Int) t408 bt459.1 true t380 t381))) else (none)) = some r := by first | (rw [hy452]; with_reducible exact H) | (have H2_ := (Option.bind_some _ _).symm.trans H; rw [hy452]; with_reducible exact H2_) | (have H2_ := (Option.bind_some _ _).symm.trans H; with_reducible exact H2_) | with_reducible exact H | (rw [hy452]; exact H) | exact H
 have Ny452 := ak hy452
 clear hy452
 by_cases c110 : y449.length + y452.length < 35184372088832
 {
 rw [if_pos c110] at H
 have LMc110 := ak c110
 clear c110
 obtain ⟨y456, hy456⟩ : ∃ y_ : List (S47), y_ = (y449 ++ y452) := ⟨_, rfl⟩
 replace H : ((spec_CountAlong.f kj67 t380 t381 y456).bind fun bt459 => (if bt459.2 = 0 then (laws_FnSaid.j4 kj67 t385 (t385.length : Int) t408 bt459.1 ((bt459.1.length : Int) == 0) t380 t381) else (laws_FnSaid.j4 kj67 t385 (t385.length : Int) t408 bt459.1 true t380 t381))) = some r := by first | (rw [hy456]; with_reducible exact H) | (have H2_ := (Option.bind_some _ _).symm.trans H; rw [hy456]; with_reducible exact H2_) | (have H2_ := (Option.bind_some _ _).symm.trans H; with_reducible exact H2_) | with_reducible exact H | (rw [hy456]; exact H) | exact H
 have Ny456 := ak hy456
 clear hy456
 replace H := Option.bind_eq_some_iff.mp H
 obtain ⟨⟨t459, t462⟩, A1110, H⟩ := H
 replace H : (if t462 = 0 then (laws_FnSaid.j4 kj67 t385 (t385.length : Int) t408 t459 ((t459.length : Int) == 0) t380 t381) else (laws_FnSaid.j4 kj67 t385 (t385.length : Int) t408 t459 true t380 t381)) = some r := H
 have A111 := ak A1110
 clear A1110
 have HC112 := ak H
 clear H
 try go_wp2
 have n0_ := ak (Kd.R_drew HO_6.out)
 have n1_ := ak (Kd.R_drew HO_385001.out)
 have n2_ := ak (blk_drew BK384.out)
 have n3_ := ak (below_drew1 HB.out)
 clear HO_6 HO_385001 BK384 HB
 have HO_6 := n0_
 have HO_385001 := n1_
 have BK384 := n2_
 have HB := n3_
 clear n0_ n1_ n2_ n3_
 have q114 : (t408 : Int) ≤ ((t385.length : Int) : Int) := of_decide_eq_true (by first | (with_reducible assumption) | assumption)
 obtain ⟨i0114, hi0114, _, hsz114, _⟩ := info_parts info47
 have hroom114 : t385.length ≤ co21 := (Kd.R_reads' HO_6.out).2.1
 have hC114 : Kd.C k47 _ Ao21 t385.length t385 := (Kd.R_reads' HO_6.out).2.2
 have hcut114 := cut_to (P := Try.prog) 29 47 .i64 Try.underlying29 hi0114 Ao21 t385.length co21 t408 (of_decide_eq_true (by first | (with_reducible assumption) | assumption)) q114 hroom114
 have hr114 := Kd.C_take (m := (t408 : Int).toNat) hC114 (by omega)
 have hy114 : y445.length = (t408 : Int).toNat := (by rw [Ny445.out, List.length_take]; omega)
 rw [← Ny445.out] at hr114
 rw [← hy114] at hcut114
 have HR448 := ak hr114
 have HC448 := ak (show y445.length ≤ co21 from by omega)
 clear hr114 hC114 hroom114 hi0114 hsz114
 have KY114 := ak hy114
 clear hy114
 have KL114 := ak (show (t408 : Int).toNat ≤ t385.length from by omega)
 replace q114 := eq_true q114
 have q115 : ((ji107) : Int) ≤ ((t385.length : Int) : Int) := of_decide_eq_true (by first | (with_reducible assumption) | assumption)
 obtain ⟨i0115, hi0115, _, hsz115, _⟩ := info_parts info47
 have hroom115 : t385.length ≤ co21 := (Kd.R_reads' HO_6.out).2.1
 have hC115 : Kd.C k47 _ Ao21 t385.length t385 := (Kd.R_reads' HO_6.out).2.2
 have q0115 : (0 : Int) ≤ ((ji107) : Int) := of_decide_eq_true (by first | (with_reducible assumption) | assumption)
 have hcut115 := cut_from (P := Try.prog) 29 47 .i64 Try.underlying29 hi0115 2 hsz115 Ao21 t385.length co21 (ji107) q0115 q115
 have hr115 := Kd.C_drop (m := ((ji107) : Int).toNat) (c := co21) hC115 (by omega) hroom115
 obtain ⟨A115, hA115⟩ : ∃ Aq_, Aq_ = (if co21 = ((ji107) : Int).toNat then Ao21 else (Ao21 : Option Addr).map (·.add (((ji107) : Int).toNat * 2))) := ⟨_, rfl⟩
 obtain ⟨c115, hc115⟩ : ∃ cq_, cq_ = co21 - ((ji107) : Int).toNat := ⟨_, rfl⟩
 have hy115 : y452.length = t385.length - ((ji107) : Int).toNat := (by rw [Ny452.out, List.length_drop] <;> omega)
 rw [show (t385).drop ((ji107) : Int).toNat = y452 from Ny452.out.symm] at hr115
 replace hr115 : Kd.C k47 _ A115 y452.length y452 := (by rw [hA115]; exact hr115)
 rw [← hy115, ← hA115, ← hc115] at hcut115
 have HR455 := ak hr115
 have HC455 := ak (show y452.length ≤ c115 from by rw [hy115, hc115]; exact Nat.sub_le_sub_right hroom115 _)
 clear hr115 hC115 hroom115 hi0115 hsz115 hc115
 have KY115 := ak hy115
 have KA115 := ak hA115
 clear hy115 hA115
 have KL115 := ak (show ((ji107) : Int).toNat ≤ t385.length from by omega)
 replace q115 := eq_true q115
 refine start_ (n := 11) (S := fun w' => True) (ds := []) (bA 11 0) (by kernel_rfl) rfl rfl trivial (fun hHeld => ?_); refine with_tabW laws_FnSaid.tab31 laws_FnSaid.bits31 (fun HT_ HW_ => ?_)
 generalize wc.drew = w113 at HO_6 HO_385001 BK384 HB HR448 HR455 hHeld ⊢
 refine pure_ (i := 1) (N := some 251) (v := ?_) (a' := ?_) (bA 11 2) rfl rfl (any_of HT_.out (by kernel_rfl)) (fun _ _ _ h => h) (Or.inl ⟨by rfl, ?_⟩) ?_ ?_
 rotate_left
 {
 intro w'
 go_simp
 with_reducible rfl
 }
 rotate_left
 · exact pt_
 refine pure_ (i := 2) (N := some 252) (v := ?_) (a' := ?_) (bA 11 6) rfl rfl (any_of HT_.out (by kernel_rfl)) (fun _ _ _ h => h) (Or.inl ⟨by rfl, ?_⟩) ?_ ?_
 rotate_left
 {
 intro w'
 go_simp
 with_reducible rfl
 }
 rotate_left
 · exact pt_
 refine pure_ (i := 3) (N := some 253) (v := ?_) (a' := ?_) (bA 11 14) rfl rfl (any_of HT_.out (by kernel_rfl)) (fun _ _ _ h => h) (Or.inl ⟨by rfl, ?_⟩) ?_ ?_
 rotate_left
 {
 intro w'
 go_simp
 with_reducible rfl
 }
 rotate_left
 · exact pt_
 refine pure_ (i := 5) (N := some 255) (v := ?_) (a' := ?_) (bA 11 46) rfl rfl (any_of HT_.out (by kernel_rfl)) (fun _ _ _ h => h) (Or.inl ⟨by rfl, ?_⟩) ?_ ?_
 rotate_left
 {
 intro w'
 go_simp
 with_reducible rfl
 }
 rotate_left
 · exact pt_
 refine pure_ (i := 6) (N := some 256) (v := ?_) (a' := ?_) (bA 11 110) rfl rfl (any_of HT_.out (by kernel_rfl)) (fun _ _ _ h => h) (Or.inl ⟨by rfl, ?_⟩) ?_ ?_
 rotate_left
 {
 intro w'
 go_simp
 with_reducible rfl
 }
 rotate_left
 · exact pt_
 refine pure_ (i := 7) (N := some 257) (v := ?_) (a' := ?_) (bA 11 238) rfl rfl (any_of HT_.out (by kernel_rfl)) (fun _ _ _ h => h) (Or.inl ⟨by rfl, ?_⟩) ?_ ?_
 rotate_left
 {
 intro w'
 go_simp
 with_reducible rfl
 }
 rotate_left
 · exact pt_
 refine pure_ (i := 8) (N := some 258) (v := ?_) (a' := ?_) (bA 11 494) rfl rfl (any_of HT_.out (by kernel_rfl)) (fun _ _ _ h => h) (Or.inl ⟨by rfl, ?_⟩) ?_ ?_
 rotate_left
 {
 intro w'
 go_simp
 with_reducible rfl
 }
 rotate_left
 · exact pt_
 refine one_ (i := 0) (N := some 250) (bA 11 495) rfl rfl (one_of HT_.out (by kernel_rfl)) (by decide) (fun K hK => ?_)
 refine Kd.R_lit_step k47 _ 47 ?hg (N := 250) ?hd (xs := ([] : List (S47))) (inner := []) (ok := fun _ => True) (okp := fun _ => True) ?hr ?hp (fun _ hk => hk) trivial (Below.refl _ _) (Nat.le_refl _) (by simp) ?_; (case hd => rfl); (case hg => rfl); (case hr => first | (go_simp; done) | (go_simp; rfl)); (case hp => exact (Reps.none _ _))
 intro v443 w116 ho117 hb hg_ hnew_
 clear hg_ hnew_
 (first | rw [← Ny442.out] at ho117 | (simp only [Int.reduceToNat] at ho117; rw [← Ny442.out] at ho117))
 have n0_ := ak (Kd.R_elder' (zR HO_6.out) (Kd.R_base ho117) hb)
 have n1_ := ak (Kd.R_below (zR HO_385001.out) hb)
 have n2_ := ak (Kd.R_lower (Kd.R_new' ho117 (Kd.R_lt (zR HO_6.out))) (below_size (zBG HB.out GE384.out)))
 have n3_ := ak (blk_below (g := gb384) (o := .cells #[.int .i16 t380, .slice Ao18 t381.length co18] 27 (0, 0)) (zK BK384.out) hb)
 have n4_ := ak (Kd.C_below (zC HR448.out) hb)
 have n5_ := ak (Kd.C_below (zC HR455.out) hb)
 have n6_ := ak (below_step (zBG HB.out GE384.out) hb)
 clear HO_6 HO_385001 BK384 HR448 HR455 HB
 have HO_6 := n0_
 have HO_385001 := n1_
 have HO444 := n2_
 have BK384 := n3_
 have HR448 := n4_
 have HR455 := n5_
 have HB := n6_
 clear n0_ n1_ n2_ n3_ n4_ n5_ n6_ hb ho117
 refine hK.out _ _ trivial (fun hHeld => ?_)
 clear hK K
 refine norm_ (a' := ?_) ?_ ?_
 rotate_left
 {
 show Act.put _ (some 250) _ = _
 simp only [Act.put, zs, zz, zk, i64_w, i32_w]
 rfl
 }
 refine one_ (i := 4) (N := some 254) (bA 11 511) rfl rfl (one_of HT_.out (by kernel_rfl)) (by decide) (fun K hK => ?_)
 refine Kd.R_append_rows_step k47 (w0 := w) w.heap.size (by rfl) (.tmp 250) (.tmp 253) 29 47 (.agg #[(.int .i16 0), (.int .i8 0)]) 4 rfl Try.underlying29 info47 rfl (by decide) (by omega) v443 y442 y445 _ _ _ (fun k_ => some k_ ≠ (.slice Ao21 t385.length co21 : Value).ownBlock) (fun _ => False) rfl rfl ?aO ?aR (fun _ _ h => h) (fun _ h => h.elim) ?aF ?aB ?aS ?aL ?_
 (case aR => repeat (first | exact (zC HR448.out) | (with_reducible refine Kd.C_alloc ?_ _) | (with_reducible refine Kd.C_drewN ?_ _) | (with_reducible refine Kd.C_drew ?_)))
 (case aB => exact (zBG HB.out GE384.out))
 (case aF => exact (fun k_ hk => Kd.fresh' (Kd.R_lt (zR HO_6.out)) k_ hk))
 (case aO => exact (by (with_reducible repeat (first | apply Kd.R_alloc | apply Kd.R_drewN | apply Kd.R_drew)); exact Kd.R_mono HO444.out (fun _ hk => hk.2)))
 (case aS => exact (below_size (zBG HB.out GE384.out)))
 (case aL => have := LMc106.out; omega)
 intro v450 w118 ho hb hg hat
 rw [← Ny449.out] at ho
 have n0_ := ak (Kd.R_after (ok := (fun _ => True)) (zR HO_6.out) hg hat)
 have n1_ := ak (Kd.R_over' (zR HO_385001.out) (Kd.R_typed (zR HO444.out)) (by decide) hg)
 have n2_ := ak (blk_grown (g := gb384) (o := .cells #[.int .i16 t380, .slice Ao18 t381.length co18] 27 (0, 0)) (zK BK384.out) hg (Kd.R_ne HO444.out BK384.out (by decide)))
 have n3_ := ak (hb)
 have n4_ := ak ((show Kd.C k47 w118 Ao21 y445.length y445 from by rw [Ny445.out]; exact Kd.C_take (m := (t408 : Int).toNat) ((Kd.R_reads' (Kd.R_after (ok := (fun _ => True)) (zR HO_6.out) hg hat)).2.2) KL114.out))
 have n5_ := ak ((show Kd.C k47 w118 A115 y452.length y452 from by rw [Ny452.out, KA115.out]; exact Kd.C_drop (m := ((ji107) : Int).toNat) (c := co21) ((Kd.R_reads' (Kd.R_after (ok := (fun _ => True)) (zR HO_6.out) hg hat)).2.2) KL115.out ((Kd.R_reads' (Kd.R_after (ok := (fun _ => True)) (zR HO_6.out) hg hat)).2.1)))
 have n6_ := ak (ho)
 clear HO_6 HO_385001 BK384 HB HR448 HR455 HO444
 have HO_6 := n0_
 have HO_385001 := n1_
 have BK384 := n2_
 have HB := n3_
 have HR448 := n4_
 have HR455 := n5_
 have HO451 := n6_
 clear n0_ n1_ n2_ n3_ n4_ n5_ n6_ ho hb hg hat
 refine hK.out _ _ trivial (fun hHeld => ?_)
 clear hK K
 refine norm_ (a' := ?_) ?_ ?_
 rotate_left
 {
 show Act.put _ (some 254) _ = _
 simp only [Act.put, zs, zz, zk, i64_w, i32_w]
 rfl
 }
 refine one_ (i := 9) (N := some 259) (bA 11 1023) rfl rfl (one_of HT_.out (by kernel_rfl)) (by decide) (fun K hK => ?_)
 refine Kd.R_append_rows_step k47 (w0 := w) w.heap.size (by rfl) (.tmp 254) (.tmp 258) 29 47 (.agg #[(.int .i16 0), (.int .i8 0)]) 4 rfl Try.underlying29 info47 rfl (by decide) (by omega) v450 y449 y452 _ _ _ (fun k_ => some k_ ≠ (.slice Ao21 t385.length co21 : Value).ownBlock) (fun _ => False) rfl rfl ?aO ?aR (fun _ _ h => h) (fun _ h => h.elim) ?aF ?aB ?aS ?aL ?_
 (case aR => repeat (first | exact (zC HR455.out) | (with_reducible refine Kd.C_alloc ?_ _) | (with_reducible refine Kd.C_drewN ?_ _) | (with_reducible refine Kd.C_drew ?_)))
 (case aB => exact (zBG HB.out GE384.out))
 (case aF => exact (fun k_ hk => Kd.fresh' (Kd.R_lt (zR HO_6.out)) k_ hk))
 (case aO => exact (zR HO451.out))
 (case aS => exact (below_size (zBG HB.out GE384.out)))
 (case aL => have := LMc110.out; omega)
 intro v457 w119 ho hb hg hat
 rw [← Ny456.out] at ho
 have n0_ := ak (Kd.R_after (ok := (fun _ => True)) (zR HO_6.out) hg hat)
 have n1_ := ak (Kd.R_over' (zR HO_385001.out) (Kd.R_typed (zR HO451.out)) (by decide) hg)
 have n2_ := ak (blk_grown (g := gb384) (o := .cells #[.int .i16 t380, .slice Ao18 t381.length co18] 27 (0, 0)) (zK BK384.out) hg (Kd.R_ne HO451.out BK384.out (by decide)))
 have n3_ := ak (hb)
 have n4_ := ak ((show Kd.C k47 w119 Ao21 y445.length y445 from by rw [Ny445.out]; exact Kd.C_take (m := (t408 : Int).toNat) ((Kd.R_reads' (Kd.R_after (ok := (fun _ => True)) (zR HO_6.out) hg hat)).2.2) KL114.out))
 have n5_ := ak ((show Kd.C k47 w119 A115 y452.length y452 from by rw [Ny452.out, KA115.out]; exact Kd.C_drop (m := ((ji107) : Int).toNat) (c := co21) ((Kd.R_reads' (Kd.R_after (ok := (fun _ => True)) (zR HO_6.out) hg hat)).2.2) KL115.out ((Kd.R_reads' (Kd.R_after (ok := (fun _ => True)) (zR HO_6.out) hg hat)).2.1)))
 have n6_ := ak (ho)
 clear HO_6 HO_385001 BK384 HB HR448 HR455 HO451
 have HO_6 := n0_
 have HO_385001 := n1_
 have BK384 := n2_
 have HB := n3_
 have HR448 := n4_
 have HR455 := n5_
 have HO458 := n6_
 clear n0_ n1_ n2_ n3_ n4_ n5_ n6_ ho hb hg hat
 refine hK.out _ _ trivial (fun hHeld => ?_)
 clear hK K
 refine norm_ (a' := ?_) ?_ ?_
 rotate_left
 {
 show Act.put _ (some 259) _ = _
 simp only [Act.put, zs, zz, zk, i64_w, i32_w]
 rfl
 }
 refine pure_ (i := 10) (N := some 29) (v := ?_) (a' := ?_) (bA 11 2047) rfl rfl (any_of HT_.out (by kernel_rfl)) (fun _ _ _ h => h) (Or.inl ⟨by rfl, ?_⟩) ?_ ?_
 rotate_left
 {
 intro w'
 go_simp
 with_reducible rfl
 }
 rotate_left
 · exact pt_
 refine done_ (done_of HT_.out (by kernel_rfl)) ?_
 have hcz120_0 : w119.cell? ⟨gb384, 0, none⟩ = some (.int .i16 t380) := (blk_cell BK384.out 0).trans rfl
 have hcz120_1 : w119.cell? ⟨gb384, 1, none⟩ = some (.slice Ao18 t381.length co18) := (blk_cell BK384.out 1).trans rfl
 have hfz120_0 := blk_frozen BK384.out 0
 have hfz120_1 := blk_frozen BK384.out 1
 obtain ⟨Ao121, co121, eo121⟩ := Kd.R_slice HO458.out
 subst eo121
 go_upto_region 33 with (first | ((with_reducible refine gate_callee (f := 8) rfl ?_); refine goesL_ (some 263) rfl rfl Try.func8 (by kernel_rfl) rfl #[.agg #[.int .i16 t380, .slice Ao18 t381.length co18], .slice Ao121 y456.length co121] rfl gl_ ?_; (with_reducible refine (spec_CountAlong.calls kj67 t380 _ _ t381 _ _ y456 t459 t462 _ ?side1 ?side2 ?side3 ?side4 A111.out).mono ?_); (case side1 => exact zC (Kd.R_reads' HO_385001.out).2.2); (case side2 => exact (Kd.R_reads' HO_385001.out).2.1); (case side3 => exact zC (Kd.R_reads' HO458.out).2.2); (case side4 => exact (Kd.R_reads' HO458.out).2.1); rintro e w122 ⟨v460, rfl, ho0, hb⟩; refine ⟨_, rfl, ?_⟩; have n0_ := ak (Kd.R_below (zR HO_6.out) hb); have n1_ := ak (Kd.R_below (zR HO_385001.out) hb); have n2_ := ak (Kd.R_below (zR HO458.out) hb); have n3_ := ak (Kd.R_lower ho0 (below_size (zBG HB.out GE384.out))); have n4_ := ak (blk_below (g := gb384) (o := .cells #[.int .i16 t380, .slice Ao18 t381.length co18] 27 (0, 0)) (zK BK384.out) hb); have n5_ := ak (Kd.C_below (zC HR448.out) hb); have n6_ := ak (Kd.C_below (zC HR455.out) hb); have n7_ := ak (below_step (zBG HB.out GE384.out) hb); clear HO_6 HO_385001 HO458 BK384 HR448 HR455 HB; have HO_6 := n0_; have HO_385001 := n1_; have HO458 := n2_; have HO461 := n3_; have BK384 := n4_; have HR448 := n5_; have HR455 := n6_; have HB := n7_; clear n0_ n1_ n2_ n3_ n4_ n5_ n6_ n7_; (try clear hb); (try clear hb2); (try clear hk); (try clear hi); (try clear ho0)))
 (try simp only [Act.put, zs, zz, zk])
 refine wp_cutM 20657999024695268717247353376024094994637646342633788102645274852325180976134729557037162826241102651487225358189793902592 (fun (u : Nat → Value) wc => ∃ (kq : Nat) (x272_111 : Bool), u 272 = .bool x272_111 ∧ Aside0 (laws_FnSaid.j4 kq t385 (t385.length : Int) t408 t459 x272_111 t380 t381 = some r) ∧ Aside0 (kq ≤ kj67) ∧ Aside0 (Kd.R k47 47 wc w.heap.size (fun _ => True) (.slice Ao21 t385.length co21) t385) ∧ Aside0 (Kd.R k40 40 wc w.heap.size (fun _ => True) v460 t459) ∧ Aside0 (Kd.R (Kd.int .i16) 24 wc w.heap.size (fun _ => True) (.slice Ao18 t381.length co18) t381) ∧ Aside0 (wc.heap[gb384]? = some (.cells #[.int .i16 t380, (.slice Ao18 t381.length co18)] 27 (0, 0))) ∧ Aside0 (Kd.C k47 wc Ao21 y445.length y445) ∧ Aside0 (Kd.C k47 wc A115 y452.length y452) ∧ Aside0 (Below w.heap.size w wc)) ?first ?rest
 case first => (
 intro J_ K_ hJ5_ hK_
 have H := HC112.out
 clear HC112
 by_cases c123 : t462 = 0
 {
 rw [if_pos c123] at H
 have c123b0 : (t462 == 0) = true := beq_iff_eq.mpr c123
 have c123b1 : (t462 != 0) = false := bne_eq_false_iff_eq.mpr c123
 clear c123
 (first | rw [c123b0] | (simp only [i64_w, i32_w]; rw [c123b0]) | skip)
 (
 have H' := ak H
 clear H
 obtain ⟨Ao124, co124, eo124⟩ := Kd.R_slice HO461.out
 subst eo124
 go_wp2
 refine meetM hJ5_ (by kernel_rfl) ?rel
 case rel => dsimp only [List.getD_cons_succ, List.getD_cons_zero]; exact ⟨_, (((t459.length : Int) == 0)), (by first | rfl | (simp; done) | (simp [*]; done)), H', ⟨by have := HJ2.out; have := HJ13.out; have := HK3.out; have := HJ67.out; first | omega | exact Nat.le_refl _⟩, ⟨by (with_reducible repeat (first | apply Kd.R_alloc | apply Kd.R_drewN | apply Kd.R_drew)); exact Kd.R_mono HO_6.out (fun _ hk => trivial)⟩, ⟨(zR HO461.out)⟩, ⟨(zR HO_385001.out)⟩, ⟨(zK BK384.out)⟩, ⟨(zC HR448.out)⟩, ⟨(zC HR455.out)⟩, ⟨(zBG HB.out GE384.out)⟩⟩
 )
 }
 {
 rw [if_neg c123] at H
 have c123b0 : (t462 == 0) = false := beq_eq_false_iff_ne.mpr c123
 have c123b1 : (t462 != 0) = true := bne_iff_ne.mpr c123
 (first | rw [c123b0] | (simp only [i64_w, i32_w]; rw [c123b0]) | skip)
 (
 have H' := ak H
 clear H
 go_wp2
 refine meetM hJ5_ (by kernel_rfl) ?rel
 case rel => dsimp only [List.getD_cons_succ, List.getD_cons_zero]; exact ⟨_, (true), (by first | rfl | (simp; done) | (simp [*]; done)), H', ⟨by have := HJ2.out; have := HJ13.out; have := HK3.out; have := HJ67.out; first | omega | exact Nat.le_refl _⟩, ⟨by (with_reducible repeat (first | apply Kd.R_alloc | apply Kd.R_drewN | apply Kd.R_drew)); exact Kd.R_mono HO_6.out (fun _ hk => trivial)⟩, ⟨(zR HO461.out)⟩, ⟨(zR HO_385001.out)⟩, ⟨(zK BK384.out)⟩, ⟨(zC HR448.out)⟩, ⟨(zC HR455.out)⟩, ⟨(zBG HB.out GE384.out)⟩⟩
 )
 }
 )
 case rest => (
 as_aux_lemma =>
 intro u5_ wc hcut
 dsimp only [frU, cond, Nat.reduceMod, Nat.reduceDiv, Nat.reduceAdd, Nat.reduceBEq, Nat.reduceEqDiff, beq_self_eq_true]
 clear HC112
 try clear c1
 try clear c65
 try clear c66
 try clear c102
 try clear c103
 try clear c103b0
 try clear c103b1
 try clear c104
 try clear c104b0
 try clear c104b1
 try clear c105
 try clear c105b0
 try clear c105b1
 try clear c106
 try clear c108
 try clear c108b0
 try clear c108b1
 try clear c109
 try clear c109b0
 try clear c109b1
 try clear c110
 try clear q114
 try clear c115
 try clear q115
 try clear hcz120_0
 try clear hcz120_1
 try clear hfz120_0
 try clear hfz120_1
 try clear q0115
 try clear q114
 try clear q115
 obtain ⟨kq, x272_111, eu5_272, HA, HJ111, HO_6, HO_30, HO_385001, BK384, HR448, HR455, HB⟩ := hcut
 rw [eu5_272]
 clear eu5_272
 cases kq with
 | zero => exact absurd HA.out (by simp [laws_FnSaid.j4])
 | succ kj111 => (
 have H := HA.out
 clear HA
 simp only [laws_FnSaid.j4] at H
 by_cases c125 : x272_111 = true
 {
 subst c125
 have H1 : (some false) = some r := by rw [if_pos rfl] at H; exact H
 clear H
 have H := H1
 clear H1
 (
 exact absurd ((Option.some.inj H).trans HT.out) (by decide)
 )
 }
 {
 replace c125 := Bool.eq_false_iff.mpr c125
 subst c125
 have H1 : (if 0 ≤ (wrap64 ((t459.length : Int) - 1)) then (if (wrap64 ((t459.length : Int) - 1)) < (t459.length : Int) then ((impl_MissingBy.f kj111 t380 t381 t385 ((rd_T40 t459 (wrap64 ((t459.length : Int) - 1))).f0) ((rd_T40 t459 (wrap64 ((t459.length : Int) - 1))).f1)).bind fun bt464 => ((spec_MissingBy.f kj111 t380 t381 t385 ((rd_T40 t459 (wrap64 ((t459.length : Int) - 1))).f0) ((rd_T40 t459 (wrap64 ((t459.length : Int) - 1))).f1)).bind fun bt469 => (if (t385.length : Int) = 0 then (none) else ((some (([] : List (S47)) : List (S47))).bind fun y473 => (if y473.length + t385.length < 35184372088832 then ((some (y473 ++ t385 : List (S47))).bind fun y476 => (if 0 ≤ (Int.tmod (wrap64 (t408 + 1)) (t385.length : Int)) then (if (Int.tmod (wrap64 (t408 + 1)) (t385.length : Int)) < (t385.length : Int) then (if 0 ≤ t408 then (if t408 < (y476.length : Int) then ((some (y476.set (t408 : Int).toNat (⟨(rd_T47 t385 (Int.tmod (wrap64 (t408 + 1)) (t385.length : Int))).f0, (rd_T47 y476 t408).f1⟩ : S47) : List (S47))).bind fun y480 => (if t408 < (t385.length : Int) then (if (Int.tmod (wrap64 (t408 + 1)) (t385.length : Int)) < (y476.length : Int) then ((spec_CountAlong.f kj111 t380 t381 (y480.set ((Int.tmod (wrap64 (t408 + 1)) (t385.length : Int)) : Int).toNat (⟨(rd_T47 t385 t408).f0, (rd_T47 y480 (Int.tmod (wrap64 (t408 + 1)) (t385.length : Int))).f1⟩ : S47))).bind fun bt483 => (if bt464.2 = bt469.2 then (if bt464.2 = 0 then ((spec_SameNumbers.f kj111 bt464.1 bt469.1).bind fun t487 => (if t487 = true then ((spec_HasNumber.f kj111 bt469.1 t408).bind fun t488 => (if t488 = true then (if bt483.2 = 0 then (laws_FnSaid.j5 kj111 t385 t408 (Int.tmod (wrap64 (t408 + 1)) (t385.length : Int)) bt483.1 ((bt483.1.length : Int) == 0) t380 t381) else (laws_FnSaid.j5 kj111 t385 t408 (Int.tmod (wrap64 (t408 + 1)) (t385.length : Int)) bt483.1 true t380 t381)) else (laws_FnSaid.j5 kj111 t385 t408 (Int.tmod (wrap64 (t408 + 1)) (t385.length : Int)) bt483.1 true t380 t381))) else (laws_FnSaid.j5 kj111 t385 t408 (Int.tmod (wrap64 (t408 + 1)) (t385.length : Int)) bt483.1 true t380 t381))) else (laws_FnSaid.j5 kj111 t385 t408 (Int.tmod (wrap64 (t408 + 1)) (t385.length : Int)) bt483.1 true t380 t381)) else (laws_FnSaid.j5 kj111 t385 t408 (Int.tmod (wrap64 (t408 + 1)) (t385.length : Int)) bt483.1 true t380 t381))) else (none)) else (none))) else (none)) else (none)) else (none)) else (none))) else (none)))))) else (none)) else (none)) = some r := by rw [if_neg (show ¬ (false = true) by decide)] at H; exact H
 clear H
 have H := H1
 clear H1
 obtain ⟨ji126, hji126⟩ : ∃ j_ : Int, (wrap64 ((t459.length : Int) - 1)) = j_ := ⟨_, rfl⟩
 replace H : (if 0 ≤ (ji126) then (if (ji126) < (t459.length : Int) then ((impl_MissingBy.f kj111 t380 t381 t385 ((rd_T40 t459 (ji126)).f0) ((rd_T40 t459 (ji126)).f1)).bind fun bt464 => ((spec_MissingBy.f kj111 t380 t381 t385 ((rd_T40 t459 (ji126)).f0) ((rd_T40 t459 (ji126)).f1)).bind fun bt469 => (if (t385.length : Int) = 0 then (none) else ((some (([] : List (S47)) : List (S47))).bind fun y473 => (if y473.length + t385.length < 35184372088832 then ((some (y473 ++ t385 : List (S47))).bind fun y476 => (if 0 ≤ (Int.tmod (wrap64 (t408 + 1)) (t385.length : Int)) then (if (Int.tmod (wrap64 (t408 + 1)) (t385.length : Int)) < (t385.length : Int) then (if 0 ≤ t408 then (if t408 < (y476.length : Int) then ((some (y476.set (t408 : Int).toNat (⟨(rd_T47 t385 (Int.tmod (wrap64 (t408 + 1)) (t385.length : Int))).f0, (rd_T47 y476 t408).f1⟩ : S47) : List (S47))).bind fun y480 => (if t408 < (t385.length : Int) then (if (Int.tmod (wrap64 (t408 + 1)) (t385.length : Int)) < (y476.length : Int) then ((spec_CountAlong.f kj111 t380 t381 (y480.set ((Int.tmod (wrap64 (t408 + 1)) (t385.length : Int)) : Int).toNat (⟨(rd_T47 t385 t408).f0, (rd_T47 y480 (Int.tmod (wrap64 (t408 + 1)) (t385.length : Int))).f1⟩ : S47))).bind fun bt483 => (if bt464.2 = bt469.2 then (if bt464.2 = 0 then ((spec_SameNumbers.f kj111 bt464.1 bt469.1).bind fun t487 => (if t487 = true then ((spec_HasNumber.f kj111 bt469.1 t408).bind fun t488 => (if t488 = true then (if bt483.2 = 0 then (laws_FnSaid.j5 kj111 t385 t408 (Int.tmod (wrap64 (t408 + 1)) (t385.length : Int)) bt483.1 ((bt483.1.length : Int) == 0) t380 t381) else (laws_FnSaid.j5 kj111 t385 t408 (Int.tmod (wrap64 (t408 + 1)) (t385.length : Int)) bt483.1 true t380 t381)) else (laws_FnSaid.j5 kj111 t385 t408 (Int.tmod (wrap64 (t408 + 1)) (t385.length : Int)) bt483.1 true t380 t381))) else (laws_FnSaid.j5 kj111 t385 t408 (Int.tmod (wrap64 (t408 + 1)) (t385.length : Int)) bt483.1 true t380 t381))) else (laws_FnSaid.j5 kj111 t385 t408 (Int.tmod (wrap64 (t408 + 1)) (t385.length : Int)) bt483.1 true t380 t381)) else (laws_FnSaid.j5 kj111 t385 t408 (Int.tmod (wrap64 (t408 + 1)) (t385.length : Int)) bt483.1 true t380 t381))) else (none)) else (none))) else (none)) else (none)) else (none)) else (none))) else (none)))))) else (none)) else (none)) = some r := by first | (rw [hji126] at H; exact H) | (simp only [hji126] at H ⊢; exact H)
 have hji126w : (IntKind.i64.wrap ((t459.length : Int) - 1)) = ji126 := (i64_w _).trans hji126
 by_cases c127 : 0 ≤ (ji126)
 {
 rw [if_pos c127] at H
 have c127b0 : decide (0 ≤ (ji126)) = true := decide_eq_true c127
 clear c127
 by_cases c128 : (ji126) < (t459.length : Int)
 {
 rw [if_pos c128] at H
 have c128b0 : decide ((ji126) < (t459.length : Int)) = true := decide_eq_true c128
 clear c128
 replace H := Option.bind_eq_some_iff.mp H
 obtain ⟨⟨t464, t467⟩, A1290, H⟩ := H
 replace H : ((spec_MissingBy.f kj111 t380 t381 t385 ((rd_T40 t459 (ji126)).f0) ((rd_T40 t459 (ji126)).f1)).bind fun bt469 => (if (t385.length : Int) = 0 then (none) else ((some (([] : List (S47)) : List (S47))).bind fun y473 => (if y473.length + t385.length < 35184372088832 then ((some (y473 ++ t385 : List (S47))).bind fun y476 => (if 0 ≤ (Int.tmod (wrap64 (t408 + 1)) (t385.length : Int)) then (if (Int.tmod (wrap64 (t408 + 1)) (t385.length : Int)) < (t385.length : Int) then (if 0 ≤ t408 then (if t408 < (y476.length : Int) then ((some (y476.set (t408 : Int).toNat (⟨(rd_T47 t385 (Int.tmod (wrap64 (t408 + 1)) (t385.length : Int))).f0, (rd_T47 y476 t408).f1⟩ : S47) : List (S47))).bind fun y480 => (if t408 < (t385.length : Int) then (if (Int.tmod (wrap64 (t408 + 1)) (t385.length : Int)) < (y476.length : Int) then ((spec_CountAlong.f kj111 t380 t381 (y480.set ((Int.tmod (wrap64 (t408 + 1)) (t385.length : Int)) : Int).toNat (⟨(rd_T47 t385 t408).f0, (rd_T47 y480 (Int.tmod (wrap64 (t408 + 1)) (t385.length : Int))).f1⟩ : S47))).bind fun bt483 => (if t467 = bt469.2 then (if t467 = 0 then ((spec_SameNumbers.f kj111 t464 bt469.1).bind fun t487 => (if t487 = true then ((spec_HasNumber.f kj111 bt469.1 t408).bind fun t488 => (if t488 = true then (if bt483.2 = 0 then (laws_FnSaid.j5 kj111 t385 t408 (Int.tmod (wrap64 (t408 + 1)) (t385.length : Int)) bt483.1 ((bt483.1.length : Int) == 0) t380 t381) else (laws_FnSaid.j5 kj111 t385 t408 (Int.tmod (wrap64 (t408 + 1)) (t385.length : Int)) bt483.1 true t380 t381)) else (laws_FnSaid.j5 kj111 t385 t408 (Int.tmod (wrap64 (t408 + 1)) (t385.length : Int)) bt483.1 true t380 t381))) else (laws_FnSaid.j5 kj111 t385 t408 (Int.tmod (wrap64 (t408 + 1)) (t385.length : Int)) bt483.1 true t380 t381))) else (laws_FnSaid.j5 kj111 t385 t408 (Int.tmod (wrap64 (t408 + 1)) (t385.length : Int)) bt483.1 true t380 t381)) else (laws_FnSaid.j5 kj111 t385 t408 (Int.tmod (wrap64 (t408 + 1)) (t385.length : Int)) bt483.1 true t380 t381))) else (none)) else (none))) else (none)) else (none)) else (none)) else (none))) else (none))))) = some r := H
 have A129 := ak A1290
 clear A1290
 replace H := Option.bind_eq_some_iff.mp H
 obtain ⟨⟨t469, t472⟩, A1300, H⟩ := H
 replace H : (if (t385.length : Int) = 0 then (none) else ((some (([] : List (S47)) : List (S47))).bind fun y473 => (if y473.length + t385.length < 35184372088832 then ((some (y473 ++ t385 : List (S47))).bind fun y476 => (if 0 ≤ (Int.tmod (wrap64 (t408 + 1)) (t385.length : Int)) then (if (Int.tmod (wrap64 (t408 + 1)) (t385.length : Int)) < (t385.length : Int) then (if 0 ≤ t408 then (if t408 < (y476.length : Int) then ((some (y476.set (t408 : Int).toNat (⟨(rd_T47 t385 (Int.tmod (wrap64 (t408 + 1)) (t385.length : Int))).f0, (rd_T47 y476 t408).f1⟩ : S47) : List (S47))).bind fun y480 => (if t408 < (t385.length : Int) then (if (Int.tmod (wrap64 (t408 + 1)) (t385.length : Int)) < (y476.length : Int) then ((spec_CountAlong.f kj111 t380 t381 (y480.set ((Int.tmod (wrap64 (t408 + 1)) (t385.length : Int)) : Int).toNat (⟨(rd_T47 t385 t408).f0, (rd_T47 y480 (Int.tmod (wrap64 (t408 + 1)) (t385.length : Int))).f1⟩ : S47))).bind fun bt483 => (if t467 = t472 then (if t467 = 0 then ((spec_SameNumbers.f kj111 t464 t469).bind fun t487 => (if t487 = true then ((spec_HasNumber.f kj111 t469 t408).bind fun t488 => (if t488 = true then (if bt483.2 = 0 then (laws_FnSaid.j5 kj111 t385 t408 (Int.tmod (wrap64 (t408 + 1)) (t385.length : Int)) bt483.1 ((bt483.1.length : Int) == 0) t380 t381) else (laws_FnSaid.j5 kj111 t385 t408 (Int.tmod (wrap64 (t408 + 1)) (t385.length : Int)) bt483.1 true t380 t381)) else (laws_FnSaid.j5 kj111 t385 t408 (Int.tmod (wrap64 (t408 + 1)) (t385.length : Int)) bt483.1 true t380 t381))) else (laws_FnSaid.j5 kj111 t385 t408 (Int.tmod (wrap64 (t408 + 1)) (t385.length : Int)) bt483.1 true t380 t381))) else (laws_FnSaid.j5 kj111 t385 t408 (Int.tmod (wrap64 (t408 + 1)) (t385.length : Int)) bt483.1 true t380 t381)) else (laws_FnSaid.j5 kj111 t385 t408 (Int.tmod (wrap64 (t408 + 1)) (t385.length : Int)) bt483.1 true t380 t381))) else (none)) else (none))) else (none)) else (none)) else (none)) else (none))) else (none)))) = some r := H
 have A130 := ak A1300
 clear A1300
 by_cases c131 : (t385.length : Int) = 0
 · rw [if_pos c131] at H; exact absurd H (by simp)
 {
 rw [if_neg c131] at H
 have c131b0 : ((t385.length : Int) == 0) = false := beq_eq_false_iff_ne.mpr c131
 have c131b1 : ((t385.length : Int) != 0) = true := bne_iff_ne.mpr c131
 have c131b2 : ¬ (t385 = []) := fun h_ => c131 (by rw [h_]; rfl)
 obtain ⟨y473, hy473⟩ : ∃ y_ : List (S47), y_ = (([] : List (S47))) := ⟨_, rfl⟩
 replace H : (if y473.length + t385.length < 35184372088832 then ((some (y473 ++ t385 : List (S47))).bind fun y476 => (if 0 ≤ (Int.tmod (wrap64 (t408 + 1)) (t385.length : Int)) then (if (Int.tmod (wrap64 (t408 + 1)) (t385.length : Int)) < (t385.length : Int) then (if 0 ≤ t408 then (if t408 < (y476.length : Int) then ((some (y476.set (t408 : Int).toNat (⟨(rd_T47 t385 (Int.tmod (wrap64 (t408 + 1)) (t385.length : Int))).f0, (rd_T47 y476 t408).f1⟩ : S47) : List (S47))).bind fun y480 => (if t408 < (t385.length : Int) then (if (Int.tmod (wrap64 (t408 + 1)) (t385.length : Int)) < (y476.length : Int) then ((spec_CountAlong.f kj111 t380 t381 (y480.set ((Int.tmod (wrap64 (t408 + 1)) (t385.length : Int)) : Int).toNat (⟨(rd_T47 t385 t408).f0, (rd_T47 y480 (Int.tmod (wrap64 (t408 + 1)) (t385.length : Int))).f1⟩ : S47))).bind fun bt483 => (if t467 = t472 then (if t467 = 0 then ((spec_SameNumbers.f kj111 t464 t469).bind fun t487 => (if t487 = true then ((spec_HasNumber.f kj111 t469 t408).bind fun t488 => (if t488 = true then (if bt483.2 = 0 then (laws_FnSaid.j5 kj111 t385 t408 (Int.tmod (wrap64 (t408 + 1)) (t385.length : Int)) bt483.1 ((bt483.1.length : Int) == 0) t380 t381) else (laws_FnSaid.j5 kj111 t385 t408 (Int.tmod (wrap64 (t408 + 1)) (t385.length : Int)) bt483.1 true t380 t381)) else (laws_FnSaid.j5 kj111 t385 t408 (Int.tmod (wrap64 (t408 + 1)) (t385.length : Int)) bt483.1 true t380 t381))) else (laws_FnSaid.j5 kj111 t385 t408 (Int.tmod (wrap64 (t408 + 1)) (t385.length : Int)) bt483.1 true t380 t381))) else (laws_FnSaid.j5 kj111 t385 t408 (Int.tmod (wrap64 (t408 + 1)) (t385.length : Int)) bt483.1 true t380 t381)) else (laws_FnSaid.j5 kj111 t385 t408 (Int.tmod (wrap64 (t408 + 1)) (t385.length : Int)) bt483.1 true t380 t381))) else (none)) else (none))) else (none)) else (none)) else (none)) else (none))) else (none)) = some r := by first | (rw [hy473]; with_reducible exact H) | (have H2_ := (Option.bind_some _ _).symm.trans H; rw [hy473]; with_reducible exact H2_) | (have H2_ := (Option.bind_some _ _).symm.trans H; with_reducible exact H2_) | with_reducible exact H | (rw [hy473]; exact H) | exact H
 have Ny473 := ak hy473
 clear hy473
 by_cases c132 : y473.length + t385.length < 35184372088832
 {
 rw [if_pos c132] at H
 have LMc132 := ak c132
 clear c132
 obtain ⟨y476, hy476⟩ : ∃ y_ : List (S47), y_ = (y473 ++ t385) := ⟨_, rfl⟩
 replace H : (if 0 ≤ (Int.tmod (wrap64 (t408 + 1)) (t385.length : Int)) then (if (Int.tmod (wrap64 (t408 + 1)) (t385.length : Int)) < (t385.length : Int) then (if 0 ≤ t408 then (if t408 < (y476.length : Int) then ((some (y476.set (t408 : Int).toNat (⟨(rd_T47 t385 (Int.tmod (wrap64 (t408 + 1)) (t385.length : Int))).f0, (rd_T47 y476 t408).f1⟩ : S47) : List (S47))).bind fun y480 => (if t408 < (t385.length : Int) then (if (Int.tmod (wrap64 (t408 + 1)) (t385.length : Int)) < (y476.length : Int) then ((spec_CountAlong.f kj111 t380 t381 (y480.set ((Int.tmod (wrap64 (t408 + 1)) (t385.length : Int)) : Int).toNat (⟨(rd_T47 t385 t408).f0, (rd_T47 y480 (Int.tmod (wrap64 (t408 + 1)) (t385.length : Int))).f1⟩ : S47))).bind fun bt483 => (if t467 = t472 then (if t467 = 0 then ((spec_SameNumbers.f kj111 t464 t469).bind fun t487 => (if t487 = true then ((spec_HasNumber.f kj111 t469 t408).bind fun t488 => (if t488 = true then (if bt483.2 = 0 then (laws_FnSaid.j5 kj111 t385 t408 (Int.tmod (wrap64 (t408 + 1)) (t385.length : Int)) bt483.1 ((bt483.1.length : Int) == 0) t380 t381) else (laws_FnSaid.j5 kj111 t385 t408 (Int.tmod (wrap64 (t408 + 1)) (t385.length : Int)) bt483.1 true t380 t381)) else (laws_FnSaid.j5 kj111 t385 t408 (Int.tmod (wrap64 (t408 + 1)) (t385.length : Int)) bt483.1 true t380 t381))) else (laws_FnSaid.j5 kj111 t385 t408 (Int.tmod (wrap64 (t408 + 1)) (t385.length : Int)) bt483.1 true t380 t381))) else (laws_FnSaid.j5 kj111 t385 t408 (Int.tmod (wrap64 (t408 + 1)) (t385.length : Int)) bt483.1 true t380 t381)) else (laws_FnSaid.j5 kj111 t385 t408 (Int.tmod (wrap64 (t408 + 1)) (t385.length : Int)) bt483.1 true t380 t381))) else (none)) else (none))) else (none)) else (none)) else (none)) else (none)) = some r := by first | (rw [hy476]; with_reducible exact H) | (have H2_ := (Option.bind_some _ _).symm.trans H; rw [hy476]; with_reducible exact H2_) | (have H2_ := (Option.bind_some _ _).symm.trans H; with_reducible exact H2_) | with_reducible exact H | (rw [hy476]; exact H) | exact H
 have Ny476 := ak hy476
 clear hy476
 obtain ⟨ji133, hji133⟩ : ∃ j_ : Int, (Int.tmod (wrap64 (t408 + 1)) (t385.length : Int)) = j_ := ⟨_, rfl⟩
 replace H : (if 0 ≤ (ji133) then (if (ji133) < (t385.length : Int) then (if 0 ≤ t408 then (if t408 < (y476.length : Int) then ((some (y476.set (t408 : Int).toNat (⟨(rd_T47 t385 (ji133)).f0, (rd_T47 y476 t408).f1⟩ : S47) : List (S47))).bind fun y480 => (if t408 < (t385.length : Int) then (if (ji133) < (y476.length : Int) then ((spec_CountAlong.f kj111 t380 t381 (y480.set ((ji133) : Int).toNat (⟨(rd_T47 t385 t408).f0, (rd_T47 y480 (ji133)).f1⟩ : S47))).bind fun bt483 => (if t467 = t472 then (if t467 = 0 then ((spec_SameNumbers.f kj111 t464 t469).bind fun t487 => (if t487 = true then ((spec_HasNumber.f kj111 t469 t408).bind fun t488 => (if t488 = true then (if bt483.2 = 0 then (laws_FnSaid.j5 kj111 t385 t408 ji133 bt483.1 ((bt483.1.length : Int) == 0) t380 t381) else (laws_FnSaid.j5 kj111 t385 t408 ji133 bt483.1 true t380 t381)) else (laws_FnSaid.j5 kj111 t385 t408 ji133 bt483.1 true t380 t381))) else (laws_FnSaid.j5 kj111 t385 t408 ji133 bt483.1 true t380 t381))) else (laws_FnSaid.j5 kj111 t385 t408 ji133 bt483.1 true t380 t381)) else (laws_FnSaid.j5 kj111 t385 t408 ji133 bt483.1 true t380 t381))) else (none)) else (none))) else (none)) else (none)) else (none)) else (none)) = some r := by first | (rw [hji133] at H; exact H) | (simp only [hji133] at H ⊢; exact H)
 (try rw [hji133] at A129)
 (try rw [hji133] at A130)
 (try rw [hji107] at hji133)
 by_cases c134 : 0 ≤ (ji133)
 {
 rw [if_pos c134] at H
 have c134b0 : decide (0 ≤ (ji133)) = true := decide_eq_true c134
 clear c134
 by_cases c135 : (ji133) < (t385.length : Int)
 {
 rw [if_pos c135] at H
 have c135b0 : decide ((ji133) < (t385.length : Int)) = true := decide_eq_true c135
 clear c135
 by_cases c136 : 0 ≤ t408
 {
 rw [if_pos c136] at H
 have c136b0 : decide (0 ≤ t408) = true := decide_eq_true c136
 clear c136
 by_cases c137 : t408 < (y476.length : Int)
 {
 rw [if_pos c137] at H
 have c137b0 : decide (t408 < (y476.length : Int)) = true := decide_eq_true c137
 clear c137
 obtain ⟨y480, hy480⟩ : ∃ y_ : List (S47), y_ = (y476.set (t408 : Int).toNat (⟨(rd_T47 t385 (ji133)).f0, (rd_T47 y476 t408).f1⟩ : S47)) := ⟨_, rfl⟩
 replace H : (if t408 < (t385.length : Int) then (if (ji133) < (y476.length : Int) then ((spec_CountAlong.f kj111 t380 t381 (y480.set ((ji133) : Int).toNat (⟨(rd_T47 t385 t408).f0, (rd_T47 y480 (ji133)).f1⟩ : S47))).bind fun bt483 => (if t467 = t472 then (if t467 = 0 then ((spec_SameNumbers.f kj111 t464 t469).bind fun t487 => (if t487 = true then ((spec_HasNumber.f kj111 t469 t408).bind fun t488 => (if t488 = true then (if bt483.2 = 0 then (laws_FnSaid.j5 kj111 t385 t408 ji133 bt483.1 ((bt483.1.length : Int) == 0) t380 t381) else (laws_FnSaid.j5 kj111 t385 t408 ji133 bt483.1 true t380 t381)) else (laws_FnSaid.j5 kj111 t385 t408 ji133 bt483.1 true t380 t381))) else (laws_FnSaid.j5 kj111 t385 t408 ji133 bt483.1 true t380 t381))) else (laws_FnSaid.j5 kj111 t385 t408 ji133 bt483.1 true t380 t381)) else (laws_FnSaid.j5 kj111 t385 t408 ji133 bt483.1 true t380 t381))) else (none)) else (none)) = some r := by first | (rw [hy480]; with_reducible exact H) | (have H2_ := (Option.bind_some _ _).symm.trans H; rw [hy480]; with_reducible exact H2_) | (have H2_ := (Option.bind_some _ _).symm.trans H; with_reducible exact H2_) | with_reducible exact H | (rw [hy480]; exact H) | exact H
 have Ny480 := ak hy480
 clear hy480
 by_cases c139 : t408 < (t385.length : Int)
 {
 rw [if_pos c139] at H
 have c139b0 : decide (t408 < (t385.length : Int)) = true := decide_eq_true c139
 clear c139
 by_cases c140 : (ji133) < (y476.length : Int)
 {
 rw [if_pos c140] at H
 have c140b0 : decide ((ji133) < (y476.length : Int)) = true := decide_eq_true c140
 clear c140
 obtain ⟨y482, hy482⟩ : ∃ y_ : List (S47), y_ = (y480.set ((ji133) : Int).toNat (⟨(rd_T47 t385 t408).f0, (rd_T47 y480 (ji133)).f1⟩ : S47)) := ⟨_, rfl⟩
 replace H : ((spec_CountAlong.f kj111 t380 t381 y482).bind fun bt483 => (if t467 = t472 then (if t467 = 0 then ((spec_SameNumbers.f kj111 t464 t469).bind fun t487 => (if t487 = true then ((spec_HasNumber.f kj111 t469 t408).bind fun t488 => (if t488 = true then (if bt483.2 = 0 then (laws_FnSaid.j5 kj111 t385 t408 ji133 bt483.1 ((bt483.1.length : Int) == 0) t380 t381) else (laws_FnSaid.j5 kj111 t385 t408 ji133 bt483.1 true t380 t381)) else (laws_FnSaid.j5 kj111 t385 t408 ji133 bt483.1 true t380 t381))) else (laws_FnSaid.j5 kj111 t385 t408 ji133 bt483.1 true t380 t381))) else (laws_FnSaid.j5 kj111 t385 t408 ji133 bt483.1 true t380 t381)) else (laws_FnSaid.j5 kj111 t385 t408 ji133 bt483.1 true t380 t381))) = some r := by first | (rw [hy482]; with_reducible exact H) | (have H2_ := (Option.bind_some _ _).symm.trans H; rw [hy482]; with_reducible exact H2_) | (have H2_ := (Option.bind_some _ _).symm.trans H; with_reducible exact H2_) | with_reducible exact H | (rw [hy482]; exact H) | exact H
 have Ny482 := ak hy482
 clear hy482
 replace H := Option.bind_eq_some_iff.mp H
 obtain ⟨⟨t483, t486⟩, A1420, H⟩ := H
 replace H : (if t467 = t472 then (if t467 = 0 then ((spec_SameNumbers.f kj111 t464 t469).bind fun t487 => (if t487 = true then ((spec_HasNumber.f kj111 t469 t408).bind fun t488 => (if t488 = true then (if t486 = 0 then (laws_FnSaid.j5 kj111 t385 t408 ji133 t483 ((t483.length : Int) == 0) t380 t381) else (laws_FnSaid.j5 kj111 t385 t408 ji133 t483 true t380 t381)) else (laws_FnSaid.j5 kj111 t385 t408 ji133 t483 true t380 t381))) else (laws_FnSaid.j5 kj111 t385 t408 ji133 t483 true t380 t381))) else (laws_FnSaid.j5 kj111 t385 t408 ji133 t483 true t380 t381)) else (laws_FnSaid.j5 kj111 t385 t408 ji133 t483 true t380 t381)) = some r := H
 have A142 := ak A1420
 clear A1420
 have HC143 := ak H
 clear H
 try go_wp2
 have n0_ := ak (Kd.R_drew HO_6.out)
 have n1_ := ak (Kd.R_drew HO_30.out)
 have n2_ := ak (Kd.R_drew HO_385001.out)
 have n3_ := ak (blk_drew BK384.out)
 have n4_ := ak (Kd.C_drew HR448.out)
 have n5_ := ak (Kd.C_drew HR455.out)
 have n6_ := ak (below_drew1 HB.out)
 clear HO_6 HO_30 HO_385001 BK384 HR448 HR455 HB
 have HO_6 := n0_
 have HO_30 := n1_
 have HO_385001 := n2_
 have BK384 := n3_
 have HR448 := n4_
 have HR455 := n5_
 have HB := n6_
 clear n0_ n1_ n2_ n3_ n4_ n5_ n6_
 obtain ⟨Ao145, co145, eo145⟩ := Kd.R_slice HO_30.out
 (first | subst eo145 | (injection eo145 with f1_ f2_ f3_; have f4_ := f1_.symm; have f5_ := f3_.symm; clear f1_ f2_ f3_; subst f4_; subst f5_))
 have p463 : 0 ≤ ((ji126) : Int) := of_decide_eq_true (by first | (with_reducible assumption) | assumption)
 have q463 : (ji126) < (t459.length : Int) := of_decide_eq_true (by first | (with_reducible assumption) | assumption)
 obtain ⟨ad463, e463, hx463_0, hx463_1⟩ := at_T40 (Kd.R_reads' HO_30.out).2.2 (ji126) p463 q463
 cases e463
 replace p463 := eq_true p463
 replace q463 := eq_true q463
 refine start_ (n := 14) (S := fun w' => w'.cell? ⟨gb384, 0, none⟩ = some (.int .i16 t380) ∧ w'.cell? ⟨gb384, 1, none⟩ = some (.slice Ao18 t381.length co18) ∧ w'.cell? (ad463.add (((ji126)).toNat * 2)) = some (.int .i64 ((rd_T40 t459 (ji126)).f0)) ∧ w'.cell? ⟨(ad463.add (((ji126)).toNat * 2)).block, (ad463.add (((ji126)).toNat * 2)).off + 1, none⟩ = some (.int .i64 ((rd_T40 t459 (ji126)).f1))) (ds := []) (bA 14 0) (by kernel_rfl) rfl rfl ⟨(blk_cell BK384.out 0).trans rfl, (blk_cell BK384.out 1).trans rfl, hx463_0, hx463_1⟩ (fun hHeld => ?_); refine with_tabW laws_FnSaid.tab35 laws_FnSaid.bits35 (fun HT_ HW_ => ?_)
 generalize wc.drew = w144 at HO_6 HO_30 HO_385001 BK384 HR448 HR455 HB hx463_0 hx463_1 hHeld ⊢
 refine pure_ (i := 1) (N := some 275) (v := ?_) (a' := ?_) (bA 14 2) rfl rfl (any_of HT_.out (by kernel_rfl)) (fun _ _ _ h => h) (Or.inl ⟨by rfl, ?_⟩) ?_ ?_
 rotate_left
 {
 intro w'
 go_simp
 with_reducible rfl
 }
 rotate_left
 · exact pt_
 refine pure_ (i := 2) (N := some 276) (v := ?_) (a' := ?_) (bA 14 6) rfl rfl (any_of HT_.out (by kernel_rfl)) (fun _ _ _ h => h) (Or.inl ⟨by rfl, ?_⟩) ?_ ?_
 rotate_left
 {
 intro w'
 go_simp
 with_reducible rfl
 }
 rotate_left
 · exact pt_
 refine pure_ (i := 3) (N := some 277) (v := ?_) (a' := ?_) (bA 14 14) rfl rfl (any_of HT_.out (by kernel_rfl)) (fun _ _ _ h => h) (Or.inl ⟨by rfl, ?_⟩) ?_ ?_
 rotate_left
 {
 intro w'
 go_simp
 with_reducible rfl
 }
 rotate_left
 · exact pt_
 refine pure_ (i := 4) (N := some 278) (v := ?_) (a' := ?_) (bA 14 30) rfl rfl (any_of HT_.out (by kernel_rfl)) (fun _ _ _ h => h) (Or.inl ⟨by rfl, ?_⟩) ?_ ?_
 rotate_left
 {
 intro w'
 go_simp
 with_reducible rfl
 }
 rotate_left
 · exact pt_
 refine pure_ (i := 5) (N := some 279) (v := ?_) (a' := ?_) (bA 14 62) rfl rfl (any_of HT_.out (by kernel_rfl)) (fun _ _ _ h => h) (Or.inl ⟨by rfl, ?_⟩) ?_ ?_
 rotate_left
 {
 intro w'
 go_simp
 with_reducible rfl
 }
 rotate_left
 · exact pt_
 refine pure_ (i := 6) (N := some 280) (v := ?_) (a' := ?_) (bA 14 126) rfl rfl (any_of HT_.out (by kernel_rfl)) (fun _ _ _ h => h) (Or.inl ⟨by rfl, ?_⟩) ?_ ?_
 rotate_left
 {
 intro w'
 go_simp
 with_reducible rfl
 }
 rotate_left
 · exact pt_
 refine take_ (i := 0) (N := some 274) (v := ?_) (a' := ?_) (bA 14 127) rfl rfl (take_ofW HT_.out HW_.out (by kernel_rfl)) (fun _ _ _ h => h) (Or.inl ⟨by rfl, ?_⟩) hHeld ?_ ?_
 rotate_left
 {
 rintro w' ⟨s0, s1, s2, s3⟩
 go_simp
 with_reducible rfl
 }
 rotate_left
 · exact pt_
 refine take_ (i := 7) (N := some 281) (v := ?_) (a' := ?_) (bA 14 255) rfl rfl (take_ofW HT_.out HW_.out (by kernel_rfl)) (fun _ _ _ h => h) (Or.inl ⟨by rfl, ?_⟩) hHeld ?_ ?_
 rotate_left
 {
 rintro w' ⟨s0, s1, s2, s3⟩
 go_simp
 with_reducible rfl
 }
 rotate_left
 · exact pt_
 refine one_ (i := 8) (N := some 282) (bA 14 511) rfl rfl (one_of HT_.out (by kernel_rfl)) (by decide) (fun K hK => ?_)
 refine goes_ Try.func12 (by kernel_rfl) rfl #[.agg #[.int .i16 t380, .slice Ao18 t381.length co18], .slice Ao21 t385.length co21, .agg #[.int .i64 ((rd_T40 t459 (ji126)).f0), .int .i64 ((rd_T40 t459 (ji126)).f1)]] (by rfl) rfl rfl (by (try simp only [List.map_toArray, List.map_cons, List.map_nil]); first | done | (simp only [hji126]; rfl) | rfl | (simp only [List.length_drop, List.length_take]; rfl)) ?_
 with_reducible refine (impl_MissingBy.calls kj111 t380 _ _ t381 _ _ t385 ((rd_T40 t459 (ji126)).f0) ((rd_T40 t459 (ji126)).f1) t464 t467 _ ?side1 ?side2 ?side3 ?side4 A129.out).mono ?_
 (case side1 => exact zC (Kd.R_reads' HO_385001.out).2.2)
 (case side2 => exact (Kd.R_reads' HO_385001.out).2.1)
 (case side3 => exact zC (Kd.R_reads' HO_6.out).2.2)
 (case side4 => exact (Kd.R_reads' HO_6.out).2.1)
 rintro e w146 ⟨v465, rfl, ho0, hb⟩
 have HS2_ := (hb.cell (World.block_lt_of_cell? _ _ (hHeld.2.2.1))).trans (hHeld.2.2.1)
 have HS3_ := (hb.cell (World.block_lt_of_cell? _ _ (hHeld.2.2.2))).trans (hHeld.2.2.2)
 refine ⟨_, rfl, ?_⟩
 have n0_ := ak (Kd.R_below (zR HO_6.out) hb)
 have n1_ := ak (Kd.R_below (zR HO_30.out) hb)
 have n2_ := ak (Kd.R_below (zR HO_385001.out) hb)
 have n3_ := ak (Kd.R_lower ho0 (below_size (zBG HB.out GE384.out)))
 have n4_ := ak (blk_below (g := gb384) (o := .cells #[.int .i16 t380, .slice Ao18 t381.length co18] 27 (0, 0)) (zK BK384.out) hb)
 have n5_ := ak (Kd.C_below (zC HR448.out) hb)
 have n6_ := ak (Kd.C_below (zC HR455.out) hb)
 have n7_ := ak (below_step (zBG HB.out GE384.out) hb)
 clear HO_6 HO_30 HO_385001 BK384 HR448 HR455 HB
 have HO_6 := n0_
 have HO_30 := n1_
 have HO_385001 := n2_
 have HO466 := n3_
 have BK384 := n4_
 have HR448 := n5_
 have HR455 := n6_
 have HB := n7_
 clear n0_ n1_ n2_ n3_ n4_ n5_ n6_ n7_
 (try clear hb)
 (try clear hb2)
 (try clear hk)
 (try clear hi)
 (try clear ho0)
 refine hK.out _ _ ⟨(blk_cell BK384.out 0).trans rfl, (blk_cell BK384.out 1).trans rfl, HS2_, HS3_⟩ (fun hHeld => ?_)
 clear hK K
 refine norm_ (a' := ?_) ?_ ?_
 rotate_left
 {
 show Act.put _ (some 282) _ = _
 simp only [Act.put, zs, zz, zk, i64_w, i32_w]
 rfl
 }
 refine pure_ (i := 9) (N := some 273) (v := ?_) (a' := ?_) (bA 14 1023) rfl rfl (any_of HT_.out (by kernel_rfl)) (fun _ _ _ h => h) (Or.inl ⟨by rfl, ?_⟩) ?_ ?_
 rotate_left
 {
 intro w'
 go_simp
 with_reducible rfl
 }
 rotate_left
 · exact pt_
 refine pure_ (i := 10) (N := some 283) (v := ?_) (a' := ?_) (bA 14 2047) rfl rfl (any_of HT_.out (by kernel_rfl)) (fun _ _ _ h => h) (Or.inl ⟨by rfl, ?_⟩) ?_ ?_
 rotate_left
 {
 intro w'
 go_simp
 with_reducible rfl
 }
 rotate_left
 · exact pt_
 refine pure_ (i := 11) (N := some 284) (v := ?_) (a' := ?_) (bA 14 4095) rfl rfl (any_of HT_.out (by kernel_rfl)) (fun _ _ _ h => h) (Or.inl ⟨by rfl, ?_⟩) ?_ ?_
 rotate_left
 {
 intro w'
 go_simp
 with_reducible rfl
 }
 rotate_left
 · exact pt_
 refine pure_ (i := 12) (N := some 32) (v := ?_) (a' := ?_) (bA 14 8191) rfl rfl (any_of HT_.out (by kernel_rfl)) (fun _ _ _ h => h) (Or.inl ⟨by rfl, ?_⟩) ?_ ?_
 rotate_left
 {
 intro w'
 go_simp
 with_reducible rfl
 }
 rotate_left
 · exact pt_
 refine pure_ (i := 13) (N := some 33) (v := ?_) (a' := ?_) (bA 14 16383) rfl rfl (any_of HT_.out (by kernel_rfl)) (fun _ _ _ h => h) (Or.inl ⟨by rfl, ?_⟩) ?_ ?_
 rotate_left
 {
 intro w'
 go_simp
 with_reducible rfl
 }
 rotate_left
 · exact pt_
 refine done_ (done_of HT_.out (by kernel_rfl)) ?_
 try go_wp2
 have n0_ := ak (Kd.R_drew HO_6.out)
 have n1_ := ak (Kd.R_drew HO_30.out)
 have n2_ := ak (Kd.R_drew HO_385001.out)
 have n3_ := ak (Kd.R_drew HO466.out)
 have n4_ := ak (blk_drew BK384.out)
 have n5_ := ak (Kd.C_drew HR448.out)
 have n6_ := ak (Kd.C_drew HR455.out)
 have n7_ := ak (below_drew1 HB.out)
 clear HO_6 HO_30 HO_385001 HO466 BK384 HR448 HR455 HB
 have HO_6 := n0_
 have HO_30 := n1_
 have HO_385001 := n2_
 have HO466 := n3_
 have BK384 := n4_
 have HR448 := n5_
 have HR455 := n6_
 have HB := n7_
 clear n0_ n1_ n2_ n3_ n4_ n5_ n6_ n7_
 have p468 : 0 ≤ ((ji126) : Int) := of_decide_eq_true (by first | (with_reducible assumption) | assumption)
 have q468 : (ji126) < (t459.length : Int) := of_decide_eq_true (by first | (with_reducible assumption) | assumption)
 obtain ⟨ad468, e468, hx468_0, hx468_1⟩ := at_T40 (Kd.R_reads' HO_30.out).2.2 (ji126) p468 q468
 obtain rfl : ad463 = ad468 := (by injection e468)
 replace p468 := eq_true p468
 replace q468 := eq_true q468
 refine start_ (n := 14) (S := fun w' => w'.cell? ⟨gb384, 0, none⟩ = some (.int .i16 t380) ∧ w'.cell? ⟨gb384, 1, none⟩ = some (.slice Ao18 t381.length co18) ∧ w'.cell? (ad463.add (((ji126)).toNat * 2)) = some (.int .i64 ((rd_T40 t459 (ji126)).f0)) ∧ w'.cell? ⟨(ad463.add (((ji126)).toNat * 2)).block, (ad463.add (((ji126)).toNat * 2)).off + 1, none⟩ = some (.int .i64 ((rd_T40 t459 (ji126)).f1))) (ds := []) (bA 14 0) (by kernel_rfl) rfl rfl ⟨(blk_cell BK384.out 0).trans rfl, (blk_cell BK384.out 1).trans rfl, hx468_0, hx468_1⟩ (fun hHeld => ?_); refine with_tabW laws_FnSaid.tab36 laws_FnSaid.bits36 (fun HT_ HW_ => ?_)
 generalize w146.drew = w147 at HO_6 HO_30 HO_385001 HO466 BK384 HR448 HR455 HB hx468_0 hx468_1 hHeld ⊢
 refine pure_ (i := 1) (N := some 287) (v := ?_) (a' := ?_) (bA 14 2) rfl rfl (any_of HT_.out (by kernel_rfl)) (fun _ _ _ h => h) (Or.inl ⟨by rfl, ?_⟩) ?_ ?_
 rotate_left
 {
 intro w'
 go_simp
 with_reducible rfl
 }
 rotate_left
 · exact pt_
 refine pure_ (i := 2) (N := some 288) (v := ?_) (a' := ?_) (bA 14 6) rfl rfl (any_of HT_.out (by kernel_rfl)) (fun _ _ _ h => h) (Or.inl ⟨by rfl, ?_⟩) ?_ ?_
 rotate_left
 {
 intro w'
 go_simp
 with_reducible rfl
 }
 rotate_left
 · exact pt_
 refine pure_ (i := 3) (N := some 289) (v := ?_) (a' := ?_) (bA 14 14) rfl rfl (any_of HT_.out (by kernel_rfl)) (fun _ _ _ h => h) (Or.inl ⟨by rfl, ?_⟩) ?_ ?_
 rotate_left
 {
 intro w'
 go_simp
 with_reducible rfl
 }
 rotate_left
 · exact pt_
 refine pure_ (i := 4) (N := some 290) (v := ?_) (a' := ?_) (bA 14 30) rfl rfl (any_of HT_.out (by kernel_rfl)) (fun _ _ _ h => h) (Or.inl ⟨by rfl, ?_⟩) ?_ ?_
 rotate_left
 {
 intro w'
 go_simp
 with_reducible rfl
 }
 rotate_left
 · exact pt_
 refine pure_ (i := 5) (N := some 291) (v := ?_) (a' := ?_) (bA 14 62) rfl rfl (any_of HT_.out (by kernel_rfl)) (fun _ _ _ h => h) (Or.inl ⟨by rfl, ?_⟩) ?_ ?_
 rotate_left
 {
 intro w'
 go_simp
 with_reducible rfl
 }
 rotate_left
 · exact pt_
 refine pure_ (i := 6) (N := some 292) (v := ?_) (a' := ?_) (bA 14 126) rfl rfl (any_of HT_.out (by kernel_rfl)) (fun _ _ _ h => h) (Or.inl ⟨by rfl, ?_⟩) ?_ ?_
 rotate_left
 {
 intro w'
 go_simp
 with_reducible rfl
 }
 rotate_left
 · exact pt_
 refine take_ (i := 0) (N := some 286) (v := ?_) (a' := ?_) (bA 14 127) rfl rfl (take_ofW HT_.out HW_.out (by kernel_rfl)) (fun _ _ _ h => h) (Or.inl ⟨by rfl, ?_⟩) hHeld ?_ ?_
 rotate_left
 {
 rintro w' ⟨s0, s1, s2, s3⟩
 go_simp
 with_reducible rfl
 }
 rotate_left
 · exact pt_
 refine take_ (i := 7) (N := some 293) (v := ?_) (a' := ?_) (bA 14 255) rfl rfl (take_ofW HT_.out HW_.out (by kernel_rfl)) (fun _ _ _ h => h) (Or.inl ⟨by rfl, ?_⟩) hHeld ?_ ?_
 rotate_left
 {
 rintro w' ⟨s0, s1, s2, s3⟩
 go_simp
 with_reducible rfl
 }
 rotate_left
 · exact pt_
 refine one_ (i := 8) (N := some 294) (bA 14 511) rfl rfl (one_of HT_.out (by kernel_rfl)) (by decide) (fun K hK => ?_)
 refine goes_ Try.func14 (by kernel_rfl) rfl #[.agg #[.int .i16 t380, .slice Ao18 t381.length co18], .slice Ao21 t385.length co21, .agg #[.int .i64 ((rd_T40 t459 (ji126)).f0), .int .i64 ((rd_T40 t459 (ji126)).f1)]] (by rfl) rfl rfl (by (try simp only [List.map_toArray, List.map_cons, List.map_nil]); first | done | (simp only [hji126]; rfl) | rfl | (simp only [List.length_drop, List.length_take]; rfl)) ?_
 with_reducible refine (spec_MissingBy.calls kj111 t380 _ _ t381 _ _ t385 ((rd_T40 t459 (ji126)).f0) ((rd_T40 t459 (ji126)).f1) t469 t472 _ ?side1 ?side2 ?side3 ?side4 A130.out).mono ?_
 (case side1 => exact zC (Kd.R_reads' HO_385001.out).2.2)
 (case side2 => exact (Kd.R_reads' HO_385001.out).2.1)
 (case side3 => exact zC (Kd.R_reads' HO_6.out).2.2)
 (case side4 => exact (Kd.R_reads' HO_6.out).2.1)
 rintro e w148 ⟨v470, rfl, ho0, hb⟩
 have HS2_ := (hb.cell (World.block_lt_of_cell? _ _ (hHeld.2.2.1))).trans (hHeld.2.2.1)
 have HS3_ := (hb.cell (World.block_lt_of_cell? _ _ (hHeld.2.2.2))).trans (hHeld.2.2.2)
 refine ⟨_, rfl, ?_⟩
 have n0_ := ak (Kd.R_below (zR HO_6.out) hb)
 have n1_ := ak (Kd.R_below (zR HO_30.out) hb)
 have n2_ := ak (Kd.R_below (zR HO_385001.out) hb)
 have n3_ := ak (Kd.R_elder' (zR HO466.out) (Kd.R_base ho0) hb)
 have n4_ := ak (Kd.R_lower (Kd.R_new' ho0 (Kd.R_lt (zR HO466.out))) (below_size (zBG HB.out GE384.out)))
 have n5_ := ak (blk_below (g := gb384) (o := .cells #[.int .i16 t380, .slice Ao18 t381.length co18] 27 (0, 0)) (zK BK384.out) hb)
 have n6_ := ak (Kd.C_below (zC HR448.out) hb)
 have n7_ := ak (Kd.C_below (zC HR455.out) hb)
 have n8_ := ak (below_step (zBG HB.out GE384.out) hb)
 clear HO_6 HO_30 HO_385001 HO466 BK384 HR448 HR455 HB
 have HO_6 := n0_
 have HO_30 := n1_
 have HO_385001 := n2_
 have HO466 := n3_
 have HO471 := n4_
 have BK384 := n5_
 have HR448 := n6_
 have HR455 := n7_
 have HB := n8_
 clear n0_ n1_ n2_ n3_ n4_ n5_ n6_ n7_ n8_
 (try clear hb)
 (try clear hb2)
 (try clear hk)
 (try clear hi)
 (try clear ho0)
 refine hK.out _ _ ⟨(blk_cell BK384.out 0).trans rfl, (blk_cell BK384.out 1).trans rfl, HS2_, HS3_⟩ (fun hHeld => ?_)
 clear hK K
 refine norm_ (a' := ?_) ?_ ?_
 rotate_left
 {
 show Act.put _ (some 294) _ = _
 simp only [Act.put, zs, zz, zk, i64_w, i32_w]
 rfl
 }
 refine pure_ (i := 9) (N := some 285) (v := ?_) (a' := ?_) (bA 14 1023) rfl rfl (any_of HT_.out (by kernel_rfl)) (fun _ _ _ h => h) (Or.inl ⟨by rfl, ?_⟩) ?_ ?_
 rotate_left
 {
 intro w'
 go_simp
 with_reducible rfl
 }
 rotate_left
 · exact pt_
 refine pure_ (i := 10) (N := some 295) (v := ?_) (a' := ?_) (bA 14 2047) rfl rfl (any_of HT_.out (by kernel_rfl)) (fun _ _ _ h => h) (Or.inl ⟨by rfl, ?_⟩) ?_ ?_
 rotate_left
 {
 intro w'
 go_simp
 with_reducible rfl
 }
 rotate_left
 · exact pt_
 refine pure_ (i := 11) (N := some 296) (v := ?_) (a' := ?_) (bA 14 4095) rfl rfl (any_of HT_.out (by kernel_rfl)) (fun _ _ _ h => h) (Or.inl ⟨by rfl, ?_⟩) ?_ ?_
 rotate_left
 {
 intro w'
 go_simp
 with_reducible rfl
 }
 rotate_left
 · exact pt_
 refine pure_ (i := 12) (N := some 34) (v := ?_) (a' := ?_) (bA 14 8191) rfl rfl (any_of HT_.out (by kernel_rfl)) (fun _ _ _ h => h) (Or.inl ⟨by rfl, ?_⟩) ?_ ?_
 rotate_left
 {
 intro w'
 go_simp
 with_reducible rfl
 }
 rotate_left
 · exact pt_
 refine pure_ (i := 13) (N := some 35) (v := ?_) (a' := ?_) (bA 14 16383) rfl rfl (any_of HT_.out (by kernel_rfl)) (fun _ _ _ h => h) (Or.inl ⟨by rfl, ?_⟩) ?_ ?_
 rotate_left
 {
 intro w'
 go_simp
 with_reducible rfl
 }
 rotate_left
 · exact pt_
 refine done_ (done_of HT_.out (by kernel_rfl)) ?_
 go_upto_region 42 with (first | ((with_reducible refine gate_dst (N := 301) rfl ?_); (try (refine gate_guard (by rfl) ?_; dsimp only)); refine Kd.R_lit k47 _ 47 ?hg (N := 301) ?hd (xs := ([] : List (S47))) (inner := []) (ok := fun _ => True) (okp := fun _ => True) ?hr ?hp (fun _ hk => hk) trivial (Below.refl _ _) (Nat.le_refl _) (by simp) ?_; (case hd => rfl); (case hg => rfl); (case hr => first | (go_simp; done) | (go_simp; rfl)); (case hp => exact (Reps.none _ _)); intro v474 w149 ho150 hb hg_ hnew_; clear hg_ hnew_; (first | rw [← Ny473.out] at ho150 | (simp only [Int.reduceToNat] at ho150; rw [← Ny473.out] at ho150)); have n0_ := ak (Kd.R_elder' (zR HO_6.out) (Kd.R_base ho150) hb); have n1_ := ak (Kd.R_below (zR HO_30.out) hb); have n2_ := ak (Kd.R_below (zR HO_385001.out) hb); have n3_ := ak (Kd.R_below (zR HO466.out) hb); have n4_ := ak (Kd.R_below (zR HO471.out) hb); have n5_ := ak (Kd.R_lower (Kd.R_new' ho150 (Kd.R_lt (zR HO_6.out))) (below_size (zBG HB.out GE384.out))); have n6_ := ak (blk_below (g := gb384) (o := .cells #[.int .i16 t380, .slice Ao18 t381.length co18] 27 (0, 0)) (zK BK384.out) hb); have n7_ := ak (Kd.C_below (zC HR448.out) hb); have n8_ := ak (Kd.C_below (zC HR455.out) hb); have n9_ := ak (below_step (zBG HB.out GE384.out) hb); clear HO_6 HO_30 HO_385001 HO466 HO471 BK384 HR448 HR455 HB; have HO_6 := n0_; have HO_30 := n1_; have HO_385001 := n2_; have HO466 := n3_; have HO471 := n4_; have HO475 := n5_; have BK384 := n6_; have HR448 := n7_; have HR455 := n8_; have HB := n9_; clear n0_ n1_ n2_ n3_ n4_ n5_ n6_ n7_ n8_ n9_; clear hb ho150) | ((with_reducible refine gate_builtin (b := .append) (xs := #[.tmp 301, .tmp 302]) rfl ?_); (try (refine gate_guard (by rfl) ?_; dsimp only)); at_builtin; refine Kd.R_append_rows k47 (w0 := w) w.heap.size rfl (.tmp 301) (.tmp 302) 29 47 (.agg #[(.int .i16 0), (.int .i8 0)]) 4 rfl Try.underlying29 info47 rfl (by decide) (by omega) v474 y473 t385 _ _ _ (fun k_ => some k_ ≠ (.slice Ao21 t385.length co21 : Value).ownBlock) (fun _ => False) rfl rfl ?aO ?aR (fun _ _ h => h) (fun _ h => h.elim) ?aF ?aB ?aS ?aL ?_; (case aR => exact zC (Kd.R_reads' HO_6.out).2.2); (case aB => exact (zBG HB.out GE384.out)); (case aF => exact (fun k_ hk => Kd.fresh' (Kd.R_lt (zR HO_6.out)) k_ hk)); (case aO => exact (by (with_reducible repeat (first | apply Kd.R_alloc | apply Kd.R_drewN | apply Kd.R_drew)); exact Kd.R_mono HO475.out (fun _ hk => hk.2))); (case aS => exact (below_size (zBG HB.out GE384.out))); (case aL => have := LMc132.out; omega); intro v477 w151 ho hb hg hat; rw [← Ny476.out] at ho; have n0_ := ak (Kd.R_after (ok := (fun _ => True)) (zR HO_6.out) hg hat); have n1_ := ak (Kd.R_over' (zR HO_30.out) (Kd.R_typed (zR HO475.out)) (by decide) hg); have n2_ := ak (Kd.R_over' (zR HO_385001.out) (Kd.R_typed (zR HO475.out)) (by decide) hg); have n3_ := ak (blk_grown (g := gb384) (o := .cells #[.int .i16 t380, .slice Ao18 t381.length co18] 27 (0, 0)) (zK BK384.out) hg (Kd.R_ne HO475.out BK384.out (by decide))); have n4_ := ak (Kd.R_over' (zR HO466.out) (Kd.R_typed (zR HO475.out)) (by decide) hg); have n5_ := ak (Kd.R_over' (zR HO471.out) (Kd.R_typed (zR HO475.out)) (by decide) hg); have n6_ := ak (hb); have n7_ := ak ((show Kd.C k47 w151 Ao21 y445.length y445 from by rw [Ny445.out]; exact Kd.C_take (m := (t408 : Int).toNat) ((Kd.R_reads' (Kd.R_after (ok := (fun _ => True)) (zR HO_6.out) hg hat)).2.2) KL114.out)); have n8_ := ak ((show Kd.C k47 w151 A115 y452.length y452 from by rw [Ny452.out, KA115.out]; exact Kd.C_drop (m := ((ji107) : Int).toNat) (c := co21) ((Kd.R_reads' (Kd.R_after (ok := (fun _ => True)) (zR HO_6.out) hg hat)).2.2) KL115.out ((Kd.R_reads' (Kd.R_after (ok := (fun _ => True)) (zR HO_6.out) hg hat)).2.1))); have n9_ := ak (ho); clear HO_6 HO_30 HO_385001 BK384 HO466 HO471 HB HR448 HR455 HO475; have HO_6 := n0_; have HO_30 := n1_; have HO_385001 := n2_; have BK384 := n3_; have HO466 := n4_; have HO471 := n5_; have HB := n6_; have HR448 := n7_; have HR455 := n8_; have HO478 := n9_; clear n0_ n1_ n2_ n3_ n4_ n5_ n6_ n7_ n8_ n9_; clear ho hb hg hat; have p479 : 0 ≤ ((ji133) : Int) := of_decide_eq_true (by first | (with_reducible assumption) | assumption); have q479 : (ji133) < (t385.length : Int) := of_decide_eq_true (by first | (with_reducible assumption) | assumption); obtain ⟨ad479, e479, hx479_0, hx479_1⟩ := at_T47 (Kd.R_reads' HO_6.out).2.2 (ji133) p479 q479; cases e479; replace p479 := eq_true p479; replace q479 := eq_true q479; have p138 : 0 ≤ (t408 : Int) := of_decide_eq_true (by first | (with_reducible assumption) | assumption); have q138 : (t408 : Int) < ((y476.length : Int) : Int) := of_decide_eq_true (by first | (with_reducible assumption) | assumption); obtain ⟨go138, co138, eo138, gb138, gl138, cl138, HG138⟩ := Kd.R_form HO478.out (by omega); (first | cases eo138 | (injection eo138 with ea_ en_ ec_; (first | subst ea_ | (injection ea_ with ea_; subst ea_)); subst ec_; clear en_)); have GB138 := ak gb138; have GG138 := ak HG138; clear gb138 gl138 HG138; obtain ⟨ce138, hcl138, hM138, hcc138, hfr138⟩ := Kd.R_elem HO478.out z47 (t408 : Int) p138 q138; obtain rfl := k47_openM hM138; have hx138_0 : w151.cell? ⟨go138, (t408 : Int).toNat * 2, none⟩ = some (.int .i16 ((rd_T47 y476 t408).f0)) := hcc138 0 _ rfl; have hx138_1 : w151.cell? ⟨go138, (t408 : Int).toNat * 2 + 1, none⟩ = some (.int .i8 ((rd_T47 y476 t408).f1)) := hcc138 1 _ rfl; have hf138_0 : w151.frozen? ⟨go138, (t408 : Int).toNat * 2, none⟩ = false := hfr138 0; have hf138_1 : w151.frozen? ⟨go138, (t408 : Int).toNat * 2 + 1, none⟩ = false := hfr138 1; clear hcl138 hcc138 hfr138 hM138; replace p138 := eq_true p138; replace q138 := eq_true q138; have HX152 := ak (show Kd.R k47 47 w151 w.heap.size (fun k_ => some k_ ≠ (.slice (some ad479) t385.length co21 : Value).ownBlock) (.slice (some ⟨go138, 0, none⟩) y476.length co138) y476 from (zR HO478.out)); obtain ⟨ce152, hcl152, hM152, hcc152, hfr152⟩ := Kd.R_elem HX152.out z47 (t408 : Int) (of_decide_eq_true (by first | (with_reducible assumption) | assumption)) (by have h_ : (t408 : Int) < ((y476.length : Int) : Int) := of_decide_eq_true (by first | (with_reducible assumption) | assumption); first | exact h_ | (have e_ := (Kd.R_reads' HO478.out).1; omega) | simpa using h_); obtain rfl := k47_openM hM152; have HP152 := Kd.R_seg HX152.out (t408 : Int) (of_decide_eq_true (by first | (with_reducible assumption) | assumption)) (by have h_ : (t408 : Int) < ((y476.length : Int) : Int) := of_decide_eq_true (by first | (with_reducible assumption) | assumption); first | exact h_ | (have e_ := (Kd.R_reads' HO478.out).1; omega) | simpa using h_) (seg := [.int .i16 ((rd_T47 t385 (ji133)).f0)]) (j := 0) hcl152 hcc152 (show 1 ≤ 2 from by decide) (x' := (⟨(rd_T47 t385 (ji133)).f0, (rd_T47 y476 t408).f1⟩ : S47)) (k47_mkM _ _ _ (⟨(rd_T47 t385 (ji133)).f0, (rd_T47 y476 t408).f1⟩ : S47) ) (fun _ hk => hk); have hx152_0 := hcc152 0 _ rfl; (try simp only [show (k47).sz = 2 from rfl, Nat.mul_one, Nat.add_zero] at hx152_0); have hf152_0 := hfr152 0; (try simp only [show (k47).sz = 2 from rfl, Nat.mul_one, Nat.add_zero] at hf152_0); clear hcl152 hcc152 hfr152 hM152) | ((with_reducible refine gate_store (t := 24) (p := 312) rfl ?_); refine store_event (t := 24) (p := 312) (v := ?vo_w153) (w1 := (w151.setCell ⟨go138, (t408 : Int).toNat * 2, none⟩ (.int .i16 ((rd_T47 t385 (ji133)).f0)))) ?hg ?ho ?hn ?hr ?_; (case ho => rfl); (case hg => rfl); (case hn => rfl); (case hr => first | (go_simp; done) | (go_simp; rfl)); intro w153 hw; have hg : w151.grownBy w153 (some go138) := (by rw [hw]; exact HP152.2); have hp_ : Kd.R k47 47 w153 w.heap.size (fun k_ => some k_ ≠ (.slice (some ad479) t385.length co21 : Value).ownBlock) (.slice (some ⟨go138, 0, none⟩) y476.length co138) y480 := (by rw [hw, Ny480.out]; exact HP152.1); clear HP152; have n0_ := ak (Kd.R_after (v := (.slice (some ⟨go138, 0, none⟩) y476.length co138)) (v1 := (.slice (some ⟨go138, 0, none⟩) y476.length co138)) (ok := (fun _ => True)) (zR HO_6.out) hg (.inl rfl)); have n1_ := ak (Kd.R_over' (v := (.slice (some ⟨go138, 0, none⟩) y476.length co138)) (zR HO_30.out) (Kd.R_typed HO478.out) (by decide) hg); have n2_ := ak (Kd.R_over' (v := (.slice (some ⟨go138, 0, none⟩) y476.length co138)) (zR HO_385001.out) (Kd.R_typed HO478.out) (by decide) hg); have n3_ := ak (blk_grown (g := gb384) (o := .cells #[.int .i16 t380, .slice Ao18 t381.length co18] 27 (0, 0)) (zK BK384.out) hg (Kd.R_ne HO478.out BK384.out (by decide))); have n4_ := ak (Kd.R_over' (v := (.slice (some ⟨go138, 0, none⟩) y476.length co138)) (zR HO466.out) (Kd.R_typed HO478.out) (by decide) hg); have n5_ := ak (Kd.R_over' (v := (.slice (some ⟨go138, 0, none⟩) y476.length co138)) (zR HO471.out) (Kd.R_typed HO478.out) (by decide) hg); have n6_ := ak (hp_); have n7_ := ak ((by rw [hw]; exact below_set (HB.out) GB138.out : Below w.heap.size w w153)); have n8_ := ak ((show Kd.C k47 w153 (some ad479) y445.length y445 from by rw [Ny445.out]; exact Kd.C_take (m := (t408 : Int).toNat) ((Kd.R_reads' (Kd.R_after (v := (.slice (some ⟨go138, 0, none⟩) y476.length co138)) (v1 := (.slice (some ⟨go138, 0, none⟩) y476.length co138)) (ok := (fun _ => True)) (zR HO_6.out) hg (.inl rfl))).2.2) KL114.out)); have n9_ := ak ((show Kd.C k47 w153 A115 y452.length y452 from by rw [Ny452.out, KA115.out]; exact Kd.C_drop (m := ((ji107) : Int).toNat) (c := co21) ((Kd.R_reads' (Kd.R_after (v := (.slice (some ⟨go138, 0, none⟩) y476.length co138)) (v1 := (.slice (some ⟨go138, 0, none⟩) y476.length co138)) (ok := (fun _ => True)) (zR HO_6.out) hg (.inl rfl))).2.2) KL115.out ((Kd.R_reads' (Kd.R_after (v := (.slice (some ⟨go138, 0, none⟩) y476.length co138)) (v1 := (.slice (some ⟨go138, 0, none⟩) y476.length co138)) (ok := (fun _ => True)) (zR HO_6.out) hg (.inl rfl))).2.1))); clear HO_6 HO_30 HO_385001 BK384 HO466 HO471 HO478 HB HR448 HR455; have HO_6 := n0_; have HO_30 := n1_; have HO_385001 := n2_; have BK384 := n3_; have HO466 := n4_; have HO471 := n5_; have HO478 := n6_; have HB := n7_; have HR448 := n8_; have HR455 := n9_; clear n0_ n1_ n2_ n3_ n4_ n5_ n6_ n7_ n8_ n9_; clear hg hw hp_; have p481 : 0 ≤ (t408 : Int) := of_decide_eq_true (by first | (with_reducible assumption) | assumption); have q481 : t408 < (t385.length : Int) := of_decide_eq_true (by first | (with_reducible assumption) | assumption); obtain ⟨ad481, e481, hx481_0, hx481_1⟩ := at_T47 (Kd.R_reads' HO_6.out).2.2 t408 p481 q481; obtain rfl : ad479 = ad481 := (by injection e481); replace p481 := eq_true p481; replace q481 := eq_true q481; have p141 : 0 ≤ ((ji133) : Int) := of_decide_eq_true (by first | (with_reducible assumption) | assumption); have q141 : ((ji133) : Int) < ((y476.length : Int) : Int) := of_decide_eq_true (by first | (with_reducible assumption) | assumption); obtain ⟨ce141, hcl141, hM141, hcc141, hfr141⟩ := Kd.R_elem HO478.out z47 ((ji133) : Int) p141 q141; obtain rfl := k47_openM hM141; have hx141_0 : w153.cell? ⟨go138, ((ji133) : Int).toNat * 2, none⟩ = some (.int .i16 ((rd_T47 y480 (ji133)).f0)) := hcc141 0 _ rfl; have hx141_1 : w153.cell? ⟨go138, ((ji133) : Int).toNat * 2 + 1, none⟩ = some (.int .i8 ((rd_T47 y480 (ji133)).f1)) := hcc141 1 _ rfl; have hf141_0 : w153.frozen? ⟨go138, ((ji133) : Int).toNat * 2, none⟩ = false := hfr141 0; have hf141_1 : w153.frozen? ⟨go138, ((ji133) : Int).toNat * 2 + 1, none⟩ = false := hfr141 1; clear hcl141 hcc141 hfr141 hM141; replace p141 := eq_true p141; replace q141 := eq_true q141; have HX154 := ak (show Kd.R k47 47 w153 w.heap.size (fun k_ => some k_ ≠ (.slice (some ad479) t385.length co21 : Value).ownBlock) (.slice (some ⟨go138, 0, none⟩) y476.length co138) y480 from (zR HO478.out)); obtain ⟨ce154, hcl154, hM154, hcc154, hfr154⟩ := Kd.R_elem HX154.out z47 ((ji133) : Int) (of_decide_eq_true (by first | (with_reducible assumption) | assumption)) (by have h_ : ((ji133) : Int) < ((y476.length : Int) : Int) := of_decide_eq_true (by first | (with_reducible assumption) | assumption); first | exact h_ | (have e_ := (Kd.R_reads' HO478.out).1; omega) | simpa using h_); obtain rfl := k47_openM hM154; have HP154 := Kd.R_seg HX154.out ((ji133) : Int) (of_decide_eq_true (by first | (with_reducible assumption) | assumption)) (by have h_ : ((ji133) : Int) < ((y476.length : Int) : Int) := of_decide_eq_true (by first | (with_reducible assumption) | assumption); first | exact h_ | (have e_ := (Kd.R_reads' HO478.out).1; omega) | simpa using h_) (seg := [.int .i16 ((rd_T47 t385 t408).f0)]) (j := 0) hcl154 hcc154 (show 1 ≤ 2 from by decide) (x' := (⟨(rd_T47 t385 t408).f0, (rd_T47 y480 (ji133)).f1⟩ : S47)) (k47_mkM _ _ _ (⟨(rd_T47 t385 t408).f0, (rd_T47 y480 (ji133)).f1⟩ : S47) ) (fun _ hk => hk); have hx154_0 := hcc154 0 _ rfl; (try simp only [show (k47).sz = 2 from rfl, Nat.mul_one, Nat.add_zero] at hx154_0); have hf154_0 := hfr154 0; (try simp only [show (k47).sz = 2 from rfl, Nat.mul_one, Nat.add_zero] at hf154_0); clear hcl154 hcc154 hfr154 hM154) | ((with_reducible refine gate_store (t := 24) (p := 321) rfl ?_); refine store_event (t := 24) (p := 321) (v := ?vo_w155) (w1 := (w153.setCell ⟨go138, ((ji133) : Int).toNat * 2, none⟩ (.int .i16 ((rd_T47 t385 t408).f0)))) ?hg ?ho ?hn ?hr ?_; (case ho => rfl); (case hg => rfl); (case hn => rfl); (case hr => first | (go_simp; done) | (go_simp; rfl)); intro w155 hw; have hg : w153.grownBy w155 (some go138) := (by rw [hw]; exact HP154.2); have hp_ : Kd.R k47 47 w155 w.heap.size (fun k_ => some k_ ≠ (.slice (some ad479) t385.length co21 : Value).ownBlock) (.slice (some ⟨go138, 0, none⟩) y476.length co138) y482 := (by rw [hw, Ny482.out]; exact HP154.1); clear HP154; have n0_ := ak (Kd.R_after (v := (.slice (some ⟨go138, 0, none⟩) y476.length co138)) (v1 := (.slice (some ⟨go138, 0, none⟩) y476.length co138)) (ok := (fun _ => True)) (zR HO_6.out) hg (.inl rfl)); have n1_ := ak (Kd.R_over' (v := (.slice (some ⟨go138, 0, none⟩) y476.length co138)) (zR HO_30.out) (Kd.R_typed HO478.out) (by decide) hg); have n2_ := ak (Kd.R_over' (v := (.slice (some ⟨go138, 0, none⟩) y476.length co138)) (zR HO_385001.out) (Kd.R_typed HO478.out) (by decide) hg); have n3_ := ak (blk_grown (g := gb384) (o := .cells #[.int .i16 t380, .slice Ao18 t381.length co18] 27 (0, 0)) (zK BK384.out) hg (Kd.R_ne HO478.out BK384.out (by decide))); have n4_ := ak (Kd.R_over' (v := (.slice (some ⟨go138, 0, none⟩) y476.length co138)) (zR HO466.out) (Kd.R_typed HO478.out) (by decide) hg); have n5_ := ak (Kd.R_over' (v := (.slice (some ⟨go138, 0, none⟩) y476.length co138)) (zR HO471.out) (Kd.R_typed HO478.out) (by decide) hg); have n6_ := ak (hp_); have n7_ := ak ((by rw [hw]; exact below_set (HB.out) GB138.out : Below w.heap.size w w155)); have n8_ := ak ((show Kd.C k47 w155 (some ad479) y445.length y445 from by rw [Ny445.out]; exact Kd.C_take (m := (t408 : Int).toNat) ((Kd.R_reads' (Kd.R_after (v := (.slice (some ⟨go138, 0, none⟩) y476.length co138)) (v1 := (.slice (some ⟨go138, 0, none⟩) y476.length co138)) (ok := (fun _ => True)) (zR HO_6.out) hg (.inl rfl))).2.2) KL114.out)); have n9_ := ak ((show Kd.C k47 w155 A115 y452.length y452 from by rw [Ny452.out, KA115.out]; exact Kd.C_drop (m := ((ji107) : Int).toNat) (c := co21) ((Kd.R_reads' (Kd.R_after (v := (.slice (some ⟨go138, 0, none⟩) y476.length co138)) (v1 := (.slice (some ⟨go138, 0, none⟩) y476.length co138)) (ok := (fun _ => True)) (zR HO_6.out) hg (.inl rfl))).2.2) KL115.out ((Kd.R_reads' (Kd.R_after (v := (.slice (some ⟨go138, 0, none⟩) y476.length co138)) (v1 := (.slice (some ⟨go138, 0, none⟩) y476.length co138)) (ok := (fun _ => True)) (zR HO_6.out) hg (.inl rfl))).2.1))); clear HO_6 HO_30 HO_385001 BK384 HO466 HO471 HO478 HB HR448 HR455; have HO_6 := n0_; have HO_30 := n1_; have HO_385001 := n2_; have BK384 := n3_; have HO466 := n4_; have HO471 := n5_; have HO478 := n6_; have HB := n7_; have HR448 := n8_; have HR455 := n9_; clear n0_ n1_ n2_ n3_ n4_ n5_ n6_ n7_ n8_ n9_; clear hg hw hp_; have hcz156_0 : w155.cell? ⟨gb384, 0, none⟩ = some (.int .i16 t380) := (blk_cell BK384.out 0).trans rfl; have hcz156_1 : w155.cell? ⟨gb384, 1, none⟩ = some (.slice Ao18 t381.length co18) := (blk_cell BK384.out 1).trans rfl; have hfz156_0 := blk_frozen BK384.out 0; have hfz156_1 := blk_frozen BK384.out 1) | ((with_reducible refine gate_callee (f := 8) rfl ?_); refine goesL_ (some 325) rfl rfl Try.func8 (by kernel_rfl) rfl #[.agg #[.int .i16 t380, .slice Ao18 t381.length co18], .slice (some ⟨go138, 0, none⟩) y482.length co138] rfl (by (try simp only [List.map_toArray, List.map_cons, List.map_nil]); first | done | (rw [show y482.length = y476.length from (Kd.R_reads' HO478.out).1.symm] <;> rfl) | rfl | (simp only [List.length_drop, List.length_take]; rfl)) ?_; (with_reducible refine (spec_CountAlong.calls kj111 t380 _ _ t381 _ _ y482 t483 t486 _ ?side1 ?side2 ?side3 ?side4 A142.out).mono ?_); (case side1 => exact zC (Kd.R_reads' HO_385001.out).2.2); (case side2 => exact (Kd.R_reads' HO_385001.out).2.1); (case side3 => exact zC (Kd.R_reads' HO478.out).2.2); (case side4 => rw [show y482.length = y476.length from (Kd.R_reads' HO478.out).1.symm]; exact (Kd.R_reads' HO478.out).2.1); rintro e w157 ⟨v484, rfl, ho0, hb⟩; refine ⟨_, rfl, ?_⟩; have n0_ := ak (Kd.R_below (zR HO_6.out) hb); have n1_ := ak (Kd.R_elder' (zR HO_30.out) (Kd.R_base ho0) hb); have n2_ := ak (Kd.R_below (zR HO_385001.out) hb); have n3_ := ak (Kd.R_below (zR HO466.out) hb); have n4_ := ak (Kd.R_below (zR HO471.out) hb); have n5_ := ak (Kd.R_below (zR HO478.out) hb); have n6_ := ak (Kd.R_lower (Kd.R_new' ho0 (Kd.R_lt (zR HO_30.out))) (below_size (zBG HB.out GE384.out))); have n7_ := ak (blk_below (g := gb384) (o := .cells #[.int .i16 t380, .slice Ao18 t381.length co18] 27 (0, 0)) (zK BK384.out) hb); have n8_ := ak (Kd.C_below (zC HR448.out) hb); have n9_ := ak (Kd.C_below (zC HR455.out) hb); have n10_ := ak (below_step (zBG HB.out GE384.out) hb); clear HO_6 HO_30 HO_385001 HO466 HO471 HO478 BK384 HR448 HR455 HB; have HO_6 := n0_; have HO_30 := n1_; have HO_385001 := n2_; have HO466 := n3_; have HO471 := n4_; have HO478 := n5_; have HO485 := n6_; have BK384 := n7_; have HR448 := n8_; have HR455 := n9_; have HB := n10_; clear n0_ n1_ n2_ n3_ n4_ n5_ n6_ n7_ n8_ n9_ n10_; (try clear hb); (try clear hb2); (try clear hk); (try clear hi); (try clear ho0)))
 (try simp only [Act.put, zs, zz, zk])
 refine wp_cutM 20657999024695268717247353376024094994637646342633788102645274852325180976134729557037162826241102651487225358189793902592 (fun (u : Nat → Value) wc => ∃ (kq : Nat) (x355_142 : Bool), u 355 = .bool x355_142 ∧ Aside0 (laws_FnSaid.j5 kq t385 t408 ji133 t483 x355_142 t380 t381 = some r) ∧ Aside0 (kq ≤ kj111) ∧ Aside0 (Kd.R k47 47 wc w.heap.size (fun _ => True) (.slice (some ad479) t385.length co21) t385) ∧ Aside0 (Kd.R k40 40 wc w.heap.size (fun _ => True) v484 t483) ∧ Aside0 (Kd.R (Kd.int .i16) 24 wc w.heap.size (fun _ => True) (.slice Ao18 t381.length co18) t381) ∧ Aside0 (wc.heap[gb384]? = some (.cells #[.int .i16 t380, (.slice Ao18 t381.length co18)] 27 (0, 0))) ∧ Aside0 (Kd.C k47 wc (some ad479) y445.length y445) ∧ Aside0 (Kd.C k47 wc A115 y452.length y452) ∧ Aside0 (Below w.heap.size w wc)) ?first ?rest
 case first => (
 as_aux_lemma =>
 intro J_ K_ hJ6_ hK_
 have H := HC143.out
 clear HC143
 by_cases c158 : t467 = t472
 {
 rw [if_pos c158] at H
 have c158b0 : (t467 == t472) = true := beq_iff_eq.mpr c158
 have c158b1 : (t467 != t472) = false := bne_eq_false_iff_eq.mpr c158
 clear c158
 (first | rw [c158b0] | (simp only [i64_w, i32_w]; rw [c158b0]) | skip)
 by_cases c159 : t467 = 0
 {
 rw [if_pos c159] at H
 have c159b0 : (t467 == 0) = true := beq_iff_eq.mpr c159
 have c159b1 : (t467 != 0) = false := bne_eq_false_iff_eq.mpr c159
 clear c159
 replace H := Option.bind_eq_some_iff.mp H
 obtain ⟨t487, A1600, H⟩ := H
 replace H : (if t487 = true then ((spec_HasNumber.f kj111 t469 t408).bind fun t488 => (if t488 = true then (if t486 = 0 then (laws_FnSaid.j5 kj111 t385 t408 ji133 t483 ((t483.length : Int) == 0) t380 t381) else (laws_FnSaid.j5 kj111 t385 t408 ji133 t483 true t380 t381)) else (laws_FnSaid.j5 kj111 t385 t408 ji133 t483 true t380 t381))) else (laws_FnSaid.j5 kj111 t385 t408 ji133 t483 true t380 t381)) = some r := H
 have A160 := ak A1600
 clear A1600
 by_cases c161 : t487 = true
 {
 subst c161
 have H1 : ((spec_HasNumber.f kj111 t469 t408).bind fun t488 => (if t488 = true then (if t486 = 0 then (laws_FnSaid.j5 kj111 t385 t408 ji133 t483 ((t483.length : Int) == 0) t380 t381) else (laws_FnSaid.j5 kj111 t385 t408 ji133 t483 true t380 t381)) else (laws_FnSaid.j5 kj111 t385 t408 ji133 t483 true t380 t381))) = some r := by rw [if_pos rfl] at H; exact H
 clear H
 have H := H1
 clear H1
 replace H := Option.bind_eq_some_iff.mp H
 obtain ⟨t488, A1620, H⟩ := H
 replace H : (if t488 = true then (if t486 = 0 then (laws_FnSaid.j5 kj111 t385 t408 ji133 t483 ((t483.length : Int) == 0) t380 t381) else (laws_FnSaid.j5 kj111 t385 t408 ji133 t483 true t380 t381)) else (laws_FnSaid.j5 kj111 t385 t408 ji133 t483 true t380 t381)) = some r := H
 have A162 := ak A1620
 clear A1620
 by_cases c163 : t488 = true
 {
 subst c163
 have H1 : (if t486 = 0 then (laws_FnSaid.j5 kj111 t385 t408 ji133 t483 ((t483.length : Int) == 0) t380 t381) else (laws_FnSaid.j5 kj111 t385 t408 ji133 t483 true t380 t381)) = some r := by rw [if_pos rfl] at H; exact H
 clear H
 have H := H1
 clear H1
 by_cases c164 : t486 = 0
 {
 rw [if_pos c164] at H
 have c164b0 : (t486 == 0) = true := beq_iff_eq.mpr c164
 have c164b1 : (t486 != 0) = false := bne_eq_false_iff_eq.mpr c164
 clear c164
 (
 have H' := ak H
 clear H
 obtain ⟨Ao165, co165, eo165⟩ := Kd.R_slice HO466.out
 subst eo165
 obtain ⟨Ao166, co166, eo166⟩ := Kd.R_slice HO471.out
 subst eo166
 go_wp2_with (first | (go_at_call 15; (with_reducible refine (spec_SameNumbers.calls kj111 _ _ t464 _ _ t469 true _ ?side1 ?side2 ?side3 ?side4 A160.out).mono ?_); (case side1 => exact zC (Kd.R_reads' HO466.out).2.2); (case side2 => exact (Kd.R_reads' HO466.out).2.1); (case side3 => exact zC (Kd.R_reads' HO471.out).2.2); (case side4 => exact (Kd.R_reads' HO471.out).2.1); rintro e w' ⟨rfl, ⟨nd, rfl⟩⟩) | (go_at_call 16; (with_reducible refine (spec_HasNumber.calls kj111 _ _ t469 t408 true _ ?side1 ?side2 A162.out).mono ?_); (case side1 => exact zC (Kd.R_reads' HO471.out).2.2); (case side2 => exact (Kd.R_reads' HO471.out).2.1); rintro e w' ⟨rfl, ⟨nd, rfl⟩⟩; obtain ⟨Ao167, co167, eo167⟩ := Kd.R_slice HO485.out; subst eo167))
 refine meetM hJ6_ (by kernel_rfl) ?rel
 case rel => dsimp only [List.getD_cons_succ, List.getD_cons_zero]; exact ⟨_, (((t483.length : Int) == 0)), (by first | rfl | (simp; done) | (simp [*]; done)), H', ⟨by have := HJ2.out; have := HJ13.out; have := HK3.out; have := HJ67.out; have := HJ111.out; first | omega | exact Nat.le_refl _⟩, ⟨by (with_reducible repeat (first | apply Kd.R_alloc | apply Kd.R_drewN | apply Kd.R_drew)); exact Kd.R_mono HO_6.out (fun _ hk => trivial)⟩, ⟨by (with_reducible repeat (first | apply Kd.R_alloc | apply Kd.R_drewN | apply Kd.R_drew)); exact Kd.R_mono HO485.out (fun _ hk => trivial)⟩, ⟨(zR HO_385001.out)⟩, ⟨(zK BK384.out)⟩, ⟨(zC HR448.out)⟩, ⟨(zC HR455.out)⟩, ⟨(zBG HB.out GE384.out)⟩⟩
 )
 }
 {
 rw [if_neg c164] at H
 have c164b0 : (t486 == 0) = false := beq_eq_false_iff_ne.mpr c164
 have c164b1 : (t486 != 0) = true := bne_iff_ne.mpr c164
 (
 have H' := ak H
 clear H
 obtain ⟨Ao168, co168, eo168⟩ := Kd.R_slice HO466.out
 subst eo168
 obtain ⟨Ao169, co169, eo169⟩ := Kd.R_slice HO471.out
 subst eo169
 go_wp2_with (first | (go_at_call 15; (with_reducible refine (spec_SameNumbers.calls kj111 _ _ t464 _ _ t469 true _ ?side1 ?side2 ?side3 ?side4 A160.out).mono ?_); (case side1 => exact zC (Kd.R_reads' HO466.out).2.2); (case side2 => exact (Kd.R_reads' HO466.out).2.1); (case side3 => exact zC (Kd.R_reads' HO471.out).2.2); (case side4 => exact (Kd.R_reads' HO471.out).2.1); rintro e w' ⟨rfl, ⟨nd, rfl⟩⟩) | (go_at_call 16; (with_reducible refine (spec_HasNumber.calls kj111 _ _ t469 t408 true _ ?side1 ?side2 A162.out).mono ?_); (case side1 => exact zC (Kd.R_reads' HO471.out).2.2); (case side2 => exact (Kd.R_reads' HO471.out).2.1); rintro e w' ⟨rfl, ⟨nd, rfl⟩⟩))
 refine meetM hJ6_ (by kernel_rfl) ?rel
 case rel => dsimp only [List.getD_cons_succ, List.getD_cons_zero]; exact ⟨_, (true), (by first | rfl | (simp; done) | (simp [*]; done)), H', ⟨by have := HJ2.out; have := HJ13.out; have := HK3.out; have := HJ67.out; have := HJ111.out; first | omega | exact Nat.le_refl _⟩, ⟨by (with_reducible repeat (first | apply Kd.R_alloc | apply Kd.R_drewN | apply Kd.R_drew)); exact Kd.R_mono HO_6.out (fun _ hk => trivial)⟩, ⟨by (with_reducible repeat (first | apply Kd.R_alloc | apply Kd.R_drewN | apply Kd.R_drew)); exact Kd.R_mono HO485.out (fun _ hk => trivial)⟩, ⟨(zR HO_385001.out)⟩, ⟨(zK BK384.out)⟩, ⟨(zC HR448.out)⟩, ⟨(zC HR455.out)⟩, ⟨(zBG HB.out GE384.out)⟩⟩
 )
 }
 }
 {
 replace c163 := Bool.eq_false_iff.mpr c163
 subst c163
 have H1 : (laws_FnSaid.j5 kj111 t385 t408 ji133 t483 true t380 t381) = some r := by rw [if_neg (show ¬ (false = true) by decide)] at H; exact H
 clear H
 have H := H1
 clear H1
 (
 have H' := ak H
 clear H
 obtain ⟨Ao170, co170, eo170⟩ := Kd.R_slice HO466.out
 subst eo170
 obtain ⟨Ao171, co171, eo171⟩ := Kd.R_slice HO471.out
 subst eo171
 go_wp2_with (first | (go_at_call 15; (with_reducible refine (spec_SameNumbers.calls kj111 _ _ t464 _ _ t469 true _ ?side1 ?side2 ?side3 ?side4 A160.out).mono ?_); (case side1 => exact zC (Kd.R_reads' HO466.out).2.2); (case side2 => exact (Kd.R_reads' HO466.out).2.1); (case side3 => exact zC (Kd.R_reads' HO471.out).2.2); (case side4 => exact (Kd.R_reads' HO471.out).2.1); rintro e w' ⟨rfl, ⟨nd, rfl⟩⟩) | (go_at_call 16; (with_reducible refine (spec_HasNumber.calls kj111 _ _ t469 t408 false _ ?side1 ?side2 A162.out).mono ?_); (case side1 => exact zC (Kd.R_reads' HO471.out).2.2); (case side2 => exact (Kd.R_reads' HO471.out).2.1); rintro e w' ⟨rfl, ⟨nd, rfl⟩⟩))
 refine meetM hJ6_ (by kernel_rfl) ?rel
 case rel => dsimp only [List.getD_cons_succ, List.getD_cons_zero]; exact ⟨_, (true), (by first | rfl | (simp; done) | (simp [*]; done)), H', ⟨by have := HJ2.out; have := HJ13.out; have := HK3.out; have := HJ67.out; have := HJ111.out; first | omega | exact Nat.le_refl _⟩, ⟨by (with_reducible repeat (first | apply Kd.R_alloc | apply Kd.R_drewN | apply Kd.R_drew)); exact Kd.R_mono HO_6.out (fun _ hk => trivial)⟩, ⟨by (with_reducible repeat (first | apply Kd.R_alloc | apply Kd.R_drewN | apply Kd.R_drew)); exact Kd.R_mono HO485.out (fun _ hk => trivial)⟩, ⟨(zR HO_385001.out)⟩, ⟨(zK BK384.out)⟩, ⟨(zC HR448.out)⟩, ⟨(zC HR455.out)⟩, ⟨(zBG HB.out GE384.out)⟩⟩
 )
 }
 }
 {
 replace c161 := Bool.eq_false_iff.mpr c161
 subst c161
 have H1 : (laws_FnSaid.j5 kj111 t385 t408 ji133 t483 true t380 t381) = some r := by rw [if_neg (show ¬ (false = true) by decide)] at H; exact H
 clear H
 have H := H1
 clear H1
 (
 have H' := ak H
 clear H
 obtain ⟨Ao172, co172, eo172⟩ := Kd.R_slice HO466.out
 subst eo172
 obtain ⟨Ao173, co173, eo173⟩ := Kd.R_slice HO471.out
 subst eo173
 go_wp2_with (first | (go_at_call 15; (with_reducible refine (spec_SameNumbers.calls kj111 _ _ t464 _ _ t469 false _ ?side1 ?side2 ?side3 ?side4 A160.out).mono ?_); (case side1 => exact zC (Kd.R_reads' HO466.out).2.2); (case side2 => exact (Kd.R_reads' HO466.out).2.1); (case side3 => exact zC (Kd.R_reads' HO471.out).2.2); (case side4 => exact (Kd.R_reads' HO471.out).2.1); rintro e w' ⟨rfl, ⟨nd, rfl⟩⟩))
 refine meetM hJ6_ (by kernel_rfl) ?rel
 case rel => dsimp only [List.getD_cons_succ, List.getD_cons_zero]; exact ⟨_, (true), (by first | rfl | (simp; done) | (simp [*]; done)), H', ⟨by have := HJ2.out; have := HJ13.out; have := HK3.out; have := HJ67.out; have := HJ111.out; first | omega | exact Nat.le_refl _⟩, ⟨by (with_reducible repeat (first | apply Kd.R_alloc | apply Kd.R_drewN | apply Kd.R_drew)); exact Kd.R_mono HO_6.out (fun _ hk => trivial)⟩, ⟨by (with_reducible repeat (first | apply Kd.R_alloc | apply Kd.R_drewN | apply Kd.R_drew)); exact Kd.R_mono HO485.out (fun _ hk => trivial)⟩, ⟨(zR HO_385001.out)⟩, ⟨(zK BK384.out)⟩, ⟨(zC HR448.out)⟩, ⟨(zC HR455.out)⟩, ⟨(zBG HB.out GE384.out)⟩⟩
 )
 }
 }
 {
 rw [if_neg c159] at H
 have c159b0 : (t467 == 0) = false := beq_eq_false_iff_ne.mpr c159
 have c159b1 : (t467 != 0) = true := bne_iff_ne.mpr c159
 (
 have H' := ak H
 clear H
 go_wp2
 refine meetM hJ6_ (by kernel_rfl) ?rel
 case rel => dsimp only [List.getD_cons_succ, List.getD_cons_zero]; exact ⟨_, (true), (by first | rfl | (simp; done) | (simp [*]; done)), H', ⟨by have := HJ2.out; have := HJ13.out; have := HK3.out; have := HJ67.out; have := HJ111.out; first | omega | exact Nat.le_refl _⟩, ⟨by (with_reducible repeat (first | apply Kd.R_alloc | apply Kd.R_drewN | apply Kd.R_drew)); exact Kd.R_mono HO_6.out (fun _ hk => trivial)⟩, ⟨by (with_reducible repeat (first | apply Kd.R_alloc | apply Kd.R_drewN | apply Kd.R_drew)); exact Kd.R_mono HO485.out (fun _ hk => trivial)⟩, ⟨(zR HO_385001.out)⟩, ⟨(zK BK384.out)⟩, ⟨(zC HR448.out)⟩, ⟨(zC HR455.out)⟩, ⟨(zBG HB.out GE384.out)⟩⟩
 )
 }
 }
 {
 rw [if_neg c158] at H
 have c158b0 : (t467 == t472) = false := beq_eq_false_iff_ne.mpr c158
 have c158b1 : (t467 != t472) = true := bne_iff_ne.mpr c158
 (first | rw [c158b0] | (simp only [i64_w, i32_w]; rw [c158b0]) | skip)
 (
 have H' := ak H
 clear H
 go_wp2
 refine meetM hJ6_ (by kernel_rfl) ?rel
 case rel => dsimp only [List.getD_cons_succ, List.getD_cons_zero]; exact ⟨_, (true), (by first | rfl | (simp; done) | (simp [*]; done)), H', ⟨by have := HJ2.out; have := HJ13.out; have := HK3.out; have := HJ67.out; have := HJ111.out; first | omega | exact Nat.le_refl _⟩, ⟨by (with_reducible repeat (first | apply Kd.R_alloc | apply Kd.R_drewN | apply Kd.R_drew)); exact Kd.R_mono HO_6.out (fun _ hk => trivial)⟩, ⟨by (with_reducible repeat (first | apply Kd.R_alloc | apply Kd.R_drewN | apply Kd.R_drew)); exact Kd.R_mono HO485.out (fun _ hk => trivial)⟩, ⟨(zR HO_385001.out)⟩, ⟨(zK BK384.out)⟩, ⟨(zC HR448.out)⟩, ⟨(zC HR455.out)⟩, ⟨(zBG HB.out GE384.out)⟩⟩
 )
 }
 )
 case rest => (
 as_aux_lemma =>
 intro u6_ wc hcut
 dsimp only [frU, cond, Nat.reduceMod, Nat.reduceDiv, Nat.reduceAdd, Nat.reduceBEq, Nat.reduceEqDiff, beq_self_eq_true]
 clear HC143
 try clear c1
 try clear q114
 try clear q115
 try clear c125
 try clear c127
 try clear c127b0
 try clear c128
 try clear c128b0
 try clear c131
 try clear c131b0
 try clear c131b1
 try clear c131b2
 try clear c132
 try clear c134
 try clear c134b0
 try clear c135
 try clear c135b0
 try clear c136
 try clear c136b0
 try clear c137
 try clear c137b0
 try clear p138
 try clear q138
 try clear c139
 try clear c139b0
 try clear c140
 try clear c140b0
 try clear p141
 try clear q141
 try clear hcz156_0
 try clear hcz156_1
 try clear hfz156_0
 try clear hfz156_1
 try clear hx138_0
 try clear hx138_1
 try clear hx141_0
 try clear hx141_1
 try clear hx152_0
 try clear hx154_0
 try clear hx463_0
 try clear hx463_1
 try clear hx468_0
 try clear hx468_1
 try clear hx479_0
 try clear hx479_1
 try clear hx481_0
 try clear hx481_1
 try clear p138
 try clear p141
 try clear p463
 try clear p468
 try clear p479
 try clear p481
 try clear q114
 try clear q115
 try clear q138
 try clear q141
 try clear q463
 try clear q468
 try clear q479
 try clear q481
 obtain ⟨kq, x355_142, eu6_355, HA, HJ142, HO_6, HO_38, HO_385001, BK384, HR448, HR455, HB⟩ := hcut
 rw [eu6_355]
 clear eu6_355
 cases kq with
 | zero => exact absurd HA.out (by simp [laws_FnSaid.j5])
 | succ kj142 => (
 have H := HA.out
 clear HA
 simp only [laws_FnSaid.j5] at H
 by_cases c174 : x355_142 = true
 {
 subst c174
 have H1 : (some false) = some r := by rw [if_pos rfl] at H; exact H
 clear H
 have H := H1
 clear H1
 (
 exact absurd ((Option.some.inj H).trans HT.out) (by decide)
 )
 }
 {
 replace c174 := Bool.eq_false_iff.mpr c174
 subst c174
 have H1 : (if 0 ≤ (wrap64 ((t483.length : Int) - 1)) then (if (wrap64 ((t483.length : Int) - 1)) < (t483.length : Int) then ((impl_SwappedBy.f kj142 t380 t381 t385 ((rd_T40 t483 (wrap64 ((t483.length : Int) - 1))).f0) ((rd_T40 t483 (wrap64 ((t483.length : Int) - 1))).f1)).bind fun bt490 => ((spec_SwappedBy.f kj142 t380 t381 t385 ((rd_T40 t483 (wrap64 ((t483.length : Int) - 1))).f0) ((rd_T40 t483 (wrap64 ((t483.length : Int) - 1))).f1)).bind fun bt495 => (if bt490.2 = bt495.2 then (if bt490.2 = 0 then ((spec_SamePairs.f kj142 bt490.1 bt495.1).bind fun t499 => (if t499 = true then ((spec_HasPair.f kj142 bt495.1 (mn t408 ji133) (mx t408 ji133)).bind fun t500 => (some t500)) else (some false))) else (some false)) else (some false)))) else (none)) else (none)) = some r := by rw [if_neg (show ¬ (false = true) by decide)] at H; exact H
 clear H
 have H := H1
 clear H1
 obtain ⟨ji175, hji175⟩ : ∃ j_ : Int, (wrap64 ((t483.length : Int) - 1)) = j_ := ⟨_, rfl⟩
 replace H : (if 0 ≤ (ji175) then (if (ji175) < (t483.length : Int) then ((impl_SwappedBy.f kj142 t380 t381 t385 ((rd_T40 t483 (ji175)).f0) ((rd_T40 t483 (ji175)).f1)).bind fun bt490 => ((spec_SwappedBy.f kj142 t380 t381 t385 ((rd_T40 t483 (ji175)).f0) ((rd_T40 t483 (ji175)).f1)).bind fun bt495 => (if bt490.2 = bt495.2 then (if bt490.2 = 0 then ((spec_SamePairs.f kj142 bt490.1 bt495.1).bind fun t499 => (if t499 = true then ((spec_HasPair.f kj142 bt495.1 (mn t408 ji133) (mx t408 ji133)).bind fun t500 => (some t500)) else (some false))) else (some false)) else (some false)))) else (none)) else (none)) = some r := by first | (rw [hji175] at H; exact H) | (simp only [hji175] at H ⊢; exact H)
 have hji175w : (IntKind.i64.wrap ((t483.length : Int) - 1)) = ji175 := (i64_w _).trans hji175
 by_cases c176 : 0 ≤ (ji175)
 {
 rw [if_pos c176] at H
 have c176b0 : decide (0 ≤ (ji175)) = true := decide_eq_true c176
 clear c176
 by_cases c177 : (ji175) < (t483.length : Int)
 {
 rw [if_pos c177] at H
 have c177b0 : decide ((ji175) < (t483.length : Int)) = true := decide_eq_true c177
 clear c177
 replace H := Option.bind_eq_some_iff.mp H
 obtain ⟨⟨t490, t493⟩, A1780, H⟩ := H
 replace H : ((spec_SwappedBy.f kj142 t380 t381 t385 ((rd_T40 t483 (ji175)).f0) ((rd_T40 t483 (ji175)).f1)).bind fun bt495 => (if t493 = bt495.2 then (if t493 = 0 then ((spec_SamePairs.f kj142 t490 bt495.1).bind fun t499 => (if t499 = true then ((spec_HasPair.f kj142 bt495.1 (mn t408 ji133) (mx t408 ji133)).bind fun t500 => (some t500)) else (some false))) else (some false)) else (some false))) = some r := H
 have A178 := ak A1780
 clear A1780
 replace H := Option.bind_eq_some_iff.mp H
 obtain ⟨⟨t495, t498⟩, A1790, H⟩ := H
 replace H : (if t493 = t498 then (if t493 = 0 then ((spec_SamePairs.f kj142 t490 t495).bind fun t499 => (if t499 = true then ((spec_HasPair.f kj142 t495 (mn t408 ji133) (mx t408 ji133)).bind fun t500 => (some t500)) else (some false))) else (some false)) else (some false)) = some r := H
 have A179 := ak A1790
 clear A1790
 by_cases c180 : t493 = t498
 {
 rw [if_pos c180] at H
 have c180b0 : (t493 == t498) = true := beq_iff_eq.mpr c180
 have c180b1 : (t493 != t498) = false := bne_eq_false_iff_eq.mpr c180
 clear c180
 by_cases c181 : t493 = 0
 {
 rw [if_pos c181] at H
 have c181b0 : (t493 == 0) = true := beq_iff_eq.mpr c181
 have c181b1 : (t493 != 0) = false := bne_eq_false_iff_eq.mpr c181
 clear c181
 replace H := Option.bind_eq_some_iff.mp H
 obtain ⟨t499, A1820, H⟩ := H
 replace H : (if t499 = true then ((spec_HasPair.f kj142 t495 (mn t408 ji133) (mx t408 ji133)).bind fun t500 => (some t500)) else (some false)) = some r := H
 have A182 := ak A1820
 clear A1820
 by_cases c183 : t499 = true
 {
 subst c183
 have H1 : ((spec_HasPair.f kj142 t495 (mn t408 ji133) (mx t408 ji133)).bind fun t500 => (some t500)) = some r := by rw [if_pos rfl] at H; exact H
 clear H
 have H := H1
 clear H1
 obtain ⟨ji184, hji184⟩ : ∃ j_ : Int, (mn t408 ji133) = j_ := ⟨_, rfl⟩
 replace H : ((spec_HasPair.f kj142 t495 (ji184) (mx t408 ji133)).bind fun t500 => (some t500)) = some r := by first | (rw [hji184] at H; exact H) | (simp only [hji184] at H ⊢; exact H)
 (try rw [hji184] at A178)
 (try rw [hji184] at A179)
 (try rw [hji184] at A182)
 have hji184_ : (if ji133 < t408 then ji133 else t408) = ji184 := hji184
 obtain ⟨ji185, hji185⟩ : ∃ j_ : Int, (mx t408 ji133) = j_ := ⟨_, rfl⟩
 replace H : ((spec_HasPair.f kj142 t495 (ji184) (ji185)).bind fun t500 => (some t500)) = some r := by first | (rw [hji185] at H; exact H) | (simp only [hji185] at H ⊢; exact H)
 (try rw [hji185] at A178)
 (try rw [hji185] at A179)
 (try rw [hji185] at A182)
 have hji185_ : (if t408 < ji133 then ji133 else t408) = ji185 := hji185
 replace H := Option.bind_eq_some_iff.mp H
 obtain ⟨t500, A1860, H⟩ := H
 replace H : (some t500) = some r := H
 have A186 := ak A1860
 clear A1860
 (
 obtain rfl := Option.some.inj H
 try go_wp2
 have n0_ := ak (Kd.R_drew HO_6.out)
 have n1_ := ak (Kd.R_drew HO_38.out)
 have n2_ := ak (Kd.R_drew HO_385001.out)
 have n3_ := ak (blk_drew BK384.out)
 have n4_ := ak (Kd.C_drew HR448.out)
 have n5_ := ak (Kd.C_drew HR455.out)
 have n6_ := ak (below_drew1 HB.out)
 clear HO_6 HO_38 HO_385001 BK384 HR448 HR455 HB
 have HO_6 := n0_
 have HO_38 := n1_
 have HO_385001 := n2_
 have BK384 := n3_
 have HR448 := n4_
 have HR455 := n5_
 have HB := n6_
 clear n0_ n1_ n2_ n3_ n4_ n5_ n6_
 obtain ⟨Ao188, co188, eo188⟩ := Kd.R_slice HO_38.out
 (first | subst eo188 | (injection eo188 with f1_ f2_ f3_; have f4_ := f1_.symm; have f5_ := f3_.symm; clear f1_ f2_ f3_; subst f4_; subst f5_))
 have p489 : 0 ≤ ((ji175) : Int) := of_decide_eq_true (by first | (with_reducible assumption) | assumption)
 have q489 : (ji175) < (t483.length : Int) := of_decide_eq_true (by first | (with_reducible assumption) | assumption)
 obtain ⟨ad489, e489, hx489_0, hx489_1⟩ := at_T40 (Kd.R_reads' HO_38.out).2.2 (ji175) p489 q489
 cases e489
 replace p489 := eq_true p489
 replace q489 := eq_true q489
 refine start_ (n := 14) (S := fun w' => w'.cell? ⟨gb384, 0, none⟩ = some (.int .i16 t380) ∧ w'.cell? ⟨gb384, 1, none⟩ = some (.slice Ao18 t381.length co18) ∧ w'.cell? (ad489.add (((ji175)).toNat * 2)) = some (.int .i64 ((rd_T40 t483 (ji175)).f0)) ∧ w'.cell? ⟨(ad489.add (((ji175)).toNat * 2)).block, (ad489.add (((ji175)).toNat * 2)).off + 1, none⟩ = some (.int .i64 ((rd_T40 t483 (ji175)).f1))) (ds := []) (bA 14 0) (by kernel_rfl) rfl rfl ⟨(blk_cell BK384.out 0).trans rfl, (blk_cell BK384.out 1).trans rfl, hx489_0, hx489_1⟩ (fun hHeld => ?_); refine with_tabW laws_FnSaid.tab44 laws_FnSaid.bits44 (fun HT_ HW_ => ?_)
 generalize wc.drew = w187 at HO_6 HO_38 HO_385001 BK384 HR448 HR455 HB hx489_0 hx489_1 hHeld ⊢
 refine pure_ (i := 1) (N := some 358) (v := ?_) (a' := ?_) (bA 14 2) rfl rfl (any_of HT_.out (by kernel_rfl)) (fun _ _ _ h => h) (Or.inl ⟨by rfl, ?_⟩) ?_ ?_
 rotate_left
 {
 intro w'
 go_simp
 with_reducible rfl
 }
 rotate_left
 · exact pt_
 refine pure_ (i := 2) (N := some 359) (v := ?_) (a' := ?_) (bA 14 6) rfl rfl (any_of HT_.out (by kernel_rfl)) (fun _ _ _ h => h) (Or.inl ⟨by rfl, ?_⟩) ?_ ?_
 rotate_left
 {
 intro w'
 go_simp
 with_reducible rfl
 }
 rotate_left
 · exact pt_
 refine pure_ (i := 3) (N := some 360) (v := ?_) (a' := ?_) (bA 14 14) rfl rfl (any_of HT_.out (by kernel_rfl)) (fun _ _ _ h => h) (Or.inl ⟨by rfl, ?_⟩) ?_ ?_
 rotate_left
 {
 intro w'
 go_simp
 with_reducible rfl
 }
 rotate_left
 · exact pt_
 refine pure_ (i := 4) (N := some 361) (v := ?_) (a' := ?_) (bA 14 30) rfl rfl (any_of HT_.out (by kernel_rfl)) (fun _ _ _ h => h) (Or.inl ⟨by rfl, ?_⟩) ?_ ?_
 rotate_left
 {
 intro w'
 go_simp
 with_reducible rfl
 }
 rotate_left
 · exact pt_
 refine pure_ (i := 5) (N := some 362) (v := ?_) (a' := ?_) (bA 14 62) rfl rfl (any_of HT_.out (by kernel_rfl)) (fun _ _ _ h => h) (Or.inl ⟨by rfl, ?_⟩) ?_ ?_
 rotate_left
 {
 intro w'
 go_simp
 with_reducible rfl
 }
 rotate_left
 · exact pt_
 refine pure_ (i := 6) (N := some 363) (v := ?_) (a' := ?_) (bA 14 126) rfl rfl (any_of HT_.out (by kernel_rfl)) (fun _ _ _ h => h) (Or.inl ⟨by rfl, ?_⟩) ?_ ?_
 rotate_left
 {
 intro w'
 go_simp
 with_reducible rfl
 }
 rotate_left
 · exact pt_
 refine take_ (i := 0) (N := some 357) (v := ?_) (a' := ?_) (bA 14 127) rfl rfl (take_ofW HT_.out HW_.out (by kernel_rfl)) (fun _ _ _ h => h) (Or.inl ⟨by rfl, ?_⟩) hHeld ?_ ?_
 rotate_left
 {
 rintro w' ⟨s0, s1, s2, s3⟩
 go_simp
 with_reducible rfl
 }
 rotate_left
 · exact pt_
 refine take_ (i := 7) (N := some 364) (v := ?_) (a' := ?_) (bA 14 255) rfl rfl (take_ofW HT_.out HW_.out (by kernel_rfl)) (fun _ _ _ h => h) (Or.inl ⟨by rfl, ?_⟩) hHeld ?_ ?_
 rotate_left
 {
 rintro w' ⟨s0, s1, s2, s3⟩
 go_simp
 with_reducible rfl
 }
 rotate_left
 · exact pt_
 refine one_ (i := 8) (N := some 365) (bA 14 511) rfl rfl (one_of HT_.out (by kernel_rfl)) (by decide) (fun K hK => ?_)
 refine goes_ Try.func17 (by kernel_rfl) rfl #[.agg #[.int .i16 t380, .slice Ao18 t381.length co18], .slice (some ad479) t385.length co21, .agg #[.int .i64 ((rd_T40 t483 (ji175)).f0), .int .i64 ((rd_T40 t483 (ji175)).f1)]] (by rfl) rfl rfl (by (try simp only [List.map_toArray, List.map_cons, List.map_nil]); first | done | (simp only [hji175]; rfl) | rfl | (simp only [List.length_drop, List.length_take]; rfl)) ?_
 with_reducible refine (impl_SwappedBy.calls kj142 t380 _ _ t381 _ _ t385 ((rd_T40 t483 (ji175)).f0) ((rd_T40 t483 (ji175)).f1) t490 t493 _ ?side1 ?side2 ?side3 ?side4 A178.out).mono ?_
 (case side1 => exact zC (Kd.R_reads' HO_385001.out).2.2)
 (case side2 => exact (Kd.R_reads' HO_385001.out).2.1)
 (case side3 => exact zC (Kd.R_reads' HO_6.out).2.2)
 (case side4 => exact (Kd.R_reads' HO_6.out).2.1)
 rintro e w189 ⟨v491, rfl, ho0, hb⟩
 have HS2_ := (hb.cell (World.block_lt_of_cell? _ _ (hHeld.2.2.1))).trans (hHeld.2.2.1)
 have HS3_ := (hb.cell (World.block_lt_of_cell? _ _ (hHeld.2.2.2))).trans (hHeld.2.2.2)
 refine ⟨_, rfl, ?_⟩
 have n0_ := ak (Kd.R_below (zR HO_6.out) hb)
 have n1_ := ak (Kd.R_below (zR HO_38.out) hb)
 have n2_ := ak (Kd.R_below (zR HO_385001.out) hb)
 have n3_ := ak (Kd.R_lower ho0 (below_size (zBG HB.out GE384.out)))
 have n4_ := ak (blk_below (g := gb384) (o := .cells #[.int .i16 t380, .slice Ao18 t381.length co18] 27 (0, 0)) (zK BK384.out) hb)
 have n5_ := ak (Kd.C_below (zC HR448.out) hb)
 have n6_ := ak (Kd.C_below (zC HR455.out) hb)
 have n7_ := ak (below_step (zBG HB.out GE384.out) hb)
 clear HO_6 HO_38 HO_385001 BK384 HR448 HR455 HB
 have HO_6 := n0_
 have HO_38 := n1_
 have HO_385001 := n2_
 have HO492 := n3_
 have BK384 := n4_
 have HR448 := n5_
 have HR455 := n6_
 have HB := n7_
 clear n0_ n1_ n2_ n3_ n4_ n5_ n6_ n7_
 (try clear hb)
 (try clear hb2)
 (try clear hk)
 (try clear hi)
 (try clear ho0)
 refine hK.out _ _ ⟨(blk_cell BK384.out 0).trans rfl, (blk_cell BK384.out 1).trans rfl, HS2_, HS3_⟩ (fun hHeld => ?_)
 clear hK K
 refine norm_ (a' := ?_) ?_ ?_
 rotate_left
 {
 show Act.put _ (some 365) _ = _
 simp only [Act.put, zs, zz, zk, i64_w, i32_w]
 rfl
 }
 refine pure_ (i := 9) (N := some 356) (v := ?_) (a' := ?_) (bA 14 1023) rfl rfl (any_of HT_.out (by kernel_rfl)) (fun _ _ _ h => h) (Or.inl ⟨by rfl, ?_⟩) ?_ ?_
 rotate_left
 {
 intro w'
 go_simp
 with_reducible rfl
 }
 rotate_left
 · exact pt_
 refine pure_ (i := 10) (N := some 366) (v := ?_) (a' := ?_) (bA 14 2047) rfl rfl (any_of HT_.out (by kernel_rfl)) (fun _ _ _ h => h) (Or.inl ⟨by rfl, ?_⟩) ?_ ?_
 rotate_left
 {
 intro w'
 go_simp
 with_reducible rfl
 }
 rotate_left
 · exact pt_
 refine pure_ (i := 11) (N := some 367) (v := ?_) (a' := ?_) (bA 14 4095) rfl rfl (any_of HT_.out (by kernel_rfl)) (fun _ _ _ h => h) (Or.inl ⟨by rfl, ?_⟩) ?_ ?_
 rotate_left
 {
 intro w'
 go_simp
 with_reducible rfl
 }
 rotate_left
 · exact pt_
 refine pure_ (i := 12) (N := some 40) (v := ?_) (a' := ?_) (bA 14 8191) rfl rfl (any_of HT_.out (by kernel_rfl)) (fun _ _ _ h => h) (Or.inl ⟨by rfl, ?_⟩) ?_ ?_
 rotate_left
 {
 intro w'
 go_simp
 with_reducible rfl
 }
 rotate_left
 · exact pt_
 refine pure_ (i := 13) (N := some 41) (v := ?_) (a' := ?_) (bA 14 16383) rfl rfl (any_of HT_.out (by kernel_rfl)) (fun _ _ _ h => h) (Or.inl ⟨by rfl, ?_⟩) ?_ ?_
 rotate_left
 {
 intro w'
 go_simp
 with_reducible rfl
 }
 rotate_left
 · exact pt_
 refine done_ (done_of HT_.out (by kernel_rfl)) ?_
 try go_wp2
 have n0_ := ak (Kd.R_drew HO_6.out)
 have n1_ := ak (Kd.R_drew HO_38.out)
 have n2_ := ak (Kd.R_drew HO_385001.out)
 have n3_ := ak (Kd.R_drew HO492.out)
 have n4_ := ak (blk_drew BK384.out)
 have n5_ := ak (Kd.C_drew HR448.out)
 have n6_ := ak (Kd.C_drew HR455.out)
 have n7_ := ak (below_drew1 HB.out)
 clear HO_6 HO_38 HO_385001 HO492 BK384 HR448 HR455 HB
 have HO_6 := n0_
 have HO_38 := n1_
 have HO_385001 := n2_
 have HO492 := n3_
 have BK384 := n4_
 have HR448 := n5_
 have HR455 := n6_
 have HB := n7_
 clear n0_ n1_ n2_ n3_ n4_ n5_ n6_ n7_
 have p494 : 0 ≤ ((ji175) : Int) := of_decide_eq_true (by first | (with_reducible assumption) | assumption)
 have q494 : (ji175) < (t483.length : Int) := of_decide_eq_true (by first | (with_reducible assumption) | assumption)
 obtain ⟨ad494, e494, hx494_0, hx494_1⟩ := at_T40 (Kd.R_reads' HO_38.out).2.2 (ji175) p494 q494
 obtain rfl : ad489 = ad494 := (by injection e494)
 replace p494 := eq_true p494
 replace q494 := eq_true q494
 refine start_ (n := 14) (S := fun w' => w'.cell? ⟨gb384, 0, none⟩ = some (.int .i16 t380) ∧ w'.cell? ⟨gb384, 1, none⟩ = some (.slice Ao18 t381.length co18) ∧ w'.cell? (ad489.add (((ji175)).toNat * 2)) = some (.int .i64 ((rd_T40 t483 (ji175)).f0)) ∧ w'.cell? ⟨(ad489.add (((ji175)).toNat * 2)).block, (ad489.add (((ji175)).toNat * 2)).off + 1, none⟩ = some (.int .i64 ((rd_T40 t483 (ji175)).f1))) (ds := []) (bA 14 0) (by kernel_rfl) rfl rfl ⟨(blk_cell BK384.out 0).trans rfl, (blk_cell BK384.out 1).trans rfl, hx494_0, hx494_1⟩ (fun hHeld => ?_); refine with_tabW laws_FnSaid.tab45 laws_FnSaid.bits45 (fun HT_ HW_ => ?_)
 generalize w189.drew = w190 at HO_6 HO_38 HO_385001 HO492 BK384 HR448 HR455 HB hx494_0 hx494_1 hHeld ⊢
 refine pure_ (i := 1) (N := some 370) (v := ?_) (a' := ?_) (bA 14 2) rfl rfl (any_of HT_.out (by kernel_rfl)) (fun _ _ _ h => h) (Or.inl ⟨by rfl, ?_⟩) ?_ ?_
 rotate_left
 {
 intro w'
 go_simp
 with_reducible rfl
 }
 rotate_left
 · exact pt_
 refine pure_ (i := 2) (N := some 371) (v := ?_) (a' := ?_) (bA 14 6) rfl rfl (any_of HT_.out (by kernel_rfl)) (fun _ _ _ h => h) (Or.inl ⟨by rfl, ?_⟩) ?_ ?_
 rotate_left
 {
 intro w'
 go_simp
 with_reducible rfl
 }
 rotate_left
 · exact pt_
 refine pure_ (i := 3) (N := some 372) (v := ?_) (a' := ?_) (bA 14 14) rfl rfl (any_of HT_.out (by kernel_rfl)) (fun _ _ _ h => h) (Or.inl ⟨by rfl, ?_⟩) ?_ ?_
 rotate_left
 {
 intro w'
 go_simp
 with_reducible rfl
 }
 rotate_left
 · exact pt_
 refine pure_ (i := 4) (N := some 373) (v := ?_) (a' := ?_) (bA 14 30) rfl rfl (any_of HT_.out (by kernel_rfl)) (fun _ _ _ h => h) (Or.inl ⟨by rfl, ?_⟩) ?_ ?_
 rotate_left
 {
 intro w'
 go_simp
 with_reducible rfl
 }
 rotate_left
 · exact pt_
 refine pure_ (i := 5) (N := some 374) (v := ?_) (a' := ?_) (bA 14 62) rfl rfl (any_of HT_.out (by kernel_rfl)) (fun _ _ _ h => h) (Or.inl ⟨by rfl, ?_⟩) ?_ ?_
 rotate_left
 {
 intro w'
 go_simp
 with_reducible rfl
 }
 rotate_left
 · exact pt_
 refine pure_ (i := 6) (N := some 375) (v := ?_) (a' := ?_) (bA 14 126) rfl rfl (any_of HT_.out (by kernel_rfl)) (fun _ _ _ h => h) (Or.inl ⟨by rfl, ?_⟩) ?_ ?_
 rotate_left
 {
 intro w'
 go_simp
 with_reducible rfl
 }
 rotate_left
 · exact pt_
 refine take_ (i := 0) (N := some 369) (v := ?_) (a' := ?_) (bA 14 127) rfl rfl (take_ofW HT_.out HW_.out (by kernel_rfl)) (fun _ _ _ h => h) (Or.inl ⟨by rfl, ?_⟩) hHeld ?_ ?_
 rotate_left
 {
 rintro w' ⟨s0, s1, s2, s3⟩
 go_simp
 with_reducible rfl
 }
 rotate_left
 · exact pt_
 refine take_ (i := 7) (N := some 376) (v := ?_) (a' := ?_) (bA 14 255) rfl rfl (take_ofW HT_.out HW_.out (by kernel_rfl)) (fun _ _ _ h => h) (Or.inl ⟨by rfl, ?_⟩) hHeld ?_ ?_
 rotate_left
 {
 rintro w' ⟨s0, s1, s2, s3⟩
 go_simp
 with_reducible rfl
 }
 rotate_left
 · exact pt_
 refine one_ (i := 8) (N := some 377) (bA 14 511) rfl rfl (one_of HT_.out (by kernel_rfl)) (by decide) (fun K hK => ?_)
 refine goes_ Try.func18 (by kernel_rfl) rfl #[.agg #[.int .i16 t380, .slice Ao18 t381.length co18], .slice (some ad479) t385.length co21, .agg #[.int .i64 ((rd_T40 t483 (ji175)).f0), .int .i64 ((rd_T40 t483 (ji175)).f1)]] (by rfl) rfl rfl (by (try simp only [List.map_toArray, List.map_cons, List.map_nil]); first | done | (simp only [hji175]; rfl) | rfl | (simp only [List.length_drop, List.length_take]; rfl)) ?_
 with_reducible refine (spec_SwappedBy.calls kj142 t380 _ _ t381 _ _ t385 ((rd_T40 t483 (ji175)).f0) ((rd_T40 t483 (ji175)).f1) t495 t498 _ ?side1 ?side2 ?side3 ?side4 A179.out).mono ?_
 (case side1 => exact zC (Kd.R_reads' HO_385001.out).2.2)
 (case side2 => exact (Kd.R_reads' HO_385001.out).2.1)
 (case side3 => exact zC (Kd.R_reads' HO_6.out).2.2)
 (case side4 => exact (Kd.R_reads' HO_6.out).2.1)
 rintro e w191 ⟨v496, rfl, ho0, hb⟩
 have HS2_ := (hb.cell (World.block_lt_of_cell? _ _ (hHeld.2.2.1))).trans (hHeld.2.2.1)
 have HS3_ := (hb.cell (World.block_lt_of_cell? _ _ (hHeld.2.2.2))).trans (hHeld.2.2.2)
 refine ⟨_, rfl, ?_⟩
 have n0_ := ak (Kd.R_below (zR HO_6.out) hb)
 have n1_ := ak (Kd.R_below (zR HO_38.out) hb)
 have n2_ := ak (Kd.R_below (zR HO_385001.out) hb)
 have n3_ := ak (Kd.R_elder' (zR HO492.out) (Kd.R_base ho0) hb)
 have n4_ := ak (Kd.R_lower (Kd.R_new' ho0 (Kd.R_lt (zR HO492.out))) (below_size (zBG HB.out GE384.out)))
 have n5_ := ak (blk_below (g := gb384) (o := .cells #[.int .i16 t380, .slice Ao18 t381.length co18] 27 (0, 0)) (zK BK384.out) hb)
 have n6_ := ak (Kd.C_below (zC HR448.out) hb)
 have n7_ := ak (Kd.C_below (zC HR455.out) hb)
 have n8_ := ak (below_step (zBG HB.out GE384.out) hb)
 clear HO_6 HO_38 HO_385001 HO492 BK384 HR448 HR455 HB
 have HO_6 := n0_
 have HO_38 := n1_
 have HO_385001 := n2_
 have HO492 := n3_
 have HO497 := n4_
 have BK384 := n5_
 have HR448 := n6_
 have HR455 := n7_
 have HB := n8_
 clear n0_ n1_ n2_ n3_ n4_ n5_ n6_ n7_ n8_
 (try clear hb)
 (try clear hb2)
 (try clear hk)
 (try clear hi)
 (try clear ho0)
 refine hK.out _ _ ⟨(blk_cell BK384.out 0).trans rfl, (blk_cell BK384.out 1).trans rfl, HS2_, HS3_⟩ (fun hHeld => ?_)
 clear hK K
 refine norm_ (a' := ?_) ?_ ?_
 rotate_left
 {
 show Act.put _ (some 377) _ = _
 simp only [Act.put, zs, zz, zk, i64_w, i32_w]
 rfl
 }
 refine pure_ (i := 9) (N := some 368) (v := ?_) (a' := ?_) (bA 14 1023) rfl rfl (any_of HT_.out (by kernel_rfl)) (fun _ _ _ h => h) (Or.inl ⟨by rfl, ?_⟩) ?_ ?_
 rotate_left
 {
 intro w'
 go_simp
 with_reducible rfl
 }
 rotate_left
 · exact pt_
 refine pure_ (i := 10) (N := some 378) (v := ?_) (a' := ?_) (bA 14 2047) rfl rfl (any_of HT_.out (by kernel_rfl)) (fun _ _ _ h => h) (Or.inl ⟨by rfl, ?_⟩) ?_ ?_
 rotate_left
 {
 intro w'
 go_simp
 with_reducible rfl
 }
 rotate_left
 · exact pt_
 refine pure_ (i := 11) (N := some 379) (v := ?_) (a' := ?_) (bA 14 4095) rfl rfl (any_of HT_.out (by kernel_rfl)) (fun _ _ _ h => h) (Or.inl ⟨by rfl, ?_⟩) ?_ ?_
 rotate_left
 {
 intro w'
 go_simp
 with_reducible rfl
 }
 rotate_left
 · exact pt_
 refine pure_ (i := 12) (N := some 42) (v := ?_) (a' := ?_) (bA 14 8191) rfl rfl (any_of HT_.out (by kernel_rfl)) (fun _ _ _ h => h) (Or.inl ⟨by rfl, ?_⟩) ?_ ?_
 rotate_left
 {
 intro w'
 go_simp
 with_reducible rfl
 }
 rotate_left
 · exact pt_
 refine pure_ (i := 13) (N := some 43) (v := ?_) (a' := ?_) (bA 14 16383) rfl rfl (any_of HT_.out (by kernel_rfl)) (fun _ _ _ h => h) (Or.inl ⟨by rfl, ?_⟩) ?_ ?_
 rotate_left
 {
 intro w'
 go_simp
 with_reducible rfl
 }
 rotate_left
 · exact pt_
 refine done_ (done_of HT_.out (by kernel_rfl)) ?_
 obtain ⟨Ao192, co192, eo192⟩ := Kd.R_slice HO492.out
 subst eo192
 obtain ⟨Ao193, co193, eo193⟩ := Kd.R_slice HO497.out
 subst eo193
 go_step
 go_step
 refine said_end_ c180b0 c180b1 c181b0 c181b1 hji184 hji184_ hji185 hji185_ A182 A186 HO_6 HO_38 HO_385001 HO492 HO497 BK384 HR448 HR455 HB GE384 ?hC ?hL ?e19 ?e36 ?e40 ?e41 ?e42 ?e43 ?hQ
 case hC => kernel_rfl
 case hL => kernel_rfl
 case e19 => rfl
 case e36 => rfl
 case e40 => rfl
 case e41 => rfl
 case e42 => rfl
 case e43 => rfl
 case hQ => rfl
 )
 }
 {
 replace c183 := Bool.eq_false_iff.mpr c183
 subst c183
 have H1 : (some false) = some r := by rw [if_neg (show ¬ (false = true) by decide)] at H; exact H
 clear H
 have H := H1
 clear H1
 (
 exact absurd ((Option.some.inj H).trans HT.out) (by decide)
 )
 }
 }
 {
 rw [if_neg c181] at H
 have c181b0 : (t493 == 0) = false := beq_eq_false_iff_ne.mpr c181
 have c181b1 : (t493 != 0) = true := bne_iff_ne.mpr c181
 (
 exact absurd ((Option.some.inj H).trans HT.out) (by decide)
 )
 }
 }
 {
 rw [if_neg c180] at H
 have c180b0 : (t493 == t498) = false := beq_eq_false_iff_ne.mpr c180
 have c180b1 : (t493 != t498) = true := bne_iff_ne.mpr c180
 (
 exact absurd ((Option.some.inj H).trans HT.out) (by decide)
 )
 }
 }
 · rw [if_neg c177] at H; exact absurd H (by simp)
 }
 · rw [if_neg c176] at H; exact absurd H (by simp)
 }
 )
 )
 }
 · rw [if_neg c140] at H; exact absurd H (by simp)
 }
 · rw [if_neg c139] at H; exact absurd H (by simp)
 }
 · rw [if_neg c137] at H; exact absurd H (by simp)
 }
 · rw [if_neg c136] at H; exact absurd H (by simp)
 }
 · rw [if_neg c135] at H; exact absurd H (by simp)
 }
 · rw [if_neg c134] at H; exact absurd H (by simp)
 }
 · rw [if_neg c132] at H; exact absurd H (by simp)
 }
 }
 · rw [if_neg c128] at H; exact absurd H (by simp)
 }
 · rw [if_neg c127] at H; exact absurd H (by simp)
 }
 )
 )
 }
 · rw [if_neg c110] at H; exact absurd H (by simp)
 }
 · rw [if_neg c109] at H; exact absurd H (by simp)
 }
 · rw [if_neg c108] at H; exact absurd H (by simp)
 }
 · rw [if_neg c106] at H; exact absurd H (by simp)
 }
 · rw [if_neg c105] at H; exact absurd H (by simp)
 }
 · rw [if_neg c104] at H; exact absurd H (by simp)
 }
 }
 )
 )
 }
 · rw [if_neg c66] at H; exact absurd H (by simp)
 }
 · rw [if_neg c65] at H; exact absurd H (by simp)
 }
 · rw [if_neg c63] at H; exact absurd H (by simp)
 }
 · rw [if_neg c57] at H; exact absurd H (by simp)
 }
 · rw [if_neg c56] at H; exact absurd H (by simp)
 }
 · rw [if_neg c55] at H; exact absurd H (by simp)
 }
 }
 )
 )
 }
 )
 )
 }
 )
 )
/-- THE ONE PURE STATEMENT of laws_FnSaid: yours. -/
def laws_FnSaid.Pure : Prop := ∀ (l0 : List Int) (l1 : List Int), l0.length ≤ maxLen → l0.length * 1 ≤ 140737488351232 → (∀ x ∈ l0, (Lit.int .u8 x).wf = true) → l1.length ≤ maxLen → l1.length * 1 ≤ 140737488351232 → (∀ x ∈ l1, (Lit.int .u8 x).wf = true) → ∃ k, laws_FnSaid.f k l0 l1 = some true
theorem laws_FnSaid.walk (P : laws_FnSaid.Pure) (a0 : Option Addr) (len0 cap0 : Nat) (z0 : List Int) (a1 : Option Addr) (len1 cap1 : Nat) (z1 : List Int) (w : World) (w0 : (a0 = none ∧ len0 = 0 ∧ cap0 = 0 ∧ z0 = []) ∨ ∃ x, a0 = some x ∧ len0 ≤ cap0 ∧ cap0 ≤ maxLen ∧ z0.length = cap0 ∧ (∀ i, i < z0.length → w.cell? (x.add i) = some (.int .u8 (z0.getD i 0))) ∧ ∀ n ∈ z0, (Lit.int .u8 n).wf = true) (y0 : len0 * 1 ≤ 140737488351232) (w1 : (a1 = none ∧ len1 = 0 ∧ cap1 = 0 ∧ z1 = []) ∨ ∃ x, a1 = some x ∧ len1 ≤ cap1 ∧ cap1 ≤ maxLen ∧ z1.length = cap1 ∧ (∀ i, i < z1.length → w.cell? (x.add i) = some (.int .u8 (z1.getD i 0))) ∧ ∀ n ∈ z1, (Lit.int .u8 n).wf = true) (y1 : len1 * 1 ≤ 140737488351232) :
    Calls Try.prog 3 #[.slice a0 len0 cap0, .slice a1 len1 cap1] w fun e w' => e = .returned (.bool true) ∧ Below w.heap.size w w' := by
  obtain ⟨l0, rfl, hr0, hm0, hw0, hc0⟩ := ReadsInt.ofRowC w0
  obtain ⟨l1, rfl, hr1, hm1, hw1, hc1⟩ := ReadsInt.ofRowC w1
  obtain ⟨k, h⟩ := P l0 l1 hm0 y0 hw0 hm1 y1 hw1
  refine (laws_FnSaid.calls k _ _ l0 _ _ l1 true w (Kd.C_of_reads (d := (0 : Int)) (h1 := fun _ => rfl) hr0) hc0 (Kd.C_of_reads (d := (0 : Int)) (h1 := fun _ => rfl) hr1) hc1 rfl h).mono ?_
  rintro e w' ⟨rfl, hd⟩
  exact ⟨rfl, hd⟩

end Go.Proofs.Ytcgbnbblojkglaa.P
