-- Printed by wip/print (my turned copy of the kit's print) out of the translation; Lean checks it.
import Derived.Test.YtchnklikeimpiaaDoorP0
import Derived.Test.YtchnklikeimpiaaDoorP9
import Derived.Test.YtchnklikeimpiaaDoorP12
import Derived.Test.YtchnklikeimpiaaDoorP13
namespace Go.Proofs.YtchnklikeimpiaaDoor.P
open Go.RowKit Go.Proofs.YtchnklikeimpiaaDoorW.PrintWords Go.Proofs.YtchnklikeimpiaaDoorW.PrintLast Go.Proofs.YtchnklikeimpiaaDoorW.PrintMore
attribute [local go_sem] max2_int min2_int max_two min_two max_three min_three max_four min_four   -- for this text's walks alone
set_option linter.unusedVariables false
set_option linter.unusedSimpArgs false

/-! ### laws_FnExactReadLog: function 5 -/
mutual
def laws_FnExactReadLog.j0 : Nat → ByteArray → Int → Bool → Int → List Int → List Int → Int → List Int → List Int → Int → Option (Bool)
  | 0, _, _, _, _, _, _, _, _, _, _ => none
  | k + 1, x0, x4, x32, x402000, x402001, x402002, x411000, x411001, x411002, x978000 => if x32 = true then (some false) else ((laws_markLog.f k x411000 x411001 x411002 1).bind fun bt412 => ((laws_heldLog.f k x411000 bt412.2.1 bt412.2.2 1).bind fun t415 => (if t415 < 0 then (some false) else (if t415 = bt412.1 then ((impl_ReadLog.f k x0 x978000).bind fun bt416 => ((laws_eqLog.f k bt416.1 bt416.2.1 bt416.2.2.1 x402000 x402001 x402002).bind fun t425 => (if t425 = true then (laws_FnExactReadLog.j1 k bt412.1 (bt416.2.2.2 != x4) x411000 bt412.2.1 bt412.2.2) else (laws_FnExactReadLog.j1 k bt412.1 true x411000 bt412.2.1 bt412.2.2)))) else (some false)))))
def laws_FnExactReadLog.j1 : Nat → Int → Bool → Int → List Int → List Int → Option (Bool)
  | 0, _, _, _, _, _ => none
  | k + 1, x7, x57, x411000, x411001, x411002 => if x57 = true then (some false) else ((laws_heldLog.f k x411000 x411001 x411002 1).bind fun t426 => (if t426 < 0 then (some false) else (if t426 = x7 then (some true) else (some false))))
end
def laws_FnExactReadLog.f (k : Nat) (a0 : ByteArray) (a977_0 : Int)  : Option (Bool) := if (a0.size : Int) > 1048576 then (some true) else ((spec_ReadLog.f k a0).bind fun bt393 => ((impl_ReadLog.f k a0 a977_0).bind fun bt402 => ((laws_eqLog.f k bt402.1 bt402.2.1 bt402.2.2.1 bt393.1 bt393.2.1 bt393.2.2.1).bind fun t411 => (if t411 = true then (laws_FnExactReadLog.j0 k a0 bt393.2.2.2 (bt402.2.2.2 != bt393.2.2.2) bt393.1 bt393.2.1 bt393.2.2.1 bt402.1 bt402.2.1 bt402.2.2.1 a977_0) else (laws_FnExactReadLog.j0 k a0 bt393.2.2.2 true bt393.1 bt393.2.1 bt393.2.2.1 bt402.1 bt402.2.1 bt402.2.2.1 a977_0)))))
theorem laws_FnExactReadLog.mono_l : ∀ k, (∀ y0 y1 y2 y3 y4 y5 y6 y7 y8 y9, LeO (laws_FnExactReadLog.j0 k y0 y1 y2 y3 y4 y5 y6 y7 y8 y9) (laws_FnExactReadLog.j0 (k + 1) y0 y1 y2 y3 y4 y5 y6 y7 y8 y9)) ∧ (∀ y0 y1 y2 y3 y4, LeO (laws_FnExactReadLog.j1 k y0 y1 y2 y3 y4) (laws_FnExactReadLog.j1 (k + 1) y0 y1 y2 y3 y4))
  | 0 => ⟨fun _ _ _ _ _ _ _ _ _ _ r h => by simp [laws_FnExactReadLog.j0] at h, fun _ _ _ _ _ r h => by simp [laws_FnExactReadLog.j1] at h⟩
  | k + 1 => by
    obtain ⟨ih0, ih1⟩ := laws_FnExactReadLog.mono_l k
    refine ⟨?_, ?_⟩
    · intro y0 y1 y2 y3 y4 y5 y6 y7 y8 y9
      unfold laws_FnExactReadLog.j0
      repeat' first
      | (with_reducible exact ih0 _ _ _ _ _ _ _ _ _ _)
      | (with_reducible exact ih1 _ _ _ _ _)
      | (with_reducible exact impl_ReadLog.mono _ _ _)
      | (with_reducible exact laws_eqLog.mono _ _ _ _ _ _ _)
      | (with_reducible exact laws_heldLog.mono _ _ _ _ _)
      | (with_reducible exact laws_markLog.mono _ _ _ _ _)
      | (with_reducible exact spec_ReadLog.mono _ _)
      | (with_reducible exact LeO.refl _)
      | (with_reducible exact LeO.none _)
      | (with_reducible refine LeO.ite ?_ ?_)
      | (with_reducible refine LeO.bind ?_ (fun _ => ?_))
      | exact ih0 _ _ _ _ _ _ _ _ _ _
      | exact ih1 _ _ _ _ _
      | exact impl_ReadLog.mono _ _ _
      | exact laws_eqLog.mono _ _ _ _ _ _ _
      | exact laws_heldLog.mono _ _ _ _ _
      | exact laws_markLog.mono _ _ _ _ _
      | exact spec_ReadLog.mono _ _
      | exact LeO.none _
      | refine LeO.ite ?_ ?_
      | refine LeO.bind ?_ (fun _ => ?_)
    · intro y0 y1 y2 y3 y4
      unfold laws_FnExactReadLog.j1
      repeat' first
      | (with_reducible exact ih0 _ _ _ _ _ _ _ _ _ _)
      | (with_reducible exact ih1 _ _ _ _ _)
      | (with_reducible exact impl_ReadLog.mono _ _ _)
      | (with_reducible exact laws_eqLog.mono _ _ _ _ _ _ _)
      | (with_reducible exact laws_heldLog.mono _ _ _ _ _)
      | (with_reducible exact laws_markLog.mono _ _ _ _ _)
      | (with_reducible exact spec_ReadLog.mono _ _)
      | (with_reducible exact LeO.refl _)
      | (with_reducible exact LeO.none _)
      | (with_reducible refine LeO.ite ?_ ?_)
      | (with_reducible refine LeO.bind ?_ (fun _ => ?_))
      | exact ih0 _ _ _ _ _ _ _ _ _ _
      | exact ih1 _ _ _ _ _
      | exact impl_ReadLog.mono _ _ _
      | exact laws_eqLog.mono _ _ _ _ _ _ _
      | exact laws_heldLog.mono _ _ _ _ _
      | exact laws_markLog.mono _ _ _ _ _
      | exact spec_ReadLog.mono _ _
      | exact LeO.none _
      | refine LeO.ite ?_ ?_
      | refine LeO.bind ?_ (fun _ => ?_)
theorem laws_FnExactReadLog.mono : ∀ a0 a1 k, LeO (laws_FnExactReadLog.f k a0 a1) (laws_FnExactReadLog.f (k + 1) a0 a1) := by
  intro a0 a1 k
  obtain ⟨ih0, ih1⟩ := laws_FnExactReadLog.mono_l k
  unfold laws_FnExactReadLog.f
  repeat' first
      | (with_reducible exact ih0 _ _ _ _ _ _ _ _ _ _)
      | (with_reducible exact ih1 _ _ _ _ _)
      | (with_reducible exact impl_ReadLog.mono _ _ _)
      | (with_reducible exact laws_eqLog.mono _ _ _ _ _ _ _)
      | (with_reducible exact laws_heldLog.mono _ _ _ _ _)
      | (with_reducible exact laws_markLog.mono _ _ _ _ _)
      | (with_reducible exact spec_ReadLog.mono _ _)
      | (with_reducible exact LeO.refl _)
      | (with_reducible exact LeO.none _)
      | (with_reducible refine LeO.ite ?_ ?_)
      | (with_reducible refine LeO.bind ?_ (fun _ => ?_))
      | exact ih0 _ _ _ _ _ _ _ _ _ _
      | exact ih1 _ _ _ _ _
      | exact impl_ReadLog.mono _ _ _
      | exact laws_eqLog.mono _ _ _ _ _ _ _
      | exact laws_heldLog.mono _ _ _ _ _
      | exact laws_markLog.mono _ _ _ _ _
      | exact spec_ReadLog.mono _ _
      | exact LeO.none _
      | refine LeO.ite ?_ ?_
      | refine LeO.bind ?_ (fun _ => ?_)
set_option maxHeartbeats 8000000 in
set_option maxRecDepth 100000 in
theorem laws_FnExactReadLog.calls (k : Nat) (a0 : ByteArray) (a977_0 : Int)  (r : Bool) (w : World) (hx977 : w.heap[0]? = some (.cells #[.int .i64 a977_0] 3 (0, 0))) (hgt : Go.Proofs.YtchnklikeimpiaaDoor.H.Tab10 w) (hT : r = true) (h : laws_FnExactReadLog.f k a0 a977_0 = some r) :
    Calls Tryd.prog 5 #[.string a0] w fun e w' => e = .returned (.bool r) ∧ Below w.heap.size w w' := by
 have hu39 := Tryd.underlying39
 have HT := ak hT
 clear hT
 have BK977 := ak hx977
 clear hx977
 have HGT := ak hgt
 clear hgt
 have HB := ak (Below.refl w.heap.size w)
 have H : (if (a0.size : Int) > 1048576 then (some true) else ((spec_ReadLog.f k a0).bind fun bt393 => ((impl_ReadLog.f k a0 a977_0).bind fun bt402 => ((laws_eqLog.f k bt402.1 bt402.2.1 bt402.2.2.1 bt393.1 bt393.2.1 bt393.2.2.1).bind fun t411 => (if t411 = true then (laws_FnExactReadLog.j0 k a0 bt393.2.2.2 (bt402.2.2.2 != bt393.2.2.2) bt393.1 bt393.2.1 bt393.2.2.1 bt402.1 bt402.2.1 bt402.2.2.1 a977_0) else (laws_FnExactReadLog.j0 k a0 bt393.2.2.2 true bt393.1 bt393.2.1 bt393.2.2.1 bt402.1 bt402.2.1 bt402.2.2.1 a977_0)))))) = some r := h
 clear h
 by_cases c4 : (a0.size : Int) > 1048576
 {
 rw [if_pos c4] at H
 have c4b0 : decide (1048576 < (a0.size : Int)) = true := decide_eq_true c4
 have c4b1 : decide (1048576 < a0.size) = true := decide_eq_true (by omega)
 clear c4
 obtain rfl := Option.some.inj H
 go_enter Tryd.func5, Tryd.ntmps5
 go_wp2
 go_ret
 exact ⟨by first | rfl | (simp [errW_none, errW_some] <;> rfl) | (simp [*, errW_none, errW_some] <;> rfl), by repeat (first | (with_reducible first | exact HB.out | apply below_alloc | apply pw_below_drewN | apply below_drew1 | refine below_set ?_ GE977.out) | exact HB.out)⟩
 }
 {
 rw [if_neg c4] at H
 have c4b0 : decide (1048576 < (a0.size : Int)) = false := decide_eq_false c4
 have c4b1 : decide (1048576 < a0.size) = false := decide_eq_false (by omega)
 clear c4
 replace H := Option.bind_eq_some_iff.mp H
 obtain ⟨⟨t393, t394, t397, t400⟩, A50, H⟩ := H
 replace H : ((impl_ReadLog.f k a0 a977_0).bind fun bt402 => ((laws_eqLog.f k bt402.1 bt402.2.1 bt402.2.2.1 t393 t394 t397).bind fun t411 => (if t411 = true then (laws_FnExactReadLog.j0 k a0 t400 (bt402.2.2.2 != t400) t393 t394 t397 bt402.1 bt402.2.1 bt402.2.2.1 a977_0) else (laws_FnExactReadLog.j0 k a0 t400 true t393 t394 t397 bt402.1 bt402.2.1 bt402.2.2.1 a977_0)))) = some r := H
 have A5 := ak A50
 clear A50
 replace H := Option.bind_eq_some_iff.mp H
 obtain ⟨⟨t402, t403, t406, t409⟩, A60, H⟩ := H
 replace H : ((laws_eqLog.f k t402 t403 t406 t393 t394 t397).bind fun t411 => (if t411 = true then (laws_FnExactReadLog.j0 k a0 t400 (t409 != t400) t393 t394 t397 t402 t403 t406 a977_0) else (laws_FnExactReadLog.j0 k a0 t400 true t393 t394 t397 t402 t403 t406 a977_0))) = some r := H
 have A6 := ak A60
 clear A60
 have HC7 := ak H
 clear H
 go_enter Tryd.func5, Tryd.ntmps5
 go_upto_region 5 with (first | ((with_reducible refine gate_callee (f := 14) rfl ?_); refine goesL_ (some 16) rfl rfl Tryd.func14 (by kernel_rfl) rfl #[.string a0] rfl (by (try simp only [List.map_toArray, List.map_cons, List.map_nil]); first | done | rfl | (simp only [List.length_drop, List.length_take]; rfl)) ?_; (with_reducible refine (spec_ReadLog.calls k a0 t393 t394 t397 t400 _ A5.out).mono ?_); rintro e w8 ⟨v395, v398, rfl, ho0, ho1, hb⟩; refine ⟨_, rfl, ?_⟩; have n0_ := ak (Kd.R_lower ho0 (below_size (zB HB.out))); have n1_ := ak (Kd.R_lower ho1 (below_size (zB HB.out))); have n2_ := ak (blk_below (g := 0) (o := .cells #[.int .i64 a977_0] 3 (0, 0)) (zK BK977.out) hb); have n3_ := ak (below_step (zB HB.out) hb); clear BK977 HB; have HO396 := n0_; have HO399 := n1_; have BK977 := n2_; have HB := n3_; clear n0_ n1_ n2_ n3_; (try clear hb); (try clear hb2); (try clear hk); (try clear hi); (try clear ho0); (try clear ho1)) | ((with_reducible refine gate_dst (N := 3) rfl ?_); refine box_event ?hg (N := 3) ?hd (cs := #[.int .i64 0, .slice none 0 0, .slice none 0 0]) (t := 39) ?hr ?_; (case hd => rfl); (case hg => rfl); (case hr => first | (go_simp; done) | (go_simp; rfl)); intro gb401 hg w9 hbox hb; have n0_ := ak (Kd.R_below (zR HO396.out) hb); have n1_ := ak (Kd.R_below (zR HO399.out) hb); have n2_ := ak (blk_below (g := 0) (o := .cells #[.int .i64 a977_0] 3 (0, 0)) (zK BK977.out) hb); have n3_ := ak (below_step (zB HB.out) hb); have n4_ := ak (hbox); have n5_ := ak ((by rw [hg]; exact (below_size (zB HB.out)) : w.heap.size ≤ gb401)); have n6_ := ak ((by rw [hg]; exact (below_size (zB HB.out)) : w.heap.size ≤ gb401)); have n7_ := ak ((by rw [hg]; exact Nat.ne_of_lt (blk_lt (g := 0) (o := .cells #[.int .i64 a977_0] 3 (0, 0)) (zK BK977.out)) : 0 ≠ gb401)); have n8_ := ak ((by rw [hg]; exact Nat.ne_of_gt (blk_lt (g := 0) (o := .cells #[.int .i64 a977_0] 3 (0, 0)) (zK BK977.out)) : gb401 ≠ 0)); clear HO396 HO399 BK977 HB; have HO396 := n0_; have HO399 := n1_; have BK977 := n2_; have HB := n3_; have BK401 := n4_; have GW401 := n5_; have GE401 := n6_; have NB977_401 := n7_; have NB401_977 := n8_; clear n0_ n1_ n2_ n3_ n4_ n5_ n6_ n7_ n8_; clear hb hbox hg; have hnb10 := NB401_977.out; have hnc10 := NB977_401.out; have hcz11_0 : w9.cell? ⟨gb401, 0, none⟩ = some (.int .i64 0) := (blk_cell BK401.out 0).trans rfl; have hcz11_1 : w9.cell? ⟨gb401, 1, none⟩ = some (.slice none 0 0) := (blk_cell BK401.out 1).trans rfl; have hcz11_2 : w9.cell? ⟨gb401, 2, none⟩ = some (.slice none 0 0) := (blk_cell BK401.out 2).trans rfl; have hfz11_0 := blk_frozen BK401.out 0; have hfz11_1 := blk_frozen BK401.out 1; have hfz11_2 := blk_frozen BK401.out 2; obtain ⟨Ao12, co12, eo12⟩ := Kd.R_slice HO396.out; subst eo12; obtain ⟨Ao13, co13, eo13⟩ := Kd.R_slice HO399.out; subst eo13) | ((with_reducible refine gate_callee (f := 15) rfl ?_); refine goesL_ (some 21) rfl rfl Tryd.func15 (by kernel_rfl) rfl #[.string a0] rfl (by (try simp only [List.map_toArray, List.map_cons, List.map_nil]); first | done | rfl | (simp only [List.length_drop, List.length_take]; rfl)) ?_; (with_reducible refine (impl_ReadLog.calls k a0 a977_0  t402 t403 t406 t409 _ ?side1 ?side2 A6.out).mono ?_); (case side1 => exact (by first | exact BK977.out | ((with_reducible repeat (first | refine blk_drewN ?_ _ | refine blk_drew ?_ | refine blk_alloc ?_ _)); refine blk_far ?_ NB977_401.out _; (with_reducible repeat (first | refine blk_drewN ?_ _ | refine blk_drew ?_ | refine blk_alloc ?_ _)); refine blk_far ?_ NB977_401.out _; (with_reducible repeat (first | refine blk_drewN ?_ _ | refine blk_drew ?_ | refine blk_alloc ?_ _)); refine blk_far ?_ NB977_401.out _; (with_reducible repeat (first | refine blk_drewN ?_ _ | refine blk_drew ?_ | refine blk_alloc ?_ _)); exact BK977.out))); (case side2 => exact Go.Proofs.YtchnklikeimpiaaDoor.H.tab10_below HGT.out (by repeat (first | (with_reducible first | exact HB.out | apply below_alloc | apply pw_below_drewN | apply below_drew1 | refine below_set ?_ GE977.out | refine below_set ?_ GE401.out) | exact HB.out))); rintro e w14 ⟨v404, v407, rfl, ho0, ho1, hb⟩; refine ⟨_, rfl, ?_⟩; have n0_ := ak (Kd.R_elder' (by (with_reducible repeat (first | apply Kd.R_alloc | apply Kd.R_drewN | apply Kd.R_drew)); exact (Kd.R_mono (Kd.R_far (p := ⟨gb401, 2, none⟩) (Kd.R_far (p := ⟨gb401, 1, none⟩) (Kd.R_far (p := ⟨gb401, 0, none⟩) (Kd.R_types HO396.out BK401.out (by decide)) (fun _ hk => hk.2) (.int .i64 t393)) (fun _ hk => hk.2) (.slice Ao12 t394.length co12)) (fun _ hk => hk.2) (.slice Ao13 t397.length co13)) (fun _ h_ => h_.1))) (Kd.R_base ho0) hb); have n1_ := ak (Kd.R_elder' (by (with_reducible repeat (first | apply Kd.R_alloc | apply Kd.R_drewN | apply Kd.R_drew)); exact (Kd.R_mono (Kd.R_far (p := ⟨gb401, 2, none⟩) (Kd.R_far (p := ⟨gb401, 1, none⟩) (Kd.R_far (p := ⟨gb401, 0, none⟩) (Kd.R_types HO399.out BK401.out (by decide)) (fun _ hk => hk.2) (.int .i64 t393)) (fun _ hk => hk.2) (.slice Ao12 t394.length co12)) (fun _ hk => hk.2) (.slice Ao13 t397.length co13)) (fun _ h_ => h_.1))) (Kd.R_base ho1) hb); have n2_ := ak (Kd.R_lower (Kd.R_new' ho0 (Kd.R_lt (by (with_reducible repeat (first | apply Kd.R_alloc | apply Kd.R_drewN | apply Kd.R_drew)); exact (Kd.R_mono (Kd.R_far (p := ⟨gb401, 2, none⟩) (Kd.R_far (p := ⟨gb401, 1, none⟩) (Kd.R_far (p := ⟨gb401, 0, none⟩) (Kd.R_types HO396.out BK401.out (by decide)) (fun _ hk => hk.2) (.int .i64 t393)) (fun _ hk => hk.2) (.slice Ao12 t394.length co12)) (fun _ hk => hk.2) (.slice Ao13 t397.length co13)) (fun _ h_ => h_.1))))) (below_size (by repeat (first | (with_reducible first | exact HB.out | apply below_alloc | apply pw_below_drewN | apply below_drew1 | refine below_set ?_ GE977.out | refine below_set ?_ GE401.out) | exact HB.out)))); have n3_ := ak (Kd.R_lower (Kd.R_new' ho1 (Kd.R_lt (by (with_reducible repeat (first | apply Kd.R_alloc | apply Kd.R_drewN | apply Kd.R_drew)); exact (Kd.R_mono (Kd.R_far (p := ⟨gb401, 2, none⟩) (Kd.R_far (p := ⟨gb401, 1, none⟩) (Kd.R_far (p := ⟨gb401, 0, none⟩) (Kd.R_types HO399.out BK401.out (by decide)) (fun _ hk => hk.2) (.int .i64 t393)) (fun _ hk => hk.2) (.slice Ao12 t394.length co12)) (fun _ hk => hk.2) (.slice Ao13 t397.length co13)) (fun _ h_ => h_.1))))) (below_size (by repeat (first | (with_reducible first | exact HB.out | apply below_alloc | apply pw_below_drewN | apply below_drew1 | refine below_set ?_ GE977.out | refine below_set ?_ GE401.out) | exact HB.out)))); have n4_ := ak (blk_below (g := 0) (o := .cells #[.int .i64 a977_0] 3 (0, 0)) (by (with_reducible repeat (first | refine blk_drewN ?_ _ | refine blk_drew ?_ | refine blk_alloc ?_ _)); refine blk_far ?_ NB977_401.out _; (with_reducible repeat (first | refine blk_drewN ?_ _ | refine blk_drew ?_ | refine blk_alloc ?_ _)); refine blk_far ?_ NB977_401.out _; (with_reducible repeat (first | refine blk_drewN ?_ _ | refine blk_drew ?_ | refine blk_alloc ?_ _)); refine blk_far ?_ NB977_401.out _; (with_reducible repeat (first | refine blk_drewN ?_ _ | refine blk_drew ?_ | refine blk_alloc ?_ _)); exact BK977.out) hb); have n5_ := ak (blk_below (g := gb401) (o := .cells #[.int .i64 t393, .slice Ao12 t394.length co12, .slice Ao13 t397.length co13] 39 (0, 0)) (by (with_reducible repeat (first | refine blk_drewN ?_ _ | refine blk_drew ?_ | refine blk_alloc ?_ _)); refine blk_put (cs := #[.int .i64 t393, .slice Ao12 t394.length co12, .slice none 0 0]) ?_ 2 _ rfl; (with_reducible repeat (first | refine blk_drewN ?_ _ | refine blk_drew ?_ | refine blk_alloc ?_ _)); refine blk_put (cs := #[.int .i64 t393, .slice none 0 0, .slice none 0 0]) ?_ 1 _ rfl; (with_reducible repeat (first | refine blk_drewN ?_ _ | refine blk_drew ?_ | refine blk_alloc ?_ _)); refine blk_put (cs := #[.int .i64 0, .slice none 0 0, .slice none 0 0]) ?_ 0 _ rfl; (with_reducible repeat (first | refine blk_drewN ?_ _ | refine blk_drew ?_ | refine blk_alloc ?_ _)); exact BK401.out) hb); have n6_ := ak (below_step (by repeat (first | (with_reducible first | exact HB.out | apply below_alloc | apply pw_below_drewN | apply below_drew1 | refine below_set ?_ GE977.out | refine below_set ?_ GE401.out) | exact HB.out)) hb); clear HO396 HO399 BK977 BK401 HB; have HO396 := n0_; have HO399 := n1_; have HO405 := n2_; have HO408 := n3_; have BK977 := n4_; have BK401 := n5_; have HB := n6_; clear n0_ n1_ n2_ n3_ n4_ n5_ n6_; (try clear hb); (try clear hb2); (try clear hk); (try clear hi); (try clear ho0); (try clear ho1)) | ((with_reducible refine gate_dst (N := 5) rfl ?_); refine box_event ?hg (N := 5) ?hd (cs := #[.int .i64 0, .slice none 0 0, .slice none 0 0]) (t := 39) ?hr ?_; (case hd => rfl); (case hg => rfl); (case hr => first | (go_simp; done) | (go_simp; rfl)); intro gb410 hg w15 hbox hb; have n0_ := ak (Kd.R_below (zR HO396.out) hb); have n1_ := ak (Kd.R_below (zR HO399.out) hb); have n2_ := ak (Kd.R_below (zR HO405.out) hb); have n3_ := ak (Kd.R_below (zR HO408.out) hb); have n4_ := ak (blk_below (g := 0) (o := .cells #[.int .i64 a977_0] 3 (0, 0)) (zK BK977.out) hb); have n5_ := ak (blk_below (g := gb401) (o := .cells #[.int .i64 t393, .slice Ao12 t394.length co12, .slice Ao13 t397.length co13] 39 (0, 0)) (zK BK401.out) hb); have n6_ := ak (below_step (by repeat (first | (with_reducible first | exact HB.out | apply below_alloc | apply pw_below_drewN | apply below_drew1 | refine below_set ?_ GE977.out | refine below_set ?_ GE401.out) | exact HB.out)) hb); have n7_ := ak (hbox); have n8_ := ak ((by rw [hg]; exact (below_size (by repeat (first | (with_reducible first | exact HB.out | apply below_alloc | apply pw_below_drewN | apply below_drew1 | refine below_set ?_ GE977.out | refine below_set ?_ GE401.out) | exact HB.out))) : w.heap.size ≤ gb410)); have n9_ := ak ((by rw [hg]; exact (below_size (by repeat (first | (with_reducible first | exact HB.out | apply below_alloc | apply pw_below_drewN | apply below_drew1 | refine below_set ?_ GE977.out | refine below_set ?_ GE401.out) | exact HB.out))) : w.heap.size ≤ gb410)); have n10_ := ak ((by rw [hg]; exact Nat.ne_of_lt (blk_lt (g := 0) (o := .cells #[.int .i64 a977_0] 3 (0, 0)) (zK BK977.out)) : 0 ≠ gb410)); have n11_ := ak ((by rw [hg]; exact Nat.ne_of_gt (blk_lt (g := 0) (o := .cells #[.int .i64 a977_0] 3 (0, 0)) (zK BK977.out)) : gb410 ≠ 0)); have n12_ := ak ((by rw [hg]; exact Nat.ne_of_lt (blk_lt (g := gb401) (o := .cells #[.int .i64 t393, .slice Ao12 t394.length co12, .slice Ao13 t397.length co13] 39 (0, 0)) (zK BK401.out)) : gb401 ≠ gb410)); have n13_ := ak ((by rw [hg]; exact Nat.ne_of_gt (blk_lt (g := gb401) (o := .cells #[.int .i64 t393, .slice Ao12 t394.length co12, .slice Ao13 t397.length co13] 39 (0, 0)) (zK BK401.out)) : gb410 ≠ gb401)); clear HO396 HO399 HO405 HO408 BK977 BK401 HB; have HO396 := n0_; have HO399 := n1_; have HO405 := n2_; have HO408 := n3_; have BK977 := n4_; have BK401 := n5_; have HB := n6_; have BK410 := n7_; have GW410 := n8_; have GE410 := n9_; have NB977_410 := n10_; have NB410_977 := n11_; have NB401_410 := n12_; have NB410_401 := n13_; clear n0_ n1_ n2_ n3_ n4_ n5_ n6_ n7_ n8_ n9_ n10_ n11_ n12_ n13_; clear hb hbox hg; have hnb16 := NB410_977.out; have hnc16 := NB977_410.out; have hnb17 := NB410_401.out; have hnc17 := NB401_410.out; have hcz18_0 : w15.cell? ⟨gb410, 0, none⟩ = some (.int .i64 0) := (blk_cell BK410.out 0).trans rfl; have hcz18_1 : w15.cell? ⟨gb410, 1, none⟩ = some (.slice none 0 0) := (blk_cell BK410.out 1).trans rfl; have hcz18_2 : w15.cell? ⟨gb410, 2, none⟩ = some (.slice none 0 0) := (blk_cell BK410.out 2).trans rfl; have hfz18_0 := blk_frozen BK410.out 0; have hfz18_1 := blk_frozen BK410.out 1; have hfz18_2 := blk_frozen BK410.out 2; obtain ⟨Ao19, co19, eo19⟩ := Kd.R_slice HO405.out; subst eo19; obtain ⟨Ao20, co20, eo20⟩ := Kd.R_slice HO408.out; subst eo20))
 (try simp only [Act.put, zs, zz, zk])
 go_cut [32] (fun v32 wc => ∃ (kq : Nat) (x32_6 : Bool), v32 = .bool x32_6 ∧ Aside0 (laws_FnExactReadLog.j0 kq a0 t400 x32_6 t393 t394 t397 t402 t403 t406 a977_0 = some r) ∧ Aside0 (kq ≤ k) ∧ Aside0 (Kd.R (Kd.int .u16) 62 wc w.heap.size (fun k_ => some k_ ≠ ((.slice Ao19 t403.length co19) : Value).ownBlock) (.slice Ao12 t394.length co12) t394) ∧ Aside0 (Kd.R (Kd.int .i16) 29 wc w.heap.size (fun k_ => some k_ ≠ ((.slice Ao20 t406.length co20) : Value).ownBlock) (.slice Ao13 t397.length co13) t397) ∧ Aside0 (Kd.R (Kd.int .u16) 62 wc w.heap.size (fun k_ => some k_ ≠ ((.slice Ao12 t394.length co12) : Value).ownBlock) (.slice Ao19 t403.length co19) t403) ∧ Aside0 (Kd.R (Kd.int .i16) 29 wc w.heap.size (fun k_ => some k_ ≠ ((.slice Ao13 t397.length co13) : Value).ownBlock) (.slice Ao20 t406.length co20) t406) ∧ Aside0 (wc.heap[0]? = some (.cells #[.int .i64 a977_0] 3 (0, 0))) ∧ Aside0 (wc.heap[gb401]? = some (.cells #[.int .i64 t393, (.slice Ao12 t394.length co12), (.slice Ao13 t397.length co13)] 39 (0, 0))) ∧ Aside0 (wc.heap[gb410]? = some (.cells #[.int .i64 t402, (.slice Ao19 t403.length co19), (.slice Ao20 t406.length co20)] 39 (0, 0))) ∧ Aside0 (Below w.heap.size w wc))
 case first => (
 have H := HC7.out
 clear HC7
 replace H := Option.bind_eq_some_iff.mp H
 obtain ⟨t411, A210, H⟩ := H
 replace H : (if t411 = true then (laws_FnExactReadLog.j0 k a0 t400 (t409 != t400) t393 t394 t397 t402 t403 t406 a977_0) else (laws_FnExactReadLog.j0 k a0 t400 true t393 t394 t397 t402 t403 t406 a977_0)) = some r := H
 have A21 := ak A210
 clear A210
 by_cases c22 : t411 = true
 {
 subst c22
 have H1 : (laws_FnExactReadLog.j0 k a0 t400 (t409 != t400) t393 t394 t397 t402 t403 t406 a977_0) = some r := by rw [if_pos rfl] at H; exact H
 clear H
 have H := H1
 clear H1
 have H' := ak H
 clear H
 have hnb23 := NB410_977.out
 have hnc23 := NB977_410.out
 have hnb24 := NB410_401.out
 have hnc24 := NB401_410.out
 have hcz25_0 : w15.cell? ⟨gb410, 0, none⟩ = some (.int .i64 0) := (blk_cell BK410.out 0).trans rfl
 have hcz25_1 : w15.cell? ⟨gb410, 1, none⟩ = some (.slice none 0 0) := (blk_cell BK410.out 1).trans rfl
 have hcz25_2 : w15.cell? ⟨gb410, 2, none⟩ = some (.slice none 0 0) := (blk_cell BK410.out 2).trans rfl
 have hfz25_0 := blk_frozen BK410.out 0
 have hfz25_1 := blk_frozen BK410.out 1
 have hfz25_2 := blk_frozen BK410.out 2
 have hnb26 := NB401_977.out
 have hnc26 := NB977_401.out
 have hcz27_0 : w15.cell? ⟨gb401, 0, none⟩ = some (.int .i64 t393) := (blk_cell BK401.out 0).trans rfl
 have hcz27_1 : w15.cell? ⟨gb401, 1, none⟩ = some (.slice Ao12 t394.length co12) := (blk_cell BK401.out 1).trans rfl
 have hcz27_2 : w15.cell? ⟨gb401, 2, none⟩ = some (.slice Ao13 t397.length co13) := (blk_cell BK401.out 2).trans rfl
 have hfz27_0 := blk_frozen BK401.out 0
 have hfz27_1 := blk_frozen BK401.out 1
 have hfz27_2 := blk_frozen BK401.out 2
 go_wp2_with (first | ((with_reducible refine gate_callee (f := 16) rfl ?_); refine goesL_ (some 26) rfl rfl Tryd.func16 (by kernel_rfl) rfl #[.agg #[.int .i64 t402, .slice Ao19 t403.length co19, .slice Ao20 t406.length co20], .agg #[.int .i64 t393, .slice Ao12 t394.length co12, .slice Ao13 t397.length co13]] rfl (by (try simp only [List.map_toArray, List.map_cons, List.map_nil]); first | done | rfl | (simp only [List.length_drop, List.length_take]; rfl)) ?_; (with_reducible refine (laws_eqLog.calls k t402 _ _ t403 _ _ t406 t393 _ _ t394 _ _ t397 true _ ?side1 ?side2 ?side3 ?side4 ?side5 ?side6 ?side7 ?side8 A21.out).mono ?_); (case side1 => refine (Kd.R_reads' (e := 62) (base := w.heap.size) (ok := fun k_ => (True ∧ some k_ ≠ (.slice Ao12 t394.length co12 : Value).ownBlock)) (n := t403.length) (c := co19) ?_).2.2; exact (by (with_reducible repeat (first | apply Kd.R_alloc | apply Kd.R_drewN | apply Kd.R_drew)); exact (Kd.R_mono (Kd.R_far (p := ⟨gb410, 2, none⟩) (Kd.R_far (p := ⟨gb410, 1, none⟩) (Kd.R_far (p := ⟨gb410, 0, none⟩) (Kd.R_types HO405.out BK410.out (by decide)) (fun _ hk => hk.2) (.int .i64 t402)) (fun _ hk => hk.2) (.slice Ao19 t403.length co19)) (fun _ hk => hk.2) (.slice Ao20 t406.length co20)) (fun _ h_ => h_.1)))); (case side2 => exact (Kd.R_reads' HO405.out).2.1); (case side3 => refine (Kd.R_reads' (e := 29) (base := w.heap.size) (ok := fun k_ => (True ∧ some k_ ≠ (.slice Ao13 t397.length co13 : Value).ownBlock)) (n := t406.length) (c := co20) ?_).2.2; exact (by (with_reducible repeat (first | apply Kd.R_alloc | apply Kd.R_drewN | apply Kd.R_drew)); exact (Kd.R_mono (Kd.R_far (p := ⟨gb410, 2, none⟩) (Kd.R_far (p := ⟨gb410, 1, none⟩) (Kd.R_far (p := ⟨gb410, 0, none⟩) (Kd.R_types HO408.out BK410.out (by decide)) (fun _ hk => hk.2) (.int .i64 t402)) (fun _ hk => hk.2) (.slice Ao19 t403.length co19)) (fun _ hk => hk.2) (.slice Ao20 t406.length co20)) (fun _ h_ => h_.1)))); (case side4 => exact (Kd.R_reads' HO408.out).2.1); (case side5 => refine (Kd.R_reads' (e := 62) (base := w.heap.size) (ok := fun k_ => (True ∧ some k_ ≠ (.slice Ao19 t403.length co19 : Value).ownBlock)) (n := t394.length) (c := co12) ?_).2.2; exact (by (with_reducible repeat (first | apply Kd.R_alloc | apply Kd.R_drewN | apply Kd.R_drew)); exact (Kd.R_mono (Kd.R_far (p := ⟨gb410, 2, none⟩) (Kd.R_far (p := ⟨gb410, 1, none⟩) (Kd.R_far (p := ⟨gb410, 0, none⟩) (Kd.R_types HO396.out BK410.out (by decide)) (fun _ hk => hk.2) (.int .i64 t402)) (fun _ hk => hk.2) (.slice Ao19 t403.length co19)) (fun _ hk => hk.2) (.slice Ao20 t406.length co20)) (fun _ h_ => h_.1)))); (case side6 => exact (Kd.R_reads' HO396.out).2.1); (case side7 => refine (Kd.R_reads' (e := 29) (base := w.heap.size) (ok := fun k_ => (True ∧ some k_ ≠ (.slice Ao20 t406.length co20 : Value).ownBlock)) (n := t397.length) (c := co13) ?_).2.2; exact (by (with_reducible repeat (first | apply Kd.R_alloc | apply Kd.R_drewN | apply Kd.R_drew)); exact (Kd.R_mono (Kd.R_far (p := ⟨gb410, 2, none⟩) (Kd.R_far (p := ⟨gb410, 1, none⟩) (Kd.R_far (p := ⟨gb410, 0, none⟩) (Kd.R_types HO399.out BK410.out (by decide)) (fun _ hk => hk.2) (.int .i64 t402)) (fun _ hk => hk.2) (.slice Ao19 t403.length co19)) (fun _ hk => hk.2) (.slice Ao20 t406.length co20)) (fun _ h_ => h_.1)))); (case side8 => exact (Kd.R_reads' HO399.out).2.1); rintro e w28 ⟨rfl, hb⟩; refine ⟨_, rfl, ?_⟩; have n0_ := ak (Kd.R_below (by (with_reducible repeat (first | apply Kd.R_alloc | apply Kd.R_drewN | apply Kd.R_drew)); exact (Kd.R_mono (Kd.R_far (p := ⟨gb410, 2, none⟩) (Kd.R_far (p := ⟨gb410, 1, none⟩) (Kd.R_far (p := ⟨gb410, 0, none⟩) (Kd.R_types HO396.out BK410.out (by decide)) (fun _ hk => hk.2) (.int .i64 t402)) (fun _ hk => hk.2) (.slice Ao19 t403.length co19)) (fun _ hk => hk.2) (.slice Ao20 t406.length co20)) (fun _ h_ => h_.1))) hb); have n1_ := ak (Kd.R_below (by (with_reducible repeat (first | apply Kd.R_alloc | apply Kd.R_drewN | apply Kd.R_drew)); exact (Kd.R_mono (Kd.R_far (p := ⟨gb410, 2, none⟩) (Kd.R_far (p := ⟨gb410, 1, none⟩) (Kd.R_far (p := ⟨gb410, 0, none⟩) (Kd.R_types HO399.out BK410.out (by decide)) (fun _ hk => hk.2) (.int .i64 t402)) (fun _ hk => hk.2) (.slice Ao19 t403.length co19)) (fun _ hk => hk.2) (.slice Ao20 t406.length co20)) (fun _ h_ => h_.1))) hb); have n2_ := ak (Kd.R_below (by (with_reducible repeat (first | apply Kd.R_alloc | apply Kd.R_drewN | apply Kd.R_drew)); exact (Kd.R_mono (Kd.R_far (p := ⟨gb410, 2, none⟩) (Kd.R_far (p := ⟨gb410, 1, none⟩) (Kd.R_far (p := ⟨gb410, 0, none⟩) (Kd.R_types HO405.out BK410.out (by decide)) (fun _ hk => hk.2) (.int .i64 t402)) (fun _ hk => hk.2) (.slice Ao19 t403.length co19)) (fun _ hk => hk.2) (.slice Ao20 t406.length co20)) (fun _ h_ => h_.1))) hb); have n3_ := ak (Kd.R_below (by (with_reducible repeat (first | apply Kd.R_alloc | apply Kd.R_drewN | apply Kd.R_drew)); exact (Kd.R_mono (Kd.R_far (p := ⟨gb410, 2, none⟩) (Kd.R_far (p := ⟨gb410, 1, none⟩) (Kd.R_far (p := ⟨gb410, 0, none⟩) (Kd.R_types HO408.out BK410.out (by decide)) (fun _ hk => hk.2) (.int .i64 t402)) (fun _ hk => hk.2) (.slice Ao19 t403.length co19)) (fun _ hk => hk.2) (.slice Ao20 t406.length co20)) (fun _ h_ => h_.1))) hb); have n4_ := ak (blk_below (g := 0) (o := .cells #[.int .i64 a977_0] 3 (0, 0)) (by (with_reducible repeat (first | refine blk_drewN ?_ _ | refine blk_drew ?_ | refine blk_alloc ?_ _)); refine blk_far ?_ NB977_410.out _; (with_reducible repeat (first | refine blk_drewN ?_ _ | refine blk_drew ?_ | refine blk_alloc ?_ _)); refine blk_far ?_ NB977_410.out _; (with_reducible repeat (first | refine blk_drewN ?_ _ | refine blk_drew ?_ | refine blk_alloc ?_ _)); refine blk_far ?_ NB977_410.out _; (with_reducible repeat (first | refine blk_drewN ?_ _ | refine blk_drew ?_ | refine blk_alloc ?_ _)); exact BK977.out) hb); have n5_ := ak (blk_below (g := gb401) (o := .cells #[.int .i64 t393, .slice Ao12 t394.length co12, .slice Ao13 t397.length co13] 39 (0, 0)) (by (with_reducible repeat (first | refine blk_drewN ?_ _ | refine blk_drew ?_ | refine blk_alloc ?_ _)); refine blk_far ?_ NB401_410.out _; (with_reducible repeat (first | refine blk_drewN ?_ _ | refine blk_drew ?_ | refine blk_alloc ?_ _)); refine blk_far ?_ NB401_410.out _; (with_reducible repeat (first | refine blk_drewN ?_ _ | refine blk_drew ?_ | refine blk_alloc ?_ _)); refine blk_far ?_ NB401_410.out _; (with_reducible repeat (first | refine blk_drewN ?_ _ | refine blk_drew ?_ | refine blk_alloc ?_ _)); exact BK401.out) hb); have n6_ := ak (blk_below (g := gb410) (o := .cells #[.int .i64 t402, .slice Ao19 t403.length co19, .slice Ao20 t406.length co20] 39 (0, 0)) (by (with_reducible repeat (first | refine blk_drewN ?_ _ | refine blk_drew ?_ | refine blk_alloc ?_ _)); refine blk_put (cs := #[.int .i64 t402, .slice Ao19 t403.length co19, .slice none 0 0]) ?_ 2 _ rfl; (with_reducible repeat (first | refine blk_drewN ?_ _ | refine blk_drew ?_ | refine blk_alloc ?_ _)); refine blk_put (cs := #[.int .i64 t402, .slice none 0 0, .slice none 0 0]) ?_ 1 _ rfl; (with_reducible repeat (first | refine blk_drewN ?_ _ | refine blk_drew ?_ | refine blk_alloc ?_ _)); refine blk_put (cs := #[.int .i64 0, .slice none 0 0, .slice none 0 0]) ?_ 0 _ rfl; (with_reducible repeat (first | refine blk_drewN ?_ _ | refine blk_drew ?_ | refine blk_alloc ?_ _)); exact BK410.out) hb); have n7_ := ak (below_step (by repeat (first | (with_reducible first | exact HB.out | apply below_alloc | apply pw_below_drewN | apply below_drew1 | refine below_set ?_ GE977.out | refine below_set ?_ GE401.out | refine below_set ?_ GE410.out) | exact HB.out)) hb); clear HO396 HO399 HO405 HO408 BK977 BK401 BK410 HB; have HO396 := n0_; have HO399 := n1_; have HO405 := n2_; have HO408 := n3_; have BK977 := n4_; have BK401 := n5_; have BK410 := n6_; have HB := n7_; clear n0_ n1_ n2_ n3_ n4_ n5_ n6_ n7_; (try clear hb); (try clear hb2); (try clear hk); (try clear hi)))
 go_meet
 case rel => exact ⟨_, ((t409 != t400)), (by first | rfl | (simp; done) | (simp [*]; done)), H', ⟨by first | omega | exact Nat.le_refl _⟩, ⟨by (with_reducible repeat (first | apply Kd.R_alloc | apply Kd.R_drewN | apply Kd.R_drew)); exact Kd.R_mono HO396.out (fun _ hk => hk.2)⟩, ⟨by (with_reducible repeat (first | apply Kd.R_alloc | apply Kd.R_drewN | apply Kd.R_drew)); exact Kd.R_mono HO399.out (fun _ hk => hk.2)⟩, ⟨by (with_reducible repeat (first | apply Kd.R_alloc | apply Kd.R_drewN | apply Kd.R_drew)); exact Kd.R_mono HO405.out (fun _ hk => hk.2)⟩, ⟨by (with_reducible repeat (first | apply Kd.R_alloc | apply Kd.R_drewN | apply Kd.R_drew)); exact Kd.R_mono HO408.out (fun _ hk => hk.2)⟩, ⟨by (with_reducible repeat (first | refine blk_drewN ?_ _ | refine blk_drew ?_ | refine blk_alloc ?_ _)); exact BK977.out⟩, ⟨by (with_reducible repeat (first | refine blk_drewN ?_ _ | refine blk_drew ?_ | refine blk_alloc ?_ _)); exact BK401.out⟩, ⟨by (with_reducible repeat (first | refine blk_drewN ?_ _ | refine blk_drew ?_ | refine blk_alloc ?_ _)); exact BK410.out⟩, ⟨by repeat (first | (with_reducible first | exact HB.out | apply below_alloc | apply pw_below_drewN | apply below_drew1 | refine below_set ?_ GE977.out | refine below_set ?_ GE401.out | refine below_set ?_ GE410.out) | exact HB.out)⟩⟩
 }
 {
 replace c22 := Bool.eq_false_iff.mpr c22
 subst c22
 have H1 : (laws_FnExactReadLog.j0 k a0 t400 true t393 t394 t397 t402 t403 t406 a977_0) = some r := by rw [if_neg (show ¬ (false = true) by decide)] at H; exact H
 clear H
 have H := H1
 clear H1
 have H' := ak H
 clear H
 have hnb29 := NB410_977.out
 have hnc29 := NB977_410.out
 have hnb30 := NB410_401.out
 have hnc30 := NB401_410.out
 have hcz31_0 : w15.cell? ⟨gb410, 0, none⟩ = some (.int .i64 0) := (blk_cell BK410.out 0).trans rfl
 have hcz31_1 : w15.cell? ⟨gb410, 1, none⟩ = some (.slice none 0 0) := (blk_cell BK410.out 1).trans rfl
 have hcz31_2 : w15.cell? ⟨gb410, 2, none⟩ = some (.slice none 0 0) := (blk_cell BK410.out 2).trans rfl
 have hfz31_0 := blk_frozen BK410.out 0
 have hfz31_1 := blk_frozen BK410.out 1
 have hfz31_2 := blk_frozen BK410.out 2
 have hnb32 := NB401_977.out
 have hnc32 := NB977_401.out
 have hcz33_0 : w15.cell? ⟨gb401, 0, none⟩ = some (.int .i64 t393) := (blk_cell BK401.out 0).trans rfl
 have hcz33_1 : w15.cell? ⟨gb401, 1, none⟩ = some (.slice Ao12 t394.length co12) := (blk_cell BK401.out 1).trans rfl
 have hcz33_2 : w15.cell? ⟨gb401, 2, none⟩ = some (.slice Ao13 t397.length co13) := (blk_cell BK401.out 2).trans rfl
 have hfz33_0 := blk_frozen BK401.out 0
 have hfz33_1 := blk_frozen BK401.out 1
 have hfz33_2 := blk_frozen BK401.out 2
 go_wp2_with (first | ((with_reducible refine gate_callee (f := 16) rfl ?_); refine goesL_ (some 26) rfl rfl Tryd.func16 (by kernel_rfl) rfl #[.agg #[.int .i64 t402, .slice Ao19 t403.length co19, .slice Ao20 t406.length co20], .agg #[.int .i64 t393, .slice Ao12 t394.length co12, .slice Ao13 t397.length co13]] rfl (by (try simp only [List.map_toArray, List.map_cons, List.map_nil]); first | done | rfl | (simp only [List.length_drop, List.length_take]; rfl)) ?_; (with_reducible refine (laws_eqLog.calls k t402 _ _ t403 _ _ t406 t393 _ _ t394 _ _ t397 false _ ?side1 ?side2 ?side3 ?side4 ?side5 ?side6 ?side7 ?side8 A21.out).mono ?_); (case side1 => refine (Kd.R_reads' (e := 62) (base := w.heap.size) (ok := fun k_ => (True ∧ some k_ ≠ (.slice Ao12 t394.length co12 : Value).ownBlock)) (n := t403.length) (c := co19) ?_).2.2; exact (by (with_reducible repeat (first | apply Kd.R_alloc | apply Kd.R_drewN | apply Kd.R_drew)); exact (Kd.R_mono (Kd.R_far (p := ⟨gb410, 2, none⟩) (Kd.R_far (p := ⟨gb410, 1, none⟩) (Kd.R_far (p := ⟨gb410, 0, none⟩) (Kd.R_types HO405.out BK410.out (by decide)) (fun _ hk => hk.2) (.int .i64 t402)) (fun _ hk => hk.2) (.slice Ao19 t403.length co19)) (fun _ hk => hk.2) (.slice Ao20 t406.length co20)) (fun _ h_ => h_.1)))); (case side2 => exact (Kd.R_reads' HO405.out).2.1); (case side3 => refine (Kd.R_reads' (e := 29) (base := w.heap.size) (ok := fun k_ => (True ∧ some k_ ≠ (.slice Ao13 t397.length co13 : Value).ownBlock)) (n := t406.length) (c := co20) ?_).2.2; exact (by (with_reducible repeat (first | apply Kd.R_alloc | apply Kd.R_drewN | apply Kd.R_drew)); exact (Kd.R_mono (Kd.R_far (p := ⟨gb410, 2, none⟩) (Kd.R_far (p := ⟨gb410, 1, none⟩) (Kd.R_far (p := ⟨gb410, 0, none⟩) (Kd.R_types HO408.out BK410.out (by decide)) (fun _ hk => hk.2) (.int .i64 t402)) (fun _ hk => hk.2) (.slice Ao19 t403.length co19)) (fun _ hk => hk.2) (.slice Ao20 t406.length co20)) (fun _ h_ => h_.1)))); (case side4 => exact (Kd.R_reads' HO408.out).2.1); (case side5 => refine (Kd.R_reads' (e := 62) (base := w.heap.size) (ok := fun k_ => (True ∧ some k_ ≠ (.slice Ao19 t403.length co19 : Value).ownBlock)) (n := t394.length) (c := co12) ?_).2.2; exact (by (with_reducible repeat (first | apply Kd.R_alloc | apply Kd.R_drewN | apply Kd.R_drew)); exact (Kd.R_mono (Kd.R_far (p := ⟨gb410, 2, none⟩) (Kd.R_far (p := ⟨gb410, 1, none⟩) (Kd.R_far (p := ⟨gb410, 0, none⟩) (Kd.R_types HO396.out BK410.out (by decide)) (fun _ hk => hk.2) (.int .i64 t402)) (fun _ hk => hk.2) (.slice Ao19 t403.length co19)) (fun _ hk => hk.2) (.slice Ao20 t406.length co20)) (fun _ h_ => h_.1)))); (case side6 => exact (Kd.R_reads' HO396.out).2.1); (case side7 => refine (Kd.R_reads' (e := 29) (base := w.heap.size) (ok := fun k_ => (True ∧ some k_ ≠ (.slice Ao20 t406.length co20 : Value).ownBlock)) (n := t397.length) (c := co13) ?_).2.2; exact (by (with_reducible repeat (first | apply Kd.R_alloc | apply Kd.R_drewN | apply Kd.R_drew)); exact (Kd.R_mono (Kd.R_far (p := ⟨gb410, 2, none⟩) (Kd.R_far (p := ⟨gb410, 1, none⟩) (Kd.R_far (p := ⟨gb410, 0, none⟩) (Kd.R_types HO399.out BK410.out (by decide)) (fun _ hk => hk.2) (.int .i64 t402)) (fun _ hk => hk.2) (.slice Ao19 t403.length co19)) (fun _ hk => hk.2) (.slice Ao20 t406.length co20)) (fun _ h_ => h_.1)))); (case side8 => exact (Kd.R_reads' HO399.out).2.1); rintro e w34 ⟨rfl, hb⟩; refine ⟨_, rfl, ?_⟩; have n0_ := ak (Kd.R_below (by (with_reducible repeat (first | apply Kd.R_alloc | apply Kd.R_drewN | apply Kd.R_drew)); exact (Kd.R_mono (Kd.R_far (p := ⟨gb410, 2, none⟩) (Kd.R_far (p := ⟨gb410, 1, none⟩) (Kd.R_far (p := ⟨gb410, 0, none⟩) (Kd.R_types HO396.out BK410.out (by decide)) (fun _ hk => hk.2) (.int .i64 t402)) (fun _ hk => hk.2) (.slice Ao19 t403.length co19)) (fun _ hk => hk.2) (.slice Ao20 t406.length co20)) (fun _ h_ => h_.1))) hb); have n1_ := ak (Kd.R_below (by (with_reducible repeat (first | apply Kd.R_alloc | apply Kd.R_drewN | apply Kd.R_drew)); exact (Kd.R_mono (Kd.R_far (p := ⟨gb410, 2, none⟩) (Kd.R_far (p := ⟨gb410, 1, none⟩) (Kd.R_far (p := ⟨gb410, 0, none⟩) (Kd.R_types HO399.out BK410.out (by decide)) (fun _ hk => hk.2) (.int .i64 t402)) (fun _ hk => hk.2) (.slice Ao19 t403.length co19)) (fun _ hk => hk.2) (.slice Ao20 t406.length co20)) (fun _ h_ => h_.1))) hb); have n2_ := ak (Kd.R_below (by (with_reducible repeat (first | apply Kd.R_alloc | apply Kd.R_drewN | apply Kd.R_drew)); exact (Kd.R_mono (Kd.R_far (p := ⟨gb410, 2, none⟩) (Kd.R_far (p := ⟨gb410, 1, none⟩) (Kd.R_far (p := ⟨gb410, 0, none⟩) (Kd.R_types HO405.out BK410.out (by decide)) (fun _ hk => hk.2) (.int .i64 t402)) (fun _ hk => hk.2) (.slice Ao19 t403.length co19)) (fun _ hk => hk.2) (.slice Ao20 t406.length co20)) (fun _ h_ => h_.1))) hb); have n3_ := ak (Kd.R_below (by (with_reducible repeat (first | apply Kd.R_alloc | apply Kd.R_drewN | apply Kd.R_drew)); exact (Kd.R_mono (Kd.R_far (p := ⟨gb410, 2, none⟩) (Kd.R_far (p := ⟨gb410, 1, none⟩) (Kd.R_far (p := ⟨gb410, 0, none⟩) (Kd.R_types HO408.out BK410.out (by decide)) (fun _ hk => hk.2) (.int .i64 t402)) (fun _ hk => hk.2) (.slice Ao19 t403.length co19)) (fun _ hk => hk.2) (.slice Ao20 t406.length co20)) (fun _ h_ => h_.1))) hb); have n4_ := ak (blk_below (g := 0) (o := .cells #[.int .i64 a977_0] 3 (0, 0)) (by (with_reducible repeat (first | refine blk_drewN ?_ _ | refine blk_drew ?_ | refine blk_alloc ?_ _)); refine blk_far ?_ NB977_410.out _; (with_reducible repeat (first | refine blk_drewN ?_ _ | refine blk_drew ?_ | refine blk_alloc ?_ _)); refine blk_far ?_ NB977_410.out _; (with_reducible repeat (first | refine blk_drewN ?_ _ | refine blk_drew ?_ | refine blk_alloc ?_ _)); refine blk_far ?_ NB977_410.out _; (with_reducible repeat (first | refine blk_drewN ?_ _ | refine blk_drew ?_ | refine blk_alloc ?_ _)); exact BK977.out) hb); have n5_ := ak (blk_below (g := gb401) (o := .cells #[.int .i64 t393, .slice Ao12 t394.length co12, .slice Ao13 t397.length co13] 39 (0, 0)) (by (with_reducible repeat (first | refine blk_drewN ?_ _ | refine blk_drew ?_ | refine blk_alloc ?_ _)); refine blk_far ?_ NB401_410.out _; (with_reducible repeat (first | refine blk_drewN ?_ _ | refine blk_drew ?_ | refine blk_alloc ?_ _)); refine blk_far ?_ NB401_410.out _; (with_reducible repeat (first | refine blk_drewN ?_ _ | refine blk_drew ?_ | refine blk_alloc ?_ _)); refine blk_far ?_ NB401_410.out _; (with_reducible repeat (first | refine blk_drewN ?_ _ | refine blk_drew ?_ | refine blk_alloc ?_ _)); exact BK401.out) hb); have n6_ := ak (blk_below (g := gb410) (o := .cells #[.int .i64 t402, .slice Ao19 t403.length co19, .slice Ao20 t406.length co20] 39 (0, 0)) (by (with_reducible repeat (first | refine blk_drewN ?_ _ | refine blk_drew ?_ | refine blk_alloc ?_ _)); refine blk_put (cs := #[.int .i64 t402, .slice Ao19 t403.length co19, .slice none 0 0]) ?_ 2 _ rfl; (with_reducible repeat (first | refine blk_drewN ?_ _ | refine blk_drew ?_ | refine blk_alloc ?_ _)); refine blk_put (cs := #[.int .i64 t402, .slice none 0 0, .slice none 0 0]) ?_ 1 _ rfl; (with_reducible repeat (first | refine blk_drewN ?_ _ | refine blk_drew ?_ | refine blk_alloc ?_ _)); refine blk_put (cs := #[.int .i64 0, .slice none 0 0, .slice none 0 0]) ?_ 0 _ rfl; (with_reducible repeat (first | refine blk_drewN ?_ _ | refine blk_drew ?_ | refine blk_alloc ?_ _)); exact BK410.out) hb); have n7_ := ak (below_step (by repeat (first | (with_reducible first | exact HB.out | apply below_alloc | apply pw_below_drewN | apply below_drew1 | refine below_set ?_ GE977.out | refine below_set ?_ GE401.out | refine below_set ?_ GE410.out) | exact HB.out)) hb); clear HO396 HO399 HO405 HO408 BK977 BK401 BK410 HB; have HO396 := n0_; have HO399 := n1_; have HO405 := n2_; have HO408 := n3_; have BK977 := n4_; have BK401 := n5_; have BK410 := n6_; have HB := n7_; clear n0_ n1_ n2_ n3_ n4_ n5_ n6_ n7_; (try clear hb); (try clear hb2); (try clear hk); (try clear hi)))
 go_meet
 case rel => exact ⟨_, (true), (by first | rfl | (simp; done) | (simp [*]; done)), H', ⟨by first | omega | exact Nat.le_refl _⟩, ⟨by (with_reducible repeat (first | apply Kd.R_alloc | apply Kd.R_drewN | apply Kd.R_drew)); exact Kd.R_mono HO396.out (fun _ hk => hk.2)⟩, ⟨by (with_reducible repeat (first | apply Kd.R_alloc | apply Kd.R_drewN | apply Kd.R_drew)); exact Kd.R_mono HO399.out (fun _ hk => hk.2)⟩, ⟨by (with_reducible repeat (first | apply Kd.R_alloc | apply Kd.R_drewN | apply Kd.R_drew)); exact Kd.R_mono HO405.out (fun _ hk => hk.2)⟩, ⟨by (with_reducible repeat (first | apply Kd.R_alloc | apply Kd.R_drewN | apply Kd.R_drew)); exact Kd.R_mono HO408.out (fun _ hk => hk.2)⟩, ⟨by (with_reducible repeat (first | refine blk_drewN ?_ _ | refine blk_drew ?_ | refine blk_alloc ?_ _)); exact BK977.out⟩, ⟨by (with_reducible repeat (first | refine blk_drewN ?_ _ | refine blk_drew ?_ | refine blk_alloc ?_ _)); exact BK401.out⟩, ⟨by (with_reducible repeat (first | refine blk_drewN ?_ _ | refine blk_drew ?_ | refine blk_alloc ?_ _)); exact BK410.out⟩, ⟨by repeat (first | (with_reducible first | exact HB.out | apply below_alloc | apply pw_below_drewN | apply below_drew1 | refine below_set ?_ GE977.out | refine below_set ?_ GE401.out | refine below_set ?_ GE410.out) | exact HB.out)⟩⟩
 }
 )
 case rest => (
 clear HC7
 try clear c1
 try clear c2
 try clear p2
 try clear c3
 try clear c4
 try clear c4b0
 try clear c4b1
 try clear c5
 try clear hx9
 try clear c10
 try clear c14
 try clear c15
 try clear c16
 try clear c17
 try clear c22
 try clear c23
 try clear c24
 try clear c26
 try clear c29
 try clear c30
 try clear c32
 try clear hcz11_0
 try clear hcz11_1
 try clear hcz11_2
 try clear hcz18_0
 try clear hcz18_1
 try clear hcz18_2
 try clear hcz25_0
 try clear hcz25_1
 try clear hcz25_2
 try clear hcz27_0
 try clear hcz27_1
 try clear hcz27_2
 try clear hcz31_0
 try clear hcz31_1
 try clear hcz31_2
 try clear hcz33_0
 try clear hcz33_1
 try clear hcz33_2
 try clear hfz11_0
 try clear hfz11_1
 try clear hfz11_2
 try clear hfz18_0
 try clear hfz18_1
 try clear hfz18_2
 try clear hfz25_0
 try clear hfz25_1
 try clear hfz25_2
 try clear hfz27_0
 try clear hfz27_1
 try clear hfz27_2
 try clear hfz31_0
 try clear hfz31_1
 try clear hfz31_2
 try clear hfz33_0
 try clear hfz33_1
 try clear hfz33_2
 obtain ⟨kq, x32_6, rfl, HA, HJ6, HO_402001, HO_402002, HO_411001, HO_411002, BK977, BK401, BK410, HB⟩ := hcut
 cases kq with
 | zero => exact absurd HA.out (by simp [laws_FnExactReadLog.j0])
 | succ kj6 => (
 have H := HA.out
 clear HA
 simp only [laws_FnExactReadLog.j0] at H
 by_cases c35 : x32_6 = true
 {
 subst c35
 have H1 : (some false) = some r := by rw [if_pos rfl] at H; exact H
 clear H
 have H := H1
 clear H1
 exact absurd ((Option.some.inj H).trans HT.out) (by decide)
 }
 {
 replace c35 := Bool.eq_false_iff.mpr c35
 subst c35
 have H1 : ((laws_markLog.f kj6 t402 t403 t406 1).bind fun bt412 => ((laws_heldLog.f kj6 t402 bt412.2.1 bt412.2.2 1).bind fun t415 => (if t415 < 0 then (some false) else (if t415 = bt412.1 then ((impl_ReadLog.f kj6 a0 a977_0).bind fun bt416 => ((laws_eqLog.f kj6 bt416.1 bt416.2.1 bt416.2.2.1 t393 t394 t397).bind fun t425 => (if t425 = true then (laws_FnExactReadLog.j1 kj6 bt412.1 (bt416.2.2.2 != t400) t402 bt412.2.1 bt412.2.2) else (laws_FnExactReadLog.j1 kj6 bt412.1 true t402 bt412.2.1 bt412.2.2)))) else (some false))))) = some r := by rw [if_neg (show ¬ (false = true) by decide)] at H; exact H
 clear H
 have H := H1
 clear H1
 replace H := Option.bind_eq_some_iff.mp H
 obtain ⟨⟨t412, t413, t414⟩, A360, H⟩ := H
 replace H : ((laws_heldLog.f kj6 t402 t413 t414 1).bind fun t415 => (if t415 < 0 then (some false) else (if t415 = t412 then ((impl_ReadLog.f kj6 a0 a977_0).bind fun bt416 => ((laws_eqLog.f kj6 bt416.1 bt416.2.1 bt416.2.2.1 t393 t394 t397).bind fun t425 => (if t425 = true then (laws_FnExactReadLog.j1 kj6 t412 (bt416.2.2.2 != t400) t402 t413 t414) else (laws_FnExactReadLog.j1 kj6 t412 true t402 t413 t414)))) else (some false)))) = some r := H
 have A36 := ak A360
 clear A360
 replace H := Option.bind_eq_some_iff.mp H
 obtain ⟨t415, A370, H⟩ := H
 replace H : (if t415 < 0 then (some false) else (if t415 = t412 then ((impl_ReadLog.f kj6 a0 a977_0).bind fun bt416 => ((laws_eqLog.f kj6 bt416.1 bt416.2.1 bt416.2.2.1 t393 t394 t397).bind fun t425 => (if t425 = true then (laws_FnExactReadLog.j1 kj6 t412 (bt416.2.2.2 != t400) t402 t413 t414) else (laws_FnExactReadLog.j1 kj6 t412 true t402 t413 t414)))) else (some false))) = some r := H
 have A37 := ak A370
 clear A370
 by_cases c38 : t415 < 0
 · rw [if_pos c38] at H; have c38b0 : decide (t415 < 0) = true := decide_eq_true c38; clear c38; exact absurd ((Option.some.inj H).trans HT.out) (by decide)
 {
 rw [if_neg c38] at H
 have c38b0 : decide (t415 < 0) = false := decide_eq_false c38
 clear c38
 by_cases c39 : t415 = t412
 {
 rw [if_pos c39] at H
 have c39b0 : (t415 == t412) = true := beq_iff_eq.mpr c39
 have c39b1 : (t415 != t412) = false := bne_eq_false_iff_eq.mpr c39
 clear c39
 replace H := Option.bind_eq_some_iff.mp H
 obtain ⟨⟨t416, t417, t420, t423⟩, A400, H⟩ := H
 replace H : ((laws_eqLog.f kj6 t416 t417 t420 t393 t394 t397).bind fun t425 => (if t425 = true then (laws_FnExactReadLog.j1 kj6 t412 (t423 != t400) t402 t413 t414) else (laws_FnExactReadLog.j1 kj6 t412 true t402 t413 t414))) = some r := H
 have A40 := ak A400
 clear A400
 have HC41 := ak H
 clear H
 have hnb42 := NB410_977.out
 have hnc42 := NB977_410.out
 have hnb43 := NB410_401.out
 have hnc43 := NB401_410.out
 have hcz44_0 : wc.cell? ⟨gb410, 0, none⟩ = some (.int .i64 t402) := (blk_cell BK410.out 0).trans rfl
 have hcz44_1 : wc.cell? ⟨gb410, 1, none⟩ = some (.slice Ao19 t403.length co19) := (blk_cell BK410.out 1).trans rfl
 have hcz44_2 : wc.cell? ⟨gb410, 2, none⟩ = some (.slice Ao20 t406.length co20) := (blk_cell BK410.out 2).trans rfl
 have hfz44_0 := blk_frozen BK410.out 0
 have hfz44_1 := blk_frozen BK410.out 1
 have hfz44_2 := blk_frozen BK410.out 2
 go_upto_region 16 with (first | ((with_reducible refine gate_callee (f := 17) rfl ?_); refine goesL_ (some 35) rfl rfl Tryd.func17 (by kernel_rfl) rfl #[.agg #[.int .i64 t402, .slice Ao19 t403.length co19, .slice Ao20 t406.length co20], .int .i64 1] rfl (by (try simp only [List.map_toArray, List.map_cons, List.map_nil]); first | done | rfl | (simp only [List.length_drop, List.length_take]; rfl)) ?_; (with_reducible refine (laws_markLog.calls kj6 t402 (fun k_ => some k_ = (.slice Ao19 t403.length co19 : Value).ownBlock) (.slice Ao19 t403.length co19) t403 (fun k_ => some k_ = (.slice Ao20 t406.length co20 : Value).ownBlock) (.slice Ao20 t406.length co20) t406 1 t412 t413 t414 w _ ?side1 ?side2 ?side3 A36.out).mono ?_); (case side1 => repeat (first | (with_reducible first | exact HB.out | apply below_alloc | apply pw_below_drewN | apply below_drew1 | refine below_set ?_ GE977.out | refine below_set ?_ GE401.out | refine below_set ?_ GE410.out) | exact HB.out)); (case side2 => exact Kd.R_tight rfl HO_411001.out); (case side3 => exact Kd.R_tight rfl HO_411002.out); rintro e w45 ⟨rfl, hy0, hy1, hb, hkp⟩; refine ⟨_, rfl, ?_⟩; have n0_ := ak (Kd.R_mono (ok' := fun k_ => some k_ ≠ (.slice Ao19 t403.length co19 : Value).ownBlock) (Kd.R_keptB ((Kd.R_apart' HO_402001.out (Kd.R_typed HO_411002.out) (by decide))) hkp (fun k_ hk_ hs_ => Or.elim hs_ (fun e_ => (hk_.1) e_) (fun e_ => (hk_.2) e_))) (fun k_ hk_ => hk_.1.1)); have n1_ := ak (Kd.R_mono (ok' := fun k_ => some k_ ≠ (.slice Ao20 t406.length co20 : Value).ownBlock) (Kd.R_keptB ((Kd.R_apart' HO_402002.out (Kd.R_typed HO_411001.out) (by decide))) hkp (fun k_ hk_ hs_ => Or.elim hs_ (fun e_ => (hk_.2) e_) (fun e_ => (hk_.1) e_))) (fun k_ hk_ => hk_.1.1)); have n2_ := ak (Kd.R_reok rfl hy0 (fun k_ e_ => HO_411001.out.1 k_ e_)); have n3_ := ak (Kd.R_reok rfl hy1 (fun k_ e_ => HO_411002.out.1 k_ e_)); have n4_ := ak (blk_kept (zK BK977.out) hkp (fun hs_ => Or.elim hs_ (fun e_ => (fun e_ => (Kd.R_ne HO_411001.out BK977.out (by decide)) e_) e_) (fun e_ => (fun e_ => (Kd.R_ne HO_411002.out BK977.out (by decide)) e_) e_))); have n5_ := ak (blk_kept (zK BK401.out) hkp (fun hs_ => Or.elim hs_ (fun e_ => (fun e_ => (Kd.R_ne HO_411001.out BK401.out (by decide)) e_) e_) (fun e_ => (fun e_ => (Kd.R_ne HO_411002.out BK401.out (by decide)) e_) e_))); have n6_ := ak (blk_kept (zK BK410.out) hkp (fun hs_ => Or.elim hs_ (fun e_ => (fun e_ => (Kd.R_ne HO_411001.out BK410.out (by decide)) e_) e_) (fun e_ => (fun e_ => (Kd.R_ne HO_411002.out BK410.out (by decide)) e_) e_))); have n7_ := ak (hb); clear HO_402001 HO_402002 HO_411001 HO_411002 BK977 BK401 BK410 HB; have HO_402001 := n0_; have HO_402002 := n1_; have HO_411001 := n2_; have HO_411002 := n3_; have BK977 := n4_; have BK401 := n5_; have BK410 := n6_; have HB := n7_; clear n0_ n1_ n2_ n3_ n4_ n5_ n6_ n7_; (try clear hb); (try clear hkp); (try clear hy0); (try clear hy1); have hcz46_0 : w45.cell? ⟨gb410, 0, none⟩ = some (.int .i64 t402) := (blk_cell BK410.out 0).trans rfl; have hcz46_1 : w45.cell? ⟨gb410, 1, none⟩ = some (.slice Ao19 t403.length co19) := (blk_cell BK410.out 1).trans rfl; have hcz46_2 : w45.cell? ⟨gb410, 2, none⟩ = some (.slice Ao20 t406.length co20) := (blk_cell BK410.out 2).trans rfl; have hfz46_0 := blk_frozen BK410.out 0; have hfz46_1 := blk_frozen BK410.out 1; have hfz46_2 := blk_frozen BK410.out 2) | ((with_reducible refine gate_callee (f := 18) rfl ?_); refine goesL_ (some 38) rfl rfl Tryd.func18 (by kernel_rfl) rfl #[.agg #[.int .i64 t402, .slice Ao19 t413.length co19, .slice Ao20 t414.length co20], .int .i64 1] rfl (by (try simp only [List.map_toArray, List.map_cons, List.map_nil]); first | done | (rw [show t413.length = t403.length from (Kd.R_reads' HO_411001.out).1.symm, show t414.length = t406.length from (Kd.R_reads' HO_411002.out).1.symm] <;> rfl) | rfl | (simp only [List.length_drop, List.length_take]; rfl)) ?_; (with_reducible refine (laws_heldLog.calls kj6 t402 _ _ t413 _ _ t414 1 t415 _ ?side1 ?side2 ?side3 ?side4 A37.out).mono ?_); (case side1 => exact zC (Kd.R_reads' HO_411001.out).2.2); (case side2 => rw [show t413.length = t403.length from (Kd.R_reads' HO_411001.out).1.symm]; exact (Kd.R_reads' HO_411001.out).2.1); (case side3 => exact zC (Kd.R_reads' HO_411002.out).2.2); (case side4 => rw [show t414.length = t406.length from (Kd.R_reads' HO_411002.out).1.symm]; exact (Kd.R_reads' HO_411002.out).2.1); rintro e w47 ⟨rfl, hb⟩; refine ⟨_, rfl, ?_⟩; have n0_ := ak (Kd.R_below (zR HO_402001.out) hb); have n1_ := ak (Kd.R_below (zR HO_402002.out) hb); have n2_ := ak (Kd.R_below (zR HO_411001.out) hb); have n3_ := ak (Kd.R_below (zR HO_411002.out) hb); have n4_ := ak (blk_below (g := 0) (o := .cells #[.int .i64 a977_0] 3 (0, 0)) (zK BK977.out) hb); have n5_ := ak (blk_below (g := gb401) (o := .cells #[.int .i64 t393, .slice Ao12 t394.length co12, .slice Ao13 t397.length co13] 39 (0, 0)) (zK BK401.out) hb); have n6_ := ak (blk_below (g := gb410) (o := .cells #[.int .i64 t402, .slice Ao19 t403.length co19, .slice Ao20 t406.length co20] 39 (0, 0)) (zK BK410.out) hb); have n7_ := ak (below_step (by repeat (first | (with_reducible first | exact HB.out | apply below_alloc | apply pw_below_drewN | apply below_drew1 | refine below_set ?_ GE977.out | refine below_set ?_ GE401.out | refine below_set ?_ GE410.out) | exact HB.out)) hb); clear HO_402001 HO_402002 HO_411001 HO_411002 BK977 BK401 BK410 HB; have HO_402001 := n0_; have HO_402002 := n1_; have HO_411001 := n2_; have HO_411002 := n3_; have BK977 := n4_; have BK401 := n5_; have BK410 := n6_; have HB := n7_; clear n0_ n1_ n2_ n3_ n4_ n5_ n6_ n7_; (try clear hb); (try clear hb2); (try clear hk); (try clear hi)) | ((with_reducible refine gate_callee (f := 15) rfl ?_); refine goesL_ (some 46) rfl rfl Tryd.func15 (by kernel_rfl) rfl #[.string a0] rfl (by (try simp only [List.map_toArray, List.map_cons, List.map_nil]); first | done | rfl | (simp only [List.length_drop, List.length_take]; rfl)) ?_; (with_reducible refine (impl_ReadLog.calls kj6 a0 a977_0  t416 t417 t420 t423 _ ?side1 ?side2 A40.out).mono ?_); (case side1 => exact (by first | exact BK977.out | ((with_reducible repeat (first | refine blk_drewN ?_ _ | refine blk_drew ?_ | refine blk_alloc ?_ _)); exact BK977.out))); (case side2 => exact Go.Proofs.YtchnklikeimpiaaDoor.H.tab10_below HGT.out (by repeat (first | (with_reducible first | exact HB.out | apply below_alloc | apply pw_below_drewN | apply below_drew1 | refine below_set ?_ GE977.out | refine below_set ?_ GE401.out | refine below_set ?_ GE410.out) | exact HB.out))); rintro e w48 ⟨v418, v421, rfl, ho0, ho1, hb⟩; refine ⟨_, rfl, ?_⟩; have n0_ := ak (Kd.R_elder' (zR HO_402001.out) (Kd.R_base ho0) hb); have n1_ := ak (Kd.R_elder' (zR HO_402002.out) (Kd.R_base ho1) hb); have n2_ := ak (Kd.R_elder' (zR HO_411001.out) (Kd.R_base ho0) hb); have n3_ := ak (Kd.R_elder' (zR HO_411002.out) (Kd.R_base ho1) hb); have n4_ := ak (Kd.R_lower (Kd.R_new' (Kd.R_new' ho0 (Kd.R_lt (zR HO_402001.out))) (Kd.R_lt (zR HO_411001.out))) (below_size (by repeat (first | (with_reducible first | exact HB.out | apply below_alloc | apply pw_below_drewN | apply below_drew1 | refine below_set ?_ GE977.out | refine below_set ?_ GE401.out | refine below_set ?_ GE410.out) | exact HB.out)))); have n5_ := ak (Kd.R_lower (Kd.R_new' (Kd.R_new' ho1 (Kd.R_lt (zR HO_402002.out))) (Kd.R_lt (zR HO_411002.out))) (below_size (by repeat (first | (with_reducible first | exact HB.out | apply below_alloc | apply pw_below_drewN | apply below_drew1 | refine below_set ?_ GE977.out | refine below_set ?_ GE401.out | refine below_set ?_ GE410.out) | exact HB.out)))); have n6_ := ak (blk_below (g := 0) (o := .cells #[.int .i64 a977_0] 3 (0, 0)) (zK BK977.out) hb); have n7_ := ak (blk_below (g := gb401) (o := .cells #[.int .i64 t393, .slice Ao12 t394.length co12, .slice Ao13 t397.length co13] 39 (0, 0)) (zK BK401.out) hb); have n8_ := ak (blk_below (g := gb410) (o := .cells #[.int .i64 t402, .slice Ao19 t403.length co19, .slice Ao20 t406.length co20] 39 (0, 0)) (zK BK410.out) hb); have n9_ := ak (below_step (by repeat (first | (with_reducible first | exact HB.out | apply below_alloc | apply pw_below_drewN | apply below_drew1 | refine below_set ?_ GE977.out | refine below_set ?_ GE401.out | refine below_set ?_ GE410.out) | exact HB.out)) hb); clear HO_402001 HO_402002 HO_411001 HO_411002 BK977 BK401 BK410 HB; have HO_402001 := n0_; have HO_402002 := n1_; have HO_411001 := n2_; have HO_411002 := n3_; have HO419 := n4_; have HO422 := n5_; have BK977 := n6_; have BK401 := n7_; have BK410 := n8_; have HB := n9_; clear n0_ n1_ n2_ n3_ n4_ n5_ n6_ n7_ n8_ n9_; (try clear hb); (try clear hb2); (try clear hk); (try clear hi); (try clear ho0); (try clear ho1)) | ((with_reducible refine gate_dst (N := 9) rfl ?_); refine box_event ?hg (N := 9) ?hd (cs := #[.int .i64 0, .slice none 0 0, .slice none 0 0]) (t := 39) ?hr ?_; (case hd => rfl); (case hg => rfl); (case hr => first | (go_simp; done) | (go_simp; rfl)); intro gb424 hg w49 hbox hb; have n0_ := ak (Kd.R_below (zR HO_402001.out) hb); have n1_ := ak (Kd.R_below (zR HO_402002.out) hb); have n2_ := ak (Kd.R_below (zR HO_411001.out) hb); have n3_ := ak (Kd.R_below (zR HO_411002.out) hb); have n4_ := ak (Kd.R_below (zR HO419.out) hb); have n5_ := ak (Kd.R_below (zR HO422.out) hb); have n6_ := ak (blk_below (g := 0) (o := .cells #[.int .i64 a977_0] 3 (0, 0)) (zK BK977.out) hb); have n7_ := ak (blk_below (g := gb401) (o := .cells #[.int .i64 t393, .slice Ao12 t394.length co12, .slice Ao13 t397.length co13] 39 (0, 0)) (zK BK401.out) hb); have n8_ := ak (blk_below (g := gb410) (o := .cells #[.int .i64 t402, .slice Ao19 t403.length co19, .slice Ao20 t406.length co20] 39 (0, 0)) (zK BK410.out) hb); have n9_ := ak (below_step (by repeat (first | (with_reducible first | exact HB.out | apply below_alloc | apply pw_below_drewN | apply below_drew1 | refine below_set ?_ GE977.out | refine below_set ?_ GE401.out | refine below_set ?_ GE410.out) | exact HB.out)) hb); have n10_ := ak (hbox); have n11_ := ak ((by rw [hg]; exact (below_size (by repeat (first | (with_reducible first | exact HB.out | apply below_alloc | apply pw_below_drewN | apply below_drew1 | refine below_set ?_ GE977.out | refine below_set ?_ GE401.out | refine below_set ?_ GE410.out) | exact HB.out))) : w.heap.size ≤ gb424)); have n12_ := ak ((by rw [hg]; exact (below_size (by repeat (first | (with_reducible first | exact HB.out | apply below_alloc | apply pw_below_drewN | apply below_drew1 | refine below_set ?_ GE977.out | refine below_set ?_ GE401.out | refine below_set ?_ GE410.out) | exact HB.out))) : w.heap.size ≤ gb424)); have n13_ := ak ((by rw [hg]; exact Nat.ne_of_lt (blk_lt (g := 0) (o := .cells #[.int .i64 a977_0] 3 (0, 0)) (zK BK977.out)) : 0 ≠ gb424)); have n14_ := ak ((by rw [hg]; exact Nat.ne_of_gt (blk_lt (g := 0) (o := .cells #[.int .i64 a977_0] 3 (0, 0)) (zK BK977.out)) : gb424 ≠ 0)); have n15_ := ak ((by rw [hg]; exact Nat.ne_of_lt (blk_lt (g := gb401) (o := .cells #[.int .i64 t393, .slice Ao12 t394.length co12, .slice Ao13 t397.length co13] 39 (0, 0)) (zK BK401.out)) : gb401 ≠ gb424)); have n16_ := ak ((by rw [hg]; exact Nat.ne_of_gt (blk_lt (g := gb401) (o := .cells #[.int .i64 t393, .slice Ao12 t394.length co12, .slice Ao13 t397.length co13] 39 (0, 0)) (zK BK401.out)) : gb424 ≠ gb401)); have n17_ := ak ((by rw [hg]; exact Nat.ne_of_lt (blk_lt (g := gb410) (o := .cells #[.int .i64 t402, .slice Ao19 t403.length co19, .slice Ao20 t406.length co20] 39 (0, 0)) (zK BK410.out)) : gb410 ≠ gb424)); have n18_ := ak ((by rw [hg]; exact Nat.ne_of_gt (blk_lt (g := gb410) (o := .cells #[.int .i64 t402, .slice Ao19 t403.length co19, .slice Ao20 t406.length co20] 39 (0, 0)) (zK BK410.out)) : gb424 ≠ gb410)); clear HO_402001 HO_402002 HO_411001 HO_411002 HO419 HO422 BK977 BK401 BK410 HB; have HO_402001 := n0_; have HO_402002 := n1_; have HO_411001 := n2_; have HO_411002 := n3_; have HO419 := n4_; have HO422 := n5_; have BK977 := n6_; have BK401 := n7_; have BK410 := n8_; have HB := n9_; have BK424 := n10_; have GW424 := n11_; have GE424 := n12_; have NB977_424 := n13_; have NB424_977 := n14_; have NB401_424 := n15_; have NB424_401 := n16_; have NB410_424 := n17_; have NB424_410 := n18_; clear n0_ n1_ n2_ n3_ n4_ n5_ n6_ n7_ n8_ n9_ n10_ n11_ n12_ n13_ n14_ n15_ n16_ n17_ n18_; clear hb hbox hg; have hnb50 := NB424_977.out; have hnc50 := NB977_424.out; have hnb51 := NB424_401.out; have hnc51 := NB401_424.out; have hnb52 := NB424_410.out; have hnc52 := NB410_424.out; have hcz53_0 : w49.cell? ⟨gb424, 0, none⟩ = some (.int .i64 0) := (blk_cell BK424.out 0).trans rfl; have hcz53_1 : w49.cell? ⟨gb424, 1, none⟩ = some (.slice none 0 0) := (blk_cell BK424.out 1).trans rfl; have hcz53_2 : w49.cell? ⟨gb424, 2, none⟩ = some (.slice none 0 0) := (blk_cell BK424.out 2).trans rfl; have hfz53_0 := blk_frozen BK424.out 0; have hfz53_1 := blk_frozen BK424.out 1; have hfz53_2 := blk_frozen BK424.out 2; obtain ⟨Ao54, co54, eo54⟩ := Kd.R_slice HO419.out; subst eo54; obtain ⟨Ao55, co55, eo55⟩ := Kd.R_slice HO422.out; subst eo55))
 (try simp only [Act.put, zs, zz, zk])
 go_cut [57] (fun v57 wc => ∃ (kq : Nat) (x57_40 : Bool), v57 = .bool x57_40 ∧ Aside0 (laws_FnExactReadLog.j1 kq t412 x57_40 t402 t413 t414 = some r) ∧ Aside0 (kq ≤ kj6) ∧ Aside0 (Kd.R (Kd.int .u16) 62 wc w.heap.size (fun k_ => some k_ ≠ ((.slice Ao19 t403.length co19) : Value).ownBlock ∧ some k_ ≠ ((.slice Ao54 t417.length co54) : Value).ownBlock) (.slice Ao12 t394.length co12) t394) ∧ Aside0 (Kd.R (Kd.int .i16) 29 wc w.heap.size (fun k_ => some k_ ≠ ((.slice Ao20 t406.length co20) : Value).ownBlock ∧ some k_ ≠ ((.slice Ao55 t420.length co55) : Value).ownBlock) (.slice Ao13 t397.length co13) t397) ∧ Aside0 (Kd.R (Kd.int .u16) 62 wc w.heap.size (fun k_ => some k_ ≠ ((.slice Ao12 t394.length co12) : Value).ownBlock ∧ some k_ ≠ ((.slice Ao54 t417.length co54) : Value).ownBlock) (.slice Ao19 t403.length co19) t413) ∧ Aside0 (Kd.R (Kd.int .i16) 29 wc w.heap.size (fun k_ => some k_ ≠ ((.slice Ao13 t397.length co13) : Value).ownBlock ∧ some k_ ≠ ((.slice Ao55 t420.length co55) : Value).ownBlock) (.slice Ao20 t406.length co20) t414) ∧ Aside0 (Kd.R (Kd.int .u16) 62 wc w.heap.size (fun k_ => some k_ ≠ ((.slice Ao12 t394.length co12) : Value).ownBlock ∧ some k_ ≠ ((.slice Ao19 t403.length co19) : Value).ownBlock) (.slice Ao54 t417.length co54) t417) ∧ Aside0 (Kd.R (Kd.int .i16) 29 wc w.heap.size (fun k_ => some k_ ≠ ((.slice Ao13 t397.length co13) : Value).ownBlock ∧ some k_ ≠ ((.slice Ao20 t406.length co20) : Value).ownBlock) (.slice Ao55 t420.length co55) t420) ∧ Aside0 (wc.heap[0]? = some (.cells #[.int .i64 a977_0] 3 (0, 0))) ∧ Aside0 (wc.heap[gb401]? = some (.cells #[.int .i64 t393, (.slice Ao12 t394.length co12), (.slice Ao13 t397.length co13)] 39 (0, 0))) ∧ Aside0 (wc.heap[gb410]? = some (.cells #[.int .i64 t402, (.slice Ao19 t403.length co19), (.slice Ao20 t406.length co20)] 39 (0, 0))) ∧ Aside0 (wc.heap[gb424]? = some (.cells #[.int .i64 t416, (.slice Ao54 t417.length co54), (.slice Ao55 t420.length co55)] 39 (0, 0))) ∧ Aside0 (Below w.heap.size w wc))
 case first => (
 have H := HC41.out
 clear HC41
 replace H := Option.bind_eq_some_iff.mp H
 obtain ⟨t425, A560, H⟩ := H
 replace H : (if t425 = true then (laws_FnExactReadLog.j1 kj6 t412 (t423 != t400) t402 t413 t414) else (laws_FnExactReadLog.j1 kj6 t412 true t402 t413 t414)) = some r := H
 have A56 := ak A560
 clear A560
 by_cases c57 : t425 = true
 {
 subst c57
 have H1 : (laws_FnExactReadLog.j1 kj6 t412 (t423 != t400) t402 t413 t414) = some r := by rw [if_pos rfl] at H; exact H
 clear H
 have H := H1
 clear H1
 have H' := ak H
 clear H
 have hnb58 := NB424_977.out
 have hnc58 := NB977_424.out
 have hnb59 := NB424_401.out
 have hnc59 := NB401_424.out
 have hnb60 := NB424_410.out
 have hnc60 := NB410_424.out
 have hcz61_0 : w49.cell? ⟨gb424, 0, none⟩ = some (.int .i64 0) := (blk_cell BK424.out 0).trans rfl
 have hcz61_1 : w49.cell? ⟨gb424, 1, none⟩ = some (.slice none 0 0) := (blk_cell BK424.out 1).trans rfl
 have hcz61_2 : w49.cell? ⟨gb424, 2, none⟩ = some (.slice none 0 0) := (blk_cell BK424.out 2).trans rfl
 have hfz61_0 := blk_frozen BK424.out 0
 have hfz61_1 := blk_frozen BK424.out 1
 have hfz61_2 := blk_frozen BK424.out 2
 have hnb62 := NB401_977.out
 have hnc62 := NB977_401.out
 have hnb63 := NB401_410.out
 have hnc63 := NB410_401.out
 have hcz64_0 : w49.cell? ⟨gb401, 0, none⟩ = some (.int .i64 t393) := (blk_cell BK401.out 0).trans rfl
 have hcz64_1 : w49.cell? ⟨gb401, 1, none⟩ = some (.slice Ao12 t394.length co12) := (blk_cell BK401.out 1).trans rfl
 have hcz64_2 : w49.cell? ⟨gb401, 2, none⟩ = some (.slice Ao13 t397.length co13) := (blk_cell BK401.out 2).trans rfl
 have hfz64_0 := blk_frozen BK401.out 0
 have hfz64_1 := blk_frozen BK401.out 1
 have hfz64_2 := blk_frozen BK401.out 2
 go_wp2_with (first | ((with_reducible refine gate_callee (f := 16) rfl ?_); refine goesL_ (some 51) rfl rfl Tryd.func16 (by kernel_rfl) rfl #[.agg #[.int .i64 t416, .slice Ao54 t417.length co54, .slice Ao55 t420.length co55], .agg #[.int .i64 t393, .slice Ao12 t394.length co12, .slice Ao13 t397.length co13]] rfl (by (try simp only [List.map_toArray, List.map_cons, List.map_nil]); first | done | rfl | (simp only [List.length_drop, List.length_take]; rfl)) ?_; (with_reducible refine (laws_eqLog.calls kj6 t416 _ _ t417 _ _ t420 t393 _ _ t394 _ _ t397 true _ ?side1 ?side2 ?side3 ?side4 ?side5 ?side6 ?side7 ?side8 A56.out).mono ?_); (case side1 => refine (Kd.R_reads' (e := 62) (base := w.heap.size) (ok := fun k_ => ((True ∧ some k_ ≠ (.slice Ao12 t394.length co12 : Value).ownBlock) ∧ some k_ ≠ (.slice Ao19 t403.length co19 : Value).ownBlock)) (n := t417.length) (c := co54) ?_).2.2; exact (by (with_reducible repeat (first | apply Kd.R_alloc | apply Kd.R_drewN | apply Kd.R_drew)); exact (Kd.R_mono (Kd.R_far (p := ⟨gb424, 2, none⟩) (Kd.R_far (p := ⟨gb424, 1, none⟩) (Kd.R_far (p := ⟨gb424, 0, none⟩) (Kd.R_types HO419.out BK424.out (by decide)) (fun _ hk => hk.2) (.int .i64 t416)) (fun _ hk => hk.2) (.slice Ao54 t417.length co54)) (fun _ hk => hk.2) (.slice Ao55 t420.length co55)) (fun _ h_ => h_.1)))); (case side2 => exact (Kd.R_reads' HO419.out).2.1); (case side3 => refine (Kd.R_reads' (e := 29) (base := w.heap.size) (ok := fun k_ => ((True ∧ some k_ ≠ (.slice Ao13 t397.length co13 : Value).ownBlock) ∧ some k_ ≠ (.slice Ao20 t406.length co20 : Value).ownBlock)) (n := t420.length) (c := co55) ?_).2.2; exact (by (with_reducible repeat (first | apply Kd.R_alloc | apply Kd.R_drewN | apply Kd.R_drew)); exact (Kd.R_mono (Kd.R_far (p := ⟨gb424, 2, none⟩) (Kd.R_far (p := ⟨gb424, 1, none⟩) (Kd.R_far (p := ⟨gb424, 0, none⟩) (Kd.R_types HO422.out BK424.out (by decide)) (fun _ hk => hk.2) (.int .i64 t416)) (fun _ hk => hk.2) (.slice Ao54 t417.length co54)) (fun _ hk => hk.2) (.slice Ao55 t420.length co55)) (fun _ h_ => h_.1)))); (case side4 => exact (Kd.R_reads' HO422.out).2.1); (case side5 => refine (Kd.R_reads' (e := 62) (base := w.heap.size) (ok := fun k_ => (some k_ ≠ (.slice Ao19 t403.length co19 : Value).ownBlock ∧ some k_ ≠ (.slice Ao54 t417.length co54 : Value).ownBlock)) (n := t394.length) (c := co12) ?_).2.2; exact (by (with_reducible repeat (first | apply Kd.R_alloc | apply Kd.R_drewN | apply Kd.R_drew)); exact (Kd.R_mono (Kd.R_far (p := ⟨gb424, 2, none⟩) (Kd.R_far (p := ⟨gb424, 1, none⟩) (Kd.R_far (p := ⟨gb424, 0, none⟩) (Kd.R_types HO_402001.out BK424.out (by decide)) (fun _ hk => hk.2) (.int .i64 t416)) (fun _ hk => hk.2) (.slice Ao54 t417.length co54)) (fun _ hk => hk.2) (.slice Ao55 t420.length co55)) (fun _ h_ => h_.1)))); (case side6 => exact (Kd.R_reads' HO_402001.out).2.1); (case side7 => refine (Kd.R_reads' (e := 29) (base := w.heap.size) (ok := fun k_ => (some k_ ≠ (.slice Ao20 t406.length co20 : Value).ownBlock ∧ some k_ ≠ (.slice Ao55 t420.length co55 : Value).ownBlock)) (n := t397.length) (c := co13) ?_).2.2; exact (by (with_reducible repeat (first | apply Kd.R_alloc | apply Kd.R_drewN | apply Kd.R_drew)); exact (Kd.R_mono (Kd.R_far (p := ⟨gb424, 2, none⟩) (Kd.R_far (p := ⟨gb424, 1, none⟩) (Kd.R_far (p := ⟨gb424, 0, none⟩) (Kd.R_types HO_402002.out BK424.out (by decide)) (fun _ hk => hk.2) (.int .i64 t416)) (fun _ hk => hk.2) (.slice Ao54 t417.length co54)) (fun _ hk => hk.2) (.slice Ao55 t420.length co55)) (fun _ h_ => h_.1)))); (case side8 => exact (Kd.R_reads' HO_402002.out).2.1); rintro e w65 ⟨rfl, hb⟩; refine ⟨_, rfl, ?_⟩; have n0_ := ak (Kd.R_below (by (with_reducible repeat (first | apply Kd.R_alloc | apply Kd.R_drewN | apply Kd.R_drew)); exact (Kd.R_mono (Kd.R_far (p := ⟨gb424, 2, none⟩) (Kd.R_far (p := ⟨gb424, 1, none⟩) (Kd.R_far (p := ⟨gb424, 0, none⟩) (Kd.R_types HO_402001.out BK424.out (by decide)) (fun _ hk => hk.2) (.int .i64 t416)) (fun _ hk => hk.2) (.slice Ao54 t417.length co54)) (fun _ hk => hk.2) (.slice Ao55 t420.length co55)) (fun _ h_ => h_.1))) hb); have n1_ := ak (Kd.R_below (by (with_reducible repeat (first | apply Kd.R_alloc | apply Kd.R_drewN | apply Kd.R_drew)); exact (Kd.R_mono (Kd.R_far (p := ⟨gb424, 2, none⟩) (Kd.R_far (p := ⟨gb424, 1, none⟩) (Kd.R_far (p := ⟨gb424, 0, none⟩) (Kd.R_types HO_402002.out BK424.out (by decide)) (fun _ hk => hk.2) (.int .i64 t416)) (fun _ hk => hk.2) (.slice Ao54 t417.length co54)) (fun _ hk => hk.2) (.slice Ao55 t420.length co55)) (fun _ h_ => h_.1))) hb); have n2_ := ak (Kd.R_below (by (with_reducible repeat (first | apply Kd.R_alloc | apply Kd.R_drewN | apply Kd.R_drew)); exact (Kd.R_mono (Kd.R_far (p := ⟨gb424, 2, none⟩) (Kd.R_far (p := ⟨gb424, 1, none⟩) (Kd.R_far (p := ⟨gb424, 0, none⟩) (Kd.R_types HO_411001.out BK424.out (by decide)) (fun _ hk => hk.2) (.int .i64 t416)) (fun _ hk => hk.2) (.slice Ao54 t417.length co54)) (fun _ hk => hk.2) (.slice Ao55 t420.length co55)) (fun _ h_ => h_.1))) hb); have n3_ := ak (Kd.R_below (by (with_reducible repeat (first | apply Kd.R_alloc | apply Kd.R_drewN | apply Kd.R_drew)); exact (Kd.R_mono (Kd.R_far (p := ⟨gb424, 2, none⟩) (Kd.R_far (p := ⟨gb424, 1, none⟩) (Kd.R_far (p := ⟨gb424, 0, none⟩) (Kd.R_types HO_411002.out BK424.out (by decide)) (fun _ hk => hk.2) (.int .i64 t416)) (fun _ hk => hk.2) (.slice Ao54 t417.length co54)) (fun _ hk => hk.2) (.slice Ao55 t420.length co55)) (fun _ h_ => h_.1))) hb); have n4_ := ak (Kd.R_below (by (with_reducible repeat (first | apply Kd.R_alloc | apply Kd.R_drewN | apply Kd.R_drew)); exact (Kd.R_mono (Kd.R_far (p := ⟨gb424, 2, none⟩) (Kd.R_far (p := ⟨gb424, 1, none⟩) (Kd.R_far (p := ⟨gb424, 0, none⟩) (Kd.R_types HO419.out BK424.out (by decide)) (fun _ hk => hk.2) (.int .i64 t416)) (fun _ hk => hk.2) (.slice Ao54 t417.length co54)) (fun _ hk => hk.2) (.slice Ao55 t420.length co55)) (fun _ h_ => h_.1))) hb); have n5_ := ak (Kd.R_below (by (with_reducible repeat (first | apply Kd.R_alloc | apply Kd.R_drewN | apply Kd.R_drew)); exact (Kd.R_mono (Kd.R_far (p := ⟨gb424, 2, none⟩) (Kd.R_far (p := ⟨gb424, 1, none⟩) (Kd.R_far (p := ⟨gb424, 0, none⟩) (Kd.R_types HO422.out BK424.out (by decide)) (fun _ hk => hk.2) (.int .i64 t416)) (fun _ hk => hk.2) (.slice Ao54 t417.length co54)) (fun _ hk => hk.2) (.slice Ao55 t420.length co55)) (fun _ h_ => h_.1))) hb); have n6_ := ak (blk_below (g := 0) (o := .cells #[.int .i64 a977_0] 3 (0, 0)) (by (with_reducible repeat (first | refine blk_drewN ?_ _ | refine blk_drew ?_ | refine blk_alloc ?_ _)); refine blk_far ?_ NB977_424.out _; (with_reducible repeat (first | refine blk_drewN ?_ _ | refine blk_drew ?_ | refine blk_alloc ?_ _)); refine blk_far ?_ NB977_424.out _; (with_reducible repeat (first | refine blk_drewN ?_ _ | refine blk_drew ?_ | refine blk_alloc ?_ _)); refine blk_far ?_ NB977_424.out _; (with_reducible repeat (first | refine blk_drewN ?_ _ | refine blk_drew ?_ | refine blk_alloc ?_ _)); exact BK977.out) hb); have n7_ := ak (blk_below (g := gb401) (o := .cells #[.int .i64 t393, .slice Ao12 t394.length co12, .slice Ao13 t397.length co13] 39 (0, 0)) (by (with_reducible repeat (first | refine blk_drewN ?_ _ | refine blk_drew ?_ | refine blk_alloc ?_ _)); refine blk_far ?_ NB401_424.out _; (with_reducible repeat (first | refine blk_drewN ?_ _ | refine blk_drew ?_ | refine blk_alloc ?_ _)); refine blk_far ?_ NB401_424.out _; (with_reducible repeat (first | refine blk_drewN ?_ _ | refine blk_drew ?_ | refine blk_alloc ?_ _)); refine blk_far ?_ NB401_424.out _; (with_reducible repeat (first | refine blk_drewN ?_ _ | refine blk_drew ?_ | refine blk_alloc ?_ _)); exact BK401.out) hb); have n8_ := ak (blk_below (g := gb410) (o := .cells #[.int .i64 t402, .slice Ao19 t403.length co19, .slice Ao20 t406.length co20] 39 (0, 0)) (by (with_reducible repeat (first | refine blk_drewN ?_ _ | refine blk_drew ?_ | refine blk_alloc ?_ _)); refine blk_far ?_ NB410_424.out _; (with_reducible repeat (first | refine blk_drewN ?_ _ | refine blk_drew ?_ | refine blk_alloc ?_ _)); refine blk_far ?_ NB410_424.out _; (with_reducible repeat (first | refine blk_drewN ?_ _ | refine blk_drew ?_ | refine blk_alloc ?_ _)); refine blk_far ?_ NB410_424.out _; (with_reducible repeat (first | refine blk_drewN ?_ _ | refine blk_drew ?_ | refine blk_alloc ?_ _)); exact BK410.out) hb); have n9_ := ak (blk_below (g := gb424) (o := .cells #[.int .i64 t416, .slice Ao54 t417.length co54, .slice Ao55 t420.length co55] 39 (0, 0)) (by (with_reducible repeat (first | refine blk_drewN ?_ _ | refine blk_drew ?_ | refine blk_alloc ?_ _)); refine blk_put (cs := #[.int .i64 t416, .slice Ao54 t417.length co54, .slice none 0 0]) ?_ 2 _ rfl; (with_reducible repeat (first | refine blk_drewN ?_ _ | refine blk_drew ?_ | refine blk_alloc ?_ _)); refine blk_put (cs := #[.int .i64 t416, .slice none 0 0, .slice none 0 0]) ?_ 1 _ rfl; (with_reducible repeat (first | refine blk_drewN ?_ _ | refine blk_drew ?_ | refine blk_alloc ?_ _)); refine blk_put (cs := #[.int .i64 0, .slice none 0 0, .slice none 0 0]) ?_ 0 _ rfl; (with_reducible repeat (first | refine blk_drewN ?_ _ | refine blk_drew ?_ | refine blk_alloc ?_ _)); exact BK424.out) hb); have n10_ := ak (below_step (by repeat (first | (with_reducible first | exact HB.out | apply below_alloc | apply pw_below_drewN | apply below_drew1 | refine below_set ?_ GE977.out | refine below_set ?_ GE401.out | refine below_set ?_ GE410.out | refine below_set ?_ GE424.out) | exact HB.out)) hb); clear HO_402001 HO_402002 HO_411001 HO_411002 HO419 HO422 BK977 BK401 BK410 BK424 HB; have HO_402001 := n0_; have HO_402002 := n1_; have HO_411001 := n2_; have HO_411002 := n3_; have HO419 := n4_; have HO422 := n5_; have BK977 := n6_; have BK401 := n7_; have BK410 := n8_; have BK424 := n9_; have HB := n10_; clear n0_ n1_ n2_ n3_ n4_ n5_ n6_ n7_ n8_ n9_ n10_; (try clear hb); (try clear hb2); (try clear hk); (try clear hi)))
 go_meet
 case rel => exact ⟨_, ((t423 != t400)), (by first | rfl | (simp; done) | (simp [*]; done)), H', ⟨by have := HJ6.out; first | omega | exact Nat.le_refl _⟩, ⟨by (with_reducible repeat (first | apply Kd.R_alloc | apply Kd.R_drewN | apply Kd.R_drew)); exact HO_402001.out⟩, ⟨by (with_reducible repeat (first | apply Kd.R_alloc | apply Kd.R_drewN | apply Kd.R_drew)); exact HO_402002.out⟩, ⟨by (with_reducible repeat (first | apply Kd.R_alloc | apply Kd.R_drewN | apply Kd.R_drew)); exact HO_411001.out⟩, ⟨by (with_reducible repeat (first | apply Kd.R_alloc | apply Kd.R_drewN | apply Kd.R_drew)); exact HO_411002.out⟩, ⟨by (with_reducible repeat (first | apply Kd.R_alloc | apply Kd.R_drewN | apply Kd.R_drew)); exact Kd.R_mono HO419.out (fun _ hk => ⟨hk.1.2, hk.2⟩)⟩, ⟨by (with_reducible repeat (first | apply Kd.R_alloc | apply Kd.R_drewN | apply Kd.R_drew)); exact Kd.R_mono HO422.out (fun _ hk => ⟨hk.1.2, hk.2⟩)⟩, ⟨by (with_reducible repeat (first | refine blk_drewN ?_ _ | refine blk_drew ?_ | refine blk_alloc ?_ _)); exact BK977.out⟩, ⟨by (with_reducible repeat (first | refine blk_drewN ?_ _ | refine blk_drew ?_ | refine blk_alloc ?_ _)); exact BK401.out⟩, ⟨by (with_reducible repeat (first | refine blk_drewN ?_ _ | refine blk_drew ?_ | refine blk_alloc ?_ _)); exact BK410.out⟩, ⟨by (with_reducible repeat (first | refine blk_drewN ?_ _ | refine blk_drew ?_ | refine blk_alloc ?_ _)); exact BK424.out⟩, ⟨by repeat (first | (with_reducible first | exact HB.out | apply below_alloc | apply pw_below_drewN | apply below_drew1 | refine below_set ?_ GE977.out | refine below_set ?_ GE401.out | refine below_set ?_ GE410.out | refine below_set ?_ GE424.out) | exact HB.out)⟩⟩
 }
 {
 replace c57 := Bool.eq_false_iff.mpr c57
 subst c57
 have H1 : (laws_FnExactReadLog.j1 kj6 t412 true t402 t413 t414) = some r := by rw [if_neg (show ¬ (false = true) by decide)] at H; exact H
 clear H
 have H := H1
 clear H1
 have H' := ak H
 clear H
 have hnb66 := NB424_977.out
 have hnc66 := NB977_424.out
 have hnb67 := NB424_401.out
 have hnc67 := NB401_424.out
 have hnb68 := NB424_410.out
 have hnc68 := NB410_424.out
 have hcz69_0 : w49.cell? ⟨gb424, 0, none⟩ = some (.int .i64 0) := (blk_cell BK424.out 0).trans rfl
 have hcz69_1 : w49.cell? ⟨gb424, 1, none⟩ = some (.slice none 0 0) := (blk_cell BK424.out 1).trans rfl
 have hcz69_2 : w49.cell? ⟨gb424, 2, none⟩ = some (.slice none 0 0) := (blk_cell BK424.out 2).trans rfl
 have hfz69_0 := blk_frozen BK424.out 0
 have hfz69_1 := blk_frozen BK424.out 1
 have hfz69_2 := blk_frozen BK424.out 2
 have hnb70 := NB401_977.out
 have hnc70 := NB977_401.out
 have hnb71 := NB401_410.out
 have hnc71 := NB410_401.out
 have hcz72_0 : w49.cell? ⟨gb401, 0, none⟩ = some (.int .i64 t393) := (blk_cell BK401.out 0).trans rfl
 have hcz72_1 : w49.cell? ⟨gb401, 1, none⟩ = some (.slice Ao12 t394.length co12) := (blk_cell BK401.out 1).trans rfl
 have hcz72_2 : w49.cell? ⟨gb401, 2, none⟩ = some (.slice Ao13 t397.length co13) := (blk_cell BK401.out 2).trans rfl
 have hfz72_0 := blk_frozen BK401.out 0
 have hfz72_1 := blk_frozen BK401.out 1
 have hfz72_2 := blk_frozen BK401.out 2
 go_wp2_with (first | ((with_reducible refine gate_callee (f := 16) rfl ?_); refine goesL_ (some 51) rfl rfl Tryd.func16 (by kernel_rfl) rfl #[.agg #[.int .i64 t416, .slice Ao54 t417.length co54, .slice Ao55 t420.length co55], .agg #[.int .i64 t393, .slice Ao12 t394.length co12, .slice Ao13 t397.length co13]] rfl (by (try simp only [List.map_toArray, List.map_cons, List.map_nil]); first | done | rfl | (simp only [List.length_drop, List.length_take]; rfl)) ?_; (with_reducible refine (laws_eqLog.calls kj6 t416 _ _ t417 _ _ t420 t393 _ _ t394 _ _ t397 false _ ?side1 ?side2 ?side3 ?side4 ?side5 ?side6 ?side7 ?side8 A56.out).mono ?_); (case side1 => refine (Kd.R_reads' (e := 62) (base := w.heap.size) (ok := fun k_ => ((True ∧ some k_ ≠ (.slice Ao12 t394.length co12 : Value).ownBlock) ∧ some k_ ≠ (.slice Ao19 t403.length co19 : Value).ownBlock)) (n := t417.length) (c := co54) ?_).2.2; exact (by (with_reducible repeat (first | apply Kd.R_alloc | apply Kd.R_drewN | apply Kd.R_drew)); exact (Kd.R_mono (Kd.R_far (p := ⟨gb424, 2, none⟩) (Kd.R_far (p := ⟨gb424, 1, none⟩) (Kd.R_far (p := ⟨gb424, 0, none⟩) (Kd.R_types HO419.out BK424.out (by decide)) (fun _ hk => hk.2) (.int .i64 t416)) (fun _ hk => hk.2) (.slice Ao54 t417.length co54)) (fun _ hk => hk.2) (.slice Ao55 t420.length co55)) (fun _ h_ => h_.1)))); (case side2 => exact (Kd.R_reads' HO419.out).2.1); (case side3 => refine (Kd.R_reads' (e := 29) (base := w.heap.size) (ok := fun k_ => ((True ∧ some k_ ≠ (.slice Ao13 t397.length co13 : Value).ownBlock) ∧ some k_ ≠ (.slice Ao20 t406.length co20 : Value).ownBlock)) (n := t420.length) (c := co55) ?_).2.2; exact (by (with_reducible repeat (first | apply Kd.R_alloc | apply Kd.R_drewN | apply Kd.R_drew)); exact (Kd.R_mono (Kd.R_far (p := ⟨gb424, 2, none⟩) (Kd.R_far (p := ⟨gb424, 1, none⟩) (Kd.R_far (p := ⟨gb424, 0, none⟩) (Kd.R_types HO422.out BK424.out (by decide)) (fun _ hk => hk.2) (.int .i64 t416)) (fun _ hk => hk.2) (.slice Ao54 t417.length co54)) (fun _ hk => hk.2) (.slice Ao55 t420.length co55)) (fun _ h_ => h_.1)))); (case side4 => exact (Kd.R_reads' HO422.out).2.1); (case side5 => refine (Kd.R_reads' (e := 62) (base := w.heap.size) (ok := fun k_ => (some k_ ≠ (.slice Ao19 t403.length co19 : Value).ownBlock ∧ some k_ ≠ (.slice Ao54 t417.length co54 : Value).ownBlock)) (n := t394.length) (c := co12) ?_).2.2; exact (by (with_reducible repeat (first | apply Kd.R_alloc | apply Kd.R_drewN | apply Kd.R_drew)); exact (Kd.R_mono (Kd.R_far (p := ⟨gb424, 2, none⟩) (Kd.R_far (p := ⟨gb424, 1, none⟩) (Kd.R_far (p := ⟨gb424, 0, none⟩) (Kd.R_types HO_402001.out BK424.out (by decide)) (fun _ hk => hk.2) (.int .i64 t416)) (fun _ hk => hk.2) (.slice Ao54 t417.length co54)) (fun _ hk => hk.2) (.slice Ao55 t420.length co55)) (fun _ h_ => h_.1)))); (case side6 => exact (Kd.R_reads' HO_402001.out).2.1); (case side7 => refine (Kd.R_reads' (e := 29) (base := w.heap.size) (ok := fun k_ => (some k_ ≠ (.slice Ao20 t406.length co20 : Value).ownBlock ∧ some k_ ≠ (.slice Ao55 t420.length co55 : Value).ownBlock)) (n := t397.length) (c := co13) ?_).2.2; exact (by (with_reducible repeat (first | apply Kd.R_alloc | apply Kd.R_drewN | apply Kd.R_drew)); exact (Kd.R_mono (Kd.R_far (p := ⟨gb424, 2, none⟩) (Kd.R_far (p := ⟨gb424, 1, none⟩) (Kd.R_far (p := ⟨gb424, 0, none⟩) (Kd.R_types HO_402002.out BK424.out (by decide)) (fun _ hk => hk.2) (.int .i64 t416)) (fun _ hk => hk.2) (.slice Ao54 t417.length co54)) (fun _ hk => hk.2) (.slice Ao55 t420.length co55)) (fun _ h_ => h_.1)))); (case side8 => exact (Kd.R_reads' HO_402002.out).2.1); rintro e w73 ⟨rfl, hb⟩; refine ⟨_, rfl, ?_⟩; have n0_ := ak (Kd.R_below (by (with_reducible repeat (first | apply Kd.R_alloc | apply Kd.R_drewN | apply Kd.R_drew)); exact (Kd.R_mono (Kd.R_far (p := ⟨gb424, 2, none⟩) (Kd.R_far (p := ⟨gb424, 1, none⟩) (Kd.R_far (p := ⟨gb424, 0, none⟩) (Kd.R_types HO_402001.out BK424.out (by decide)) (fun _ hk => hk.2) (.int .i64 t416)) (fun _ hk => hk.2) (.slice Ao54 t417.length co54)) (fun _ hk => hk.2) (.slice Ao55 t420.length co55)) (fun _ h_ => h_.1))) hb); have n1_ := ak (Kd.R_below (by (with_reducible repeat (first | apply Kd.R_alloc | apply Kd.R_drewN | apply Kd.R_drew)); exact (Kd.R_mono (Kd.R_far (p := ⟨gb424, 2, none⟩) (Kd.R_far (p := ⟨gb424, 1, none⟩) (Kd.R_far (p := ⟨gb424, 0, none⟩) (Kd.R_types HO_402002.out BK424.out (by decide)) (fun _ hk => hk.2) (.int .i64 t416)) (fun _ hk => hk.2) (.slice Ao54 t417.length co54)) (fun _ hk => hk.2) (.slice Ao55 t420.length co55)) (fun _ h_ => h_.1))) hb); have n2_ := ak (Kd.R_below (by (with_reducible repeat (first | apply Kd.R_alloc | apply Kd.R_drewN | apply Kd.R_drew)); exact (Kd.R_mono (Kd.R_far (p := ⟨gb424, 2, none⟩) (Kd.R_far (p := ⟨gb424, 1, none⟩) (Kd.R_far (p := ⟨gb424, 0, none⟩) (Kd.R_types HO_411001.out BK424.out (by decide)) (fun _ hk => hk.2) (.int .i64 t416)) (fun _ hk => hk.2) (.slice Ao54 t417.length co54)) (fun _ hk => hk.2) (.slice Ao55 t420.length co55)) (fun _ h_ => h_.1))) hb); have n3_ := ak (Kd.R_below (by (with_reducible repeat (first | apply Kd.R_alloc | apply Kd.R_drewN | apply Kd.R_drew)); exact (Kd.R_mono (Kd.R_far (p := ⟨gb424, 2, none⟩) (Kd.R_far (p := ⟨gb424, 1, none⟩) (Kd.R_far (p := ⟨gb424, 0, none⟩) (Kd.R_types HO_411002.out BK424.out (by decide)) (fun _ hk => hk.2) (.int .i64 t416)) (fun _ hk => hk.2) (.slice Ao54 t417.length co54)) (fun _ hk => hk.2) (.slice Ao55 t420.length co55)) (fun _ h_ => h_.1))) hb); have n4_ := ak (Kd.R_below (by (with_reducible repeat (first | apply Kd.R_alloc | apply Kd.R_drewN | apply Kd.R_drew)); exact (Kd.R_mono (Kd.R_far (p := ⟨gb424, 2, none⟩) (Kd.R_far (p := ⟨gb424, 1, none⟩) (Kd.R_far (p := ⟨gb424, 0, none⟩) (Kd.R_types HO419.out BK424.out (by decide)) (fun _ hk => hk.2) (.int .i64 t416)) (fun _ hk => hk.2) (.slice Ao54 t417.length co54)) (fun _ hk => hk.2) (.slice Ao55 t420.length co55)) (fun _ h_ => h_.1))) hb); have n5_ := ak (Kd.R_below (by (with_reducible repeat (first | apply Kd.R_alloc | apply Kd.R_drewN | apply Kd.R_drew)); exact (Kd.R_mono (Kd.R_far (p := ⟨gb424, 2, none⟩) (Kd.R_far (p := ⟨gb424, 1, none⟩) (Kd.R_far (p := ⟨gb424, 0, none⟩) (Kd.R_types HO422.out BK424.out (by decide)) (fun _ hk => hk.2) (.int .i64 t416)) (fun _ hk => hk.2) (.slice Ao54 t417.length co54)) (fun _ hk => hk.2) (.slice Ao55 t420.length co55)) (fun _ h_ => h_.1))) hb); have n6_ := ak (blk_below (g := 0) (o := .cells #[.int .i64 a977_0] 3 (0, 0)) (by (with_reducible repeat (first | refine blk_drewN ?_ _ | refine blk_drew ?_ | refine blk_alloc ?_ _)); refine blk_far ?_ NB977_424.out _; (with_reducible repeat (first | refine blk_drewN ?_ _ | refine blk_drew ?_ | refine blk_alloc ?_ _)); refine blk_far ?_ NB977_424.out _; (with_reducible repeat (first | refine blk_drewN ?_ _ | refine blk_drew ?_ | refine blk_alloc ?_ _)); refine blk_far ?_ NB977_424.out _; (with_reducible repeat (first | refine blk_drewN ?_ _ | refine blk_drew ?_ | refine blk_alloc ?_ _)); exact BK977.out) hb); have n7_ := ak (blk_below (g := gb401) (o := .cells #[.int .i64 t393, .slice Ao12 t394.length co12, .slice Ao13 t397.length co13] 39 (0, 0)) (by (with_reducible repeat (first | refine blk_drewN ?_ _ | refine blk_drew ?_ | refine blk_alloc ?_ _)); refine blk_far ?_ NB401_424.out _; (with_reducible repeat (first | refine blk_drewN ?_ _ | refine blk_drew ?_ | refine blk_alloc ?_ _)); refine blk_far ?_ NB401_424.out _; (with_reducible repeat (first | refine blk_drewN ?_ _ | refine blk_drew ?_ | refine blk_alloc ?_ _)); refine blk_far ?_ NB401_424.out _; (with_reducible repeat (first | refine blk_drewN ?_ _ | refine blk_drew ?_ | refine blk_alloc ?_ _)); exact BK401.out) hb); have n8_ := ak (blk_below (g := gb410) (o := .cells #[.int .i64 t402, .slice Ao19 t403.length co19, .slice Ao20 t406.length co20] 39 (0, 0)) (by (with_reducible repeat (first | refine blk_drewN ?_ _ | refine blk_drew ?_ | refine blk_alloc ?_ _)); refine blk_far ?_ NB410_424.out _; (with_reducible repeat (first | refine blk_drewN ?_ _ | refine blk_drew ?_ | refine blk_alloc ?_ _)); refine blk_far ?_ NB410_424.out _; (with_reducible repeat (first | refine blk_drewN ?_ _ | refine blk_drew ?_ | refine blk_alloc ?_ _)); refine blk_far ?_ NB410_424.out _; (with_reducible repeat (first | refine blk_drewN ?_ _ | refine blk_drew ?_ | refine blk_alloc ?_ _)); exact BK410.out) hb); have n9_ := ak (blk_below (g := gb424) (o := .cells #[.int .i64 t416, .slice Ao54 t417.length co54, .slice Ao55 t420.length co55] 39 (0, 0)) (by (with_reducible repeat (first | refine blk_drewN ?_ _ | refine blk_drew ?_ | refine blk_alloc ?_ _)); refine blk_put (cs := #[.int .i64 t416, .slice Ao54 t417.length co54, .slice none 0 0]) ?_ 2 _ rfl; (with_reducible repeat (first | refine blk_drewN ?_ _ | refine blk_drew ?_ | refine blk_alloc ?_ _)); refine blk_put (cs := #[.int .i64 t416, .slice none 0 0, .slice none 0 0]) ?_ 1 _ rfl; (with_reducible repeat (first | refine blk_drewN ?_ _ | refine blk_drew ?_ | refine blk_alloc ?_ _)); refine blk_put (cs := #[.int .i64 0, .slice none 0 0, .slice none 0 0]) ?_ 0 _ rfl; (with_reducible repeat (first | refine blk_drewN ?_ _ | refine blk_drew ?_ | refine blk_alloc ?_ _)); exact BK424.out) hb); have n10_ := ak (below_step (by repeat (first | (with_reducible first | exact HB.out | apply below_alloc | apply pw_below_drewN | apply below_drew1 | refine below_set ?_ GE977.out | refine below_set ?_ GE401.out | refine below_set ?_ GE410.out | refine below_set ?_ GE424.out) | exact HB.out)) hb); clear HO_402001 HO_402002 HO_411001 HO_411002 HO419 HO422 BK977 BK401 BK410 BK424 HB; have HO_402001 := n0_; have HO_402002 := n1_; have HO_411001 := n2_; have HO_411002 := n3_; have HO419 := n4_; have HO422 := n5_; have BK977 := n6_; have BK401 := n7_; have BK410 := n8_; have BK424 := n9_; have HB := n10_; clear n0_ n1_ n2_ n3_ n4_ n5_ n6_ n7_ n8_ n9_ n10_; (try clear hb); (try clear hb2); (try clear hk); (try clear hi)))
 go_meet
 case rel => exact ⟨_, (true), (by first | rfl | (simp; done) | (simp [*]; done)), H', ⟨by have := HJ6.out; first | omega | exact Nat.le_refl _⟩, ⟨by (with_reducible repeat (first | apply Kd.R_alloc | apply Kd.R_drewN | apply Kd.R_drew)); exact HO_402001.out⟩, ⟨by (with_reducible repeat (first | apply Kd.R_alloc | apply Kd.R_drewN | apply Kd.R_drew)); exact HO_402002.out⟩, ⟨by (with_reducible repeat (first | apply Kd.R_alloc | apply Kd.R_drewN | apply Kd.R_drew)); exact HO_411001.out⟩, ⟨by (with_reducible repeat (first | apply Kd.R_alloc | apply Kd.R_drewN | apply Kd.R_drew)); exact HO_411002.out⟩, ⟨by (with_reducible repeat (first | apply Kd.R_alloc | apply Kd.R_drewN | apply Kd.R_drew)); exact Kd.R_mono HO419.out (fun _ hk => ⟨hk.1.2, hk.2⟩)⟩, ⟨by (with_reducible repeat (first | apply Kd.R_alloc | apply Kd.R_drewN | apply Kd.R_drew)); exact Kd.R_mono HO422.out (fun _ hk => ⟨hk.1.2, hk.2⟩)⟩, ⟨by (with_reducible repeat (first | refine blk_drewN ?_ _ | refine blk_drew ?_ | refine blk_alloc ?_ _)); exact BK977.out⟩, ⟨by (with_reducible repeat (first | refine blk_drewN ?_ _ | refine blk_drew ?_ | refine blk_alloc ?_ _)); exact BK401.out⟩, ⟨by (with_reducible repeat (first | refine blk_drewN ?_ _ | refine blk_drew ?_ | refine blk_alloc ?_ _)); exact BK410.out⟩, ⟨by (with_reducible repeat (first | refine blk_drewN ?_ _ | refine blk_drew ?_ | refine blk_alloc ?_ _)); exact BK424.out⟩, ⟨by repeat (first | (with_reducible first | exact HB.out | apply below_alloc | apply pw_below_drewN | apply below_drew1 | refine below_set ?_ GE977.out | refine below_set ?_ GE401.out | refine below_set ?_ GE410.out | refine below_set ?_ GE424.out) | exact HB.out)⟩⟩
 }
 )
 case rest => (
 clear HC41
 try clear c1
 try clear c2
 try clear p2
 try clear c3
 try clear c4
 try clear c4b0
 try clear c4b1
 try clear c5
 try clear c6
 try clear c7
 try clear hx9
 try clear c10
 try clear c14
 try clear c15
 try clear c16
 try clear c17
 try clear c18
 try clear c22
 try clear c23
 try clear c24
 try clear c26
 try clear c29
 try clear c30
 try clear c32
 try clear c35
 try clear c38
 try clear c38b0
 try clear c39
 try clear c39b0
 try clear c39b1
 try clear c42
 try clear c43
 try clear c50
 try clear c51
 try clear c52
 try clear c57
 try clear c58
 try clear c59
 try clear c60
 try clear c62
 try clear c63
 try clear c66
 try clear c67
 try clear c68
 try clear c70
 try clear c71
 try clear hcz11_0
 try clear hcz11_1
 try clear hcz11_2
 try clear hcz18_0
 try clear hcz18_1
 try clear hcz18_2
 try clear hcz25_0
 try clear hcz25_1
 try clear hcz25_2
 try clear hcz27_0
 try clear hcz27_1
 try clear hcz27_2
 try clear hcz31_0
 try clear hcz31_1
 try clear hcz31_2
 try clear hcz33_0
 try clear hcz33_1
 try clear hcz33_2
 try clear hcz44_0
 try clear hcz44_1
 try clear hcz44_2
 try clear hcz46_0
 try clear hcz46_1
 try clear hcz46_2
 try clear hcz53_0
 try clear hcz53_1
 try clear hcz53_2
 try clear hcz61_0
 try clear hcz61_1
 try clear hcz61_2
 try clear hcz64_0
 try clear hcz64_1
 try clear hcz64_2
 try clear hcz69_0
 try clear hcz69_1
 try clear hcz69_2
 try clear hcz72_0
 try clear hcz72_1
 try clear hcz72_2
 try clear hfz11_0
 try clear hfz11_1
 try clear hfz11_2
 try clear hfz18_0
 try clear hfz18_1
 try clear hfz18_2
 try clear hfz25_0
 try clear hfz25_1
 try clear hfz25_2
 try clear hfz27_0
 try clear hfz27_1
 try clear hfz27_2
 try clear hfz31_0
 try clear hfz31_1
 try clear hfz31_2
 try clear hfz33_0
 try clear hfz33_1
 try clear hfz33_2
 try clear hfz44_0
 try clear hfz44_1
 try clear hfz44_2
 try clear hfz46_0
 try clear hfz46_1
 try clear hfz46_2
 try clear hfz53_0
 try clear hfz53_1
 try clear hfz53_2
 try clear hfz61_0
 try clear hfz61_1
 try clear hfz61_2
 try clear hfz64_0
 try clear hfz64_1
 try clear hfz64_2
 try clear hfz69_0
 try clear hfz69_1
 try clear hfz69_2
 try clear hfz72_0
 try clear hfz72_1
 try clear hfz72_2
 try clear p2
 obtain ⟨kq, x57_40, rfl, HA, HJ40, HO_402001, HO_402002, HO_411001, HO_411002, HO_425001, HO_425002, BK977, BK401, BK410, BK424, HB⟩ := hcut
 have hl411001_40 := (Kd.R_reads' HO_411001.out).1
 rw [hl411001_40] at HO_411001
 (try simp only [hl411001_40])
 (try simp only [hl411001_40] at BK977)
 (try simp only [hl411001_40] at BK401)
 (try simp only [hl411001_40] at BK410)
 (try simp only [hl411001_40] at BK424)
 (try simp only [hl411001_40] at HO_402001)
 (try simp only [hl411001_40] at HO_402002)
 (try simp only [hl411001_40] at HO_411002)
 (try simp only [hl411001_40] at HO_425001)
 (try simp only [hl411001_40] at HO_425002)
 have hl411002_40 := (Kd.R_reads' HO_411002.out).1
 rw [hl411002_40] at HO_411002
 (try simp only [hl411002_40])
 (try simp only [hl411002_40] at BK977)
 (try simp only [hl411002_40] at BK401)
 (try simp only [hl411002_40] at BK410)
 (try simp only [hl411002_40] at BK424)
 (try simp only [hl411002_40] at HO_402001)
 (try simp only [hl411002_40] at HO_402002)
 (try simp only [hl411002_40] at HO_411001)
 (try simp only [hl411002_40] at HO_425001)
 (try simp only [hl411002_40] at HO_425002)
 cases kq with
 | zero => exact absurd HA.out (by simp [laws_FnExactReadLog.j1])
 | succ kj40 => (
 have H := HA.out
 clear HA
 simp only [laws_FnExactReadLog.j1] at H
 by_cases c74 : x57_40 = true
 {
 subst c74
 have H1 : (some false) = some r := by rw [if_pos rfl] at H; exact H
 clear H
 have H := H1
 clear H1
 exact absurd ((Option.some.inj H).trans HT.out) (by decide)
 }
 {
 replace c74 := Bool.eq_false_iff.mpr c74
 subst c74
 have H1 : ((laws_heldLog.f kj40 t402 t413 t414 1).bind fun t426 => (if t426 < 0 then (some false) else (if t426 = t412 then (some true) else (some false)))) = some r := by rw [if_neg (show ¬ (false = true) by decide)] at H; exact H
 clear H
 have H := H1
 clear H1
 replace H := Option.bind_eq_some_iff.mp H
 obtain ⟨t426, A750, H⟩ := H
 replace H : (if t426 < 0 then (some false) else (if t426 = t412 then (some true) else (some false))) = some r := H
 have A75 := ak A750
 clear A750
 by_cases c76 : t426 < 0
 · rw [if_pos c76] at H; have c76b0 : decide (t426 < 0) = true := decide_eq_true c76; clear c76; exact absurd ((Option.some.inj H).trans HT.out) (by decide)
 {
 rw [if_neg c76] at H
 have c76b0 : decide (t426 < 0) = false := decide_eq_false c76
 clear c76
 by_cases c77 : t426 = t412
 {
 rw [if_pos c77] at H
 have c77b0 : (t426 == t412) = true := beq_iff_eq.mpr c77
 have c77b1 : (t426 != t412) = false := bne_eq_false_iff_eq.mpr c77
 clear c77
 obtain rfl := Option.some.inj H
 have hnb78 := NB410_977.out
 have hnc78 := NB977_410.out
 have hnb79 := NB410_401.out
 have hnc79 := NB401_410.out
 have hnb80 := NB410_424.out
 have hnc80 := NB424_410.out
 have hcz81_0 : wc.cell? ⟨gb410, 0, none⟩ = some (.int .i64 t402) := (blk_cell BK410.out 0).trans rfl
 have hcz81_1 : wc.cell? ⟨gb410, 1, none⟩ = some (.slice Ao19 t413.length co19) := (blk_cell BK410.out 1).trans rfl
 have hcz81_2 : wc.cell? ⟨gb410, 2, none⟩ = some (.slice Ao20 t414.length co20) := (blk_cell BK410.out 2).trans rfl
 have hfz81_0 := blk_frozen BK410.out 0
 have hfz81_1 := blk_frozen BK410.out 1
 have hfz81_2 := blk_frozen BK410.out 2
 go_wp2_with (first | ((with_reducible refine gate_callee (f := 18) rfl ?_); refine goesL_ (some 60) rfl rfl Tryd.func18 (by kernel_rfl) rfl #[.agg #[.int .i64 t402, .slice Ao19 t413.length co19, .slice Ao20 t414.length co20], .int .i64 1] rfl (by (try simp only [List.map_toArray, List.map_cons, List.map_nil]); first | done | rfl | (simp only [List.length_drop, List.length_take]; rfl)) ?_; (with_reducible refine (laws_heldLog.calls kj40 t402 _ _ t413 _ _ t414 1 t426 _ ?side1 ?side2 ?side3 ?side4 A75.out).mono ?_); (case side1 => exact zC (Kd.R_reads' HO_411001.out).2.2); (case side2 => exact (Kd.R_reads' HO_411001.out).2.1); (case side3 => exact zC (Kd.R_reads' HO_411002.out).2.2); (case side4 => exact (Kd.R_reads' HO_411002.out).2.1); rintro e w82 ⟨rfl, hb⟩; refine ⟨_, rfl, ?_⟩; have n0_ := ak (Kd.R_below (zR HO_402001.out) hb); have n1_ := ak (Kd.R_below (zR HO_402002.out) hb); have n2_ := ak (Kd.R_below (zR HO_411001.out) hb); have n3_ := ak (Kd.R_below (zR HO_411002.out) hb); have n4_ := ak (Kd.R_below (zR HO_425001.out) hb); have n5_ := ak (Kd.R_below (zR HO_425002.out) hb); have n6_ := ak (blk_below (g := 0) (o := .cells #[.int .i64 a977_0] 3 (0, 0)) (zK BK977.out) hb); have n7_ := ak (blk_below (g := gb401) (o := .cells #[.int .i64 t393, .slice Ao12 t394.length co12, .slice Ao13 t397.length co13] 39 (0, 0)) (zK BK401.out) hb); have n8_ := ak (blk_below (g := gb410) (o := .cells #[.int .i64 t402, .slice Ao19 t413.length co19, .slice Ao20 t414.length co20] 39 (0, 0)) (zK BK410.out) hb); have n9_ := ak (blk_below (g := gb424) (o := .cells #[.int .i64 t416, .slice Ao54 t417.length co54, .slice Ao55 t420.length co55] 39 (0, 0)) (zK BK424.out) hb); have n10_ := ak (below_step (by repeat (first | (with_reducible first | exact HB.out | apply below_alloc | apply pw_below_drewN | apply below_drew1 | refine below_set ?_ GE977.out | refine below_set ?_ GE401.out | refine below_set ?_ GE410.out | refine below_set ?_ GE424.out) | exact HB.out)) hb); clear HO_402001 HO_402002 HO_411001 HO_411002 HO_425001 HO_425002 BK977 BK401 BK410 BK424 HB; have HO_402001 := n0_; have HO_402002 := n1_; have HO_411001 := n2_; have HO_411002 := n3_; have HO_425001 := n4_; have HO_425002 := n5_; have BK977 := n6_; have BK401 := n7_; have BK410 := n8_; have BK424 := n9_; have HB := n10_; clear n0_ n1_ n2_ n3_ n4_ n5_ n6_ n7_ n8_ n9_ n10_; (try clear hb); (try clear hb2); (try clear hk); (try clear hi)))
 go_ret
 exact ⟨by first | rfl | (simp [errW_none, errW_some] <;> rfl) | (simp [*, errW_none, errW_some] <;> rfl), by repeat (first | (with_reducible first | exact HB.out | apply below_alloc | apply pw_below_drewN | apply below_drew1 | refine below_set ?_ GE977.out | refine below_set ?_ GE401.out | refine below_set ?_ GE410.out | refine below_set ?_ GE424.out) | exact HB.out)⟩
 }
 · rw [if_neg c77] at H; have c77b0 : (t426 == t412) = false := beq_eq_false_iff_ne.mpr c77; have c77b1 : (t426 != t412) = true := bne_iff_ne.mpr c77; exact absurd ((Option.some.inj H).trans HT.out) (by decide)
 }
 }
 )
 )
 }
 · rw [if_neg c39] at H; have c39b0 : (t415 == t412) = false := beq_eq_false_iff_ne.mpr c39; have c39b1 : (t415 != t412) = true := bne_iff_ne.mpr c39; exact absurd ((Option.some.inj H).trans HT.out) (by decide)
 }
 }
 )
 )
 }
/-- THE ONE PURE STATEMENT of laws_FnExactReadLog: mine. -/
def laws_FnExactReadLog.Pure : Prop := ∀ (a0 : ByteArray) (a977_0 : Int) , (a0.size ≤ 9223372036854775807) → ∃ k, laws_FnExactReadLog.f k a0 a977_0  = some true

end Go.Proofs.YtchnklikeimpiaaDoor.P
