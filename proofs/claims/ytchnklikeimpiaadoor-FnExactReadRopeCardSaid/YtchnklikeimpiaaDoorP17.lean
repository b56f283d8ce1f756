-- Printed by wip/print (my turned copy of the kit's print) out of the translation; Lean checks it.
import Derived.Test.YtchnklikeimpiaaDoorP0
import Derived.Test.YtchnklikeimpiaaDoorP2
import Derived.Test.YtchnklikeimpiaaDoorP16
namespace Go.Proofs.YtchnklikeimpiaaDoor.P
open Go.RowKit Go.Proofs.YtchnklikeimpiaaDoorW.PrintWords Go.Proofs.YtchnklikeimpiaaDoorW.PrintLast Go.Proofs.YtchnklikeimpiaaDoorW.PrintMore
attribute [local go_sem] max2_int min2_int max_two min_two max_three min_three max_four min_four   -- for this text's walks alone
set_option linter.unusedVariables false
set_option linter.unusedSimpArgs false

/-! ### laws_heldRope: function 13 -/
def laws_heldRope.f (k : Nat) (a0_0 : Int) (l0_1 : List Int) (a1 : Int) : Option (Int) := (laws_heldInt16S.f k l0_1 a1).bind fun t228 => (if t228 < 0 then (some (-1)) else (some t228))
theorem laws_heldRope.mono : ∀ a0 a1 a2 k, LeO (laws_heldRope.f k a0 a1 a2) (laws_heldRope.f (k + 1) a0 a1 a2) := by
  intro a0 a1 a2 k
  unfold laws_heldRope.f
  repeat' first
      | (with_reducible exact laws_heldInt16S.mono _ _ _)
      | (with_reducible exact LeO.refl _)
      | (with_reducible exact LeO.none _)
      | (with_reducible refine LeO.ite ?_ ?_)
      | (with_reducible refine LeO.bind ?_ (fun _ => ?_))
      | exact laws_heldInt16S.mono _ _ _
      | exact LeO.none _
      | refine LeO.ite ?_ ?_
      | refine LeO.bind ?_ (fun _ => ?_)
set_option maxHeartbeats 8000000 in
set_option maxRecDepth 100000 in
theorem laws_heldRope.calls (k : Nat) (a0_0 : Int) (A0_1 : Option Addr) (c0_1 : Nat) (l0_1 : List Int) (a1 : Int) (r : Int) (w : World) (hr0_1 : Kd.C (Kd.int .i16) w A0_1 l0_1.length l0_1) (hc0_1 : l0_1.length ≤ c0_1) (h : laws_heldRope.f k a0_0 l0_1 a1 = some r) :
    Calls Tryd.prog 13 #[.agg #[.int .i16 a0_0, .slice A0_1 l0_1.length c0_1], .int .i64 a1] w fun e w' => e = .returned (.int .i64 r) ∧ Below w.heap.size w w' := by
 have hu32 := Tryd.underlying32
 have HR0_1 := ak hr0_1
 have HC0_1 := ak hc0_1
 clear hr0_1 hc0_1
 have HB := ak (Below.refl w.heap.size w)
 have H : ((laws_heldInt16S.f k l0_1 a1).bind fun t228 => (if t228 < 0 then (some (-1)) else (some t228))) = some r := h
 clear h
 replace H := Option.bind_eq_some_iff.mp H
 obtain ⟨t228, A30, H⟩ := H
 replace H : (if t228 < 0 then (some (-1)) else (some t228)) = some r := H
 have A3 := ak A30
 clear A30
 by_cases c4 : t228 < 0
 {
 rw [if_pos c4] at H
 have c4b0 : decide (t228 < 0) = true := decide_eq_true c4
 clear c4
 obtain rfl := Option.some.inj H
 go_enter Tryd.func13, Tryd.ntmps13
 go_wp2_with (first | ((with_reducible refine gate_dst (N := 2) rfl ?_); refine box_event ?hg (N := 2) ?hd (cs := #[.int .i16 a0_0, .slice A0_1 l0_1.length c0_1]) (t := 32) ?hr ?_; (case hd => rfl); (case hg => rfl); (case hr => first | (go_simp; done) | (go_simp; rfl)); intro gb227 hg w5 hbox hb; have n0_ := ak (below_step (zB HB.out) hb); have n1_ := ak (hbox); have n2_ := ak ((by rw [hg]; exact (below_size (zB HB.out)) : w.heap.size ≤ gb227)); have n3_ := ak ((by rw [hg]; exact (below_size (zB HB.out)) : w.heap.size ≤ gb227)); clear HB; have HB := n0_; have BK227 := n1_; have GW227 := n2_; have GE227 := n3_; clear n0_ n1_ n2_ n3_; clear hb hbox hg; have hcz6_0 : w5.cell? ⟨gb227, 0, none⟩ = some (.int .i16 a0_0) := (blk_cell BK227.out 0).trans rfl; have hcz6_1 : w5.cell? ⟨gb227, 1, none⟩ = some (.slice A0_1 l0_1.length c0_1) := (blk_cell BK227.out 1).trans rfl; have hfz6_0 := blk_frozen BK227.out 0; have hfz6_1 := blk_frozen BK227.out 1) | ((with_reducible refine gate_callee (f := 32) rfl ?_); refine goesL_ (some 8) rfl rfl Tryd.func32 (by kernel_rfl) rfl #[.slice A0_1 l0_1.length c0_1, .int .i64 a1] rfl (by (try simp only [List.map_toArray, List.map_cons, List.map_nil]); first | done | rfl | (simp only [List.length_drop, List.length_take]; rfl)) ?_; (with_reducible refine (laws_heldInt16S.calls k _ _ l0_1 a1 t228 _ ?side1 ?side2 A3.out).mono ?_); (case side1 => repeat (first | exact (Kd.C_below HR0_1.out HB.out) | (with_reducible refine Kd.C_alloc ?_ _) | (with_reducible refine Kd.C_drewN ?_ _) | (with_reducible refine Kd.C_drew ?_))); (case side2 => exact HC0_1.out); rintro e w' ⟨rfl, ⟨nd, rfl⟩⟩; refine ⟨_, rfl, ?_⟩))
 go_ret
 exact ⟨by first | rfl | (simp [errW_none, errW_some] <;> rfl) | (simp [*, errW_none, errW_some] <;> rfl), by repeat (first | (with_reducible first | exact HB.out | apply below_alloc | apply pw_below_drewN | apply below_drew1 | refine below_set ?_ GE227.out) | exact HB.out)⟩
 }
 {
 rw [if_neg c4] at H
 have c4b0 : decide (t228 < 0) = false := decide_eq_false c4
 clear c4
 obtain rfl := Option.some.inj H
 go_enter Tryd.func13, Tryd.ntmps13
 go_wp2_with (first | ((with_reducible refine gate_dst (N := 2) rfl ?_); refine box_event ?hg (N := 2) ?hd (cs := #[.int .i16 a0_0, .slice A0_1 l0_1.length c0_1]) (t := 32) ?hr ?_; (case hd => rfl); (case hg => rfl); (case hr => first | (go_simp; done) | (go_simp; rfl)); intro gb227 hg w7 hbox hb; have n0_ := ak (below_step (zB HB.out) hb); have n1_ := ak (hbox); have n2_ := ak ((by rw [hg]; exact (below_size (zB HB.out)) : w.heap.size ≤ gb227)); have n3_ := ak ((by rw [hg]; exact (below_size (zB HB.out)) : w.heap.size ≤ gb227)); clear HB; have HB := n0_; have BK227 := n1_; have GW227 := n2_; have GE227 := n3_; clear n0_ n1_ n2_ n3_; clear hb hbox hg; have hcz8_0 : w7.cell? ⟨gb227, 0, none⟩ = some (.int .i16 a0_0) := (blk_cell BK227.out 0).trans rfl; have hcz8_1 : w7.cell? ⟨gb227, 1, none⟩ = some (.slice A0_1 l0_1.length c0_1) := (blk_cell BK227.out 1).trans rfl; have hfz8_0 := blk_frozen BK227.out 0; have hfz8_1 := blk_frozen BK227.out 1) | ((with_reducible refine gate_callee (f := 32) rfl ?_); refine goesL_ (some 8) rfl rfl Tryd.func32 (by kernel_rfl) rfl #[.slice A0_1 l0_1.length c0_1, .int .i64 a1] rfl (by (try simp only [List.map_toArray, List.map_cons, List.map_nil]); first | done | rfl | (simp only [List.length_drop, List.length_take]; rfl)) ?_; (with_reducible refine (laws_heldInt16S.calls k _ _ l0_1 a1 t228 _ ?side1 ?side2 A3.out).mono ?_); (case side1 => repeat (first | exact (Kd.C_below HR0_1.out HB.out) | (with_reducible refine Kd.C_alloc ?_ _) | (with_reducible refine Kd.C_drewN ?_ _) | (with_reducible refine Kd.C_drew ?_))); (case side2 => exact HC0_1.out); rintro e w' ⟨rfl, ⟨nd, rfl⟩⟩; refine ⟨_, rfl, ?_⟩))
 go_ret
 exact ⟨by first | rfl | (simp [errW_none, errW_some] <;> rfl) | (simp [*, errW_none, errW_some] <;> rfl), by repeat (first | (with_reducible first | exact HB.out | apply below_alloc | apply pw_below_drewN | apply below_drew1 | refine below_set ?_ GE227.out) | exact HB.out)⟩
 }
/-! ### laws_FnExactReadRope: function 4 -/
mutual
def laws_FnExactReadRope.j0 : Nat → ByteArray → Int → Bool → Int → List Int → Int → List Int → Int → Option (Bool)
  | 0, _, _, _, _, _, _, _, _ => none
  | k + 1, x0, x4, x32, x235000, x235001, x241000, x241001, x978000 => if x32 = true then (some false) else ((laws_markRope.f k x241000 x241001 1).bind fun bt242 => ((laws_heldRope.f k x241000 bt242.2 1).bind fun t244 => (if t244 < 0 then (some false) else (if t244 = bt242.1 then ((impl_ReadRope.f k x0 x978000).bind fun bt245 => ((laws_eqRope.f k bt245.1 bt245.2.1 x235000 x235001).bind fun t251 => (if t251 = true then (laws_FnExactReadRope.j1 k bt242.1 (bt245.2.2 != x4) x241000 bt242.2) else (laws_FnExactReadRope.j1 k bt242.1 true x241000 bt242.2)))) else (some false)))))
def laws_FnExactReadRope.j1 : Nat → Int → Bool → Int → List Int → Option (Bool)
  | 0, _, _, _, _ => none
  | k + 1, x7, x57, x241000, x241001 => if x57 = true then (some false) else ((laws_heldRope.f k x241000 x241001 1).bind fun t252 => (if t252 < 0 then (some false) else (if t252 = x7 then (some true) else (some false))))
end
def laws_FnExactReadRope.f (k : Nat) (a0 : ByteArray) (a977_0 : Int)  : Option (Bool) := if (a0.size : Int) > 1048576 then (some true) else ((spec_ReadRope.f k a0).bind fun bt229 => ((impl_ReadRope.f k a0 a977_0).bind fun bt235 => ((laws_eqRope.f k bt235.1 bt235.2.1 bt229.1 bt229.2.1).bind fun t241 => (if t241 = true then (laws_FnExactReadRope.j0 k a0 bt229.2.2 (bt235.2.2 != bt229.2.2) bt229.1 bt229.2.1 bt235.1 bt235.2.1 a977_0) else (laws_FnExactReadRope.j0 k a0 bt229.2.2 true bt229.1 bt229.2.1 bt235.1 bt235.2.1 a977_0)))))
theorem laws_FnExactReadRope.mono_l : ∀ k, (∀ y0 y1 y2 y3 y4 y5 y6 y7, LeO (laws_FnExactReadRope.j0 k y0 y1 y2 y3 y4 y5 y6 y7) (laws_FnExactReadRope.j0 (k + 1) y0 y1 y2 y3 y4 y5 y6 y7)) ∧ (∀ y0 y1 y2 y3, LeO (laws_FnExactReadRope.j1 k y0 y1 y2 y3) (laws_FnExactReadRope.j1 (k + 1) y0 y1 y2 y3))
  | 0 => ⟨fun _ _ _ _ _ _ _ _ r h => by simp [laws_FnExactReadRope.j0] at h, fun _ _ _ _ r h => by simp [laws_FnExactReadRope.j1] at h⟩
  | k + 1 => by
    obtain ⟨ih0, ih1⟩ := laws_FnExactReadRope.mono_l k
    refine ⟨?_, ?_⟩
    · intro y0 y1 y2 y3 y4 y5 y6 y7
      unfold laws_FnExactReadRope.j0
      repeat' first
      | (with_reducible exact ih0 _ _ _ _ _ _ _ _)
      | (with_reducible exact ih1 _ _ _ _)
      | (with_reducible exact impl_ReadRope.mono _ _ _)
      | (with_reducible exact laws_eqRope.mono _ _ _ _ _)
      | (with_reducible exact laws_heldRope.mono _ _ _ _)
      | (with_reducible exact laws_markRope.mono _ _ _ _)
      | (with_reducible exact spec_ReadRope.mono _ _)
      | (with_reducible exact LeO.refl _)
      | (with_reducible exact LeO.none _)
      | (with_reducible refine LeO.ite ?_ ?_)
      | (with_reducible refine LeO.bind ?_ (fun _ => ?_))
      | exact ih0 _ _ _ _ _ _ _ _
      | exact ih1 _ _ _ _
      | exact impl_ReadRope.mono _ _ _
      | exact laws_eqRope.mono _ _ _ _ _
      | exact laws_heldRope.mono _ _ _ _
      | exact laws_markRope.mono _ _ _ _
      | exact spec_ReadRope.mono _ _
      | exact LeO.none _
      | refine LeO.ite ?_ ?_
      | refine LeO.bind ?_ (fun _ => ?_)
    · intro y0 y1 y2 y3
      unfold laws_FnExactReadRope.j1
      repeat' first
      | (with_reducible exact ih0 _ _ _ _ _ _ _ _)
      | (with_reducible exact ih1 _ _ _ _)
      | (with_reducible exact impl_ReadRope.mono _ _ _)
      | (with_reducible exact laws_eqRope.mono _ _ _ _ _)
      | (with_reducible exact laws_heldRope.mono _ _ _ _)
      | (with_reducible exact laws_markRope.mono _ _ _ _)
      | (with_reducible exact spec_ReadRope.mono _ _)
      | (with_reducible exact LeO.refl _)
      | (with_reducible exact LeO.none _)
      | (with_reducible refine LeO.ite ?_ ?_)
      | (with_reducible refine LeO.bind ?_ (fun _ => ?_))
      | exact ih0 _ _ _ _ _ _ _ _
      | exact ih1 _ _ _ _
      | exact impl_ReadRope.mono _ _ _
      | exact laws_eqRope.mono _ _ _ _ _
      | exact laws_heldRope.mono _ _ _ _
      | exact laws_markRope.mono _ _ _ _
      | exact spec_ReadRope.mono _ _
      | exact LeO.none _
      | refine LeO.ite ?_ ?_
      | refine LeO.bind ?_ (fun _ => ?_)
theorem laws_FnExactReadRope.mono : ∀ a0 a1 k, LeO (laws_FnExactReadRope.f k a0 a1) (laws_FnExactReadRope.f (k + 1) a0 a1) := by
  intro a0 a1 k
  obtain ⟨ih0, ih1⟩ := laws_FnExactReadRope.mono_l k
  unfold laws_FnExactReadRope.f
  repeat' first
      | (with_reducible exact ih0 _ _ _ _ _ _ _ _)
      | (with_reducible exact ih1 _ _ _ _)
      | (with_reducible exact impl_ReadRope.mono _ _ _)
      | (with_reducible exact laws_eqRope.mono _ _ _ _ _)
      | (with_reducible exact laws_heldRope.mono _ _ _ _)
      | (with_reducible exact laws_markRope.mono _ _ _ _)
      | (with_reducible exact spec_ReadRope.mono _ _)
      | (with_reducible exact LeO.refl _)
      | (with_reducible exact LeO.none _)
      | (with_reducible refine LeO.ite ?_ ?_)
      | (with_reducible refine LeO.bind ?_ (fun _ => ?_))
      | exact ih0 _ _ _ _ _ _ _ _
      | exact ih1 _ _ _ _
      | exact impl_ReadRope.mono _ _ _
      | exact laws_eqRope.mono _ _ _ _ _
      | exact laws_heldRope.mono _ _ _ _
      | exact laws_markRope.mono _ _ _ _
      | exact spec_ReadRope.mono _ _
      | exact LeO.none _
      | refine LeO.ite ?_ ?_
      | refine LeO.bind ?_ (fun _ => ?_)
set_option maxHeartbeats 8000000 in
set_option maxRecDepth 100000 in
theorem laws_FnExactReadRope.calls (k : Nat) (a0 : ByteArray) (a977_0 : Int)  (r : Bool) (w : World) (hx977 : w.heap[0]? = some (.cells #[.int .i64 a977_0] 3 (0, 0))) (hgt : Go.Proofs.YtchnklikeimpiaaDoor.H.Tab10 w) (hT : r = true) (h : laws_FnExactReadRope.f k a0 a977_0 = some r) :
    Calls Tryd.prog 4 #[.string a0] w fun e w' => e = .returned (.bool r) ∧ Below w.heap.size w w' := by
 have hu32 := Tryd.underlying32
 have HT := ak hT
 clear hT
 have BK977 := ak hx977
 clear hx977
 have HGT := ak hgt
 clear hgt
 have HB := ak (Below.refl w.heap.size w)
 have H : (if (a0.size : Int) > 1048576 then (some true) else ((spec_ReadRope.f k a0).bind fun bt229 => ((impl_ReadRope.f k a0 a977_0).bind fun bt235 => ((laws_eqRope.f k bt235.1 bt235.2.1 bt229.1 bt229.2.1).bind fun t241 => (if t241 = true then (laws_FnExactReadRope.j0 k a0 bt229.2.2 (bt235.2.2 != bt229.2.2) bt229.1 bt229.2.1 bt235.1 bt235.2.1 a977_0) else (laws_FnExactReadRope.j0 k a0 bt229.2.2 true bt229.1 bt229.2.1 bt235.1 bt235.2.1 a977_0)))))) = some r := h
 clear h
 by_cases c4 : (a0.size : Int) > 1048576
 {
 rw [if_pos c4] at H
 have c4b0 : decide (1048576 < (a0.size : Int)) = true := decide_eq_true c4
 have c4b1 : decide (1048576 < a0.size) = true := decide_eq_true (by omega)
 clear c4
 obtain rfl := Option.some.inj H
 go_enter Tryd.func4, Tryd.ntmps4
 go_wp2
 go_ret
 exact ⟨by first | rfl | (simp [errW_none, errW_some] <;> rfl) | (simp [*, errW_none, errW_some] <;> rfl), by repeat (first | (with_reducible first | exact HB.out | apply below_alloc | apply pw_below_drewN | apply below_drew1 | refine below_set ?_ GE977.out) | exact HB.out)⟩
 }
 {
 rw [if_neg c4] at H
 have c4b0 : decide (1048576 < (a0.size : Int)) = false := decide_eq_false c4
 have c4b1 : decide (1048576 < a0.size) = false := decide_eq_false (by omega)
 clear c4
 replace H := Option.bind_eq_some_iff.mp H
 obtain ⟨⟨t229, t230, t233⟩, A50, H⟩ := H
 replace H : ((impl_ReadRope.f k a0 a977_0).bind fun bt235 => ((laws_eqRope.f k bt235.1 bt235.2.1 t229 t230).bind fun t241 => (if t241 = true then (laws_FnExactReadRope.j0 k a0 t233 (bt235.2.2 != t233) t229 t230 bt235.1 bt235.2.1 a977_0) else (laws_FnExactReadRope.j0 k a0 t233 true t229 t230 bt235.1 bt235.2.1 a977_0)))) = some r := H
 have A5 := ak A50
 clear A50
 replace H := Option.bind_eq_some_iff.mp H
 obtain ⟨⟨t235, t236, t239⟩, A60, H⟩ := H
 replace H : ((laws_eqRope.f k t235 t236 t229 t230).bind fun t241 => (if t241 = true then (laws_FnExactReadRope.j0 k a0 t233 (t239 != t233) t229 t230 t235 t236 a977_0) else (laws_FnExactReadRope.j0 k a0 t233 true t229 t230 t235 t236 a977_0))) = some r := H
 have A6 := ak A60
 clear A60
 have HC7 := ak H
 clear H
 go_enter Tryd.func4, Tryd.ntmps4
 go_upto_region 5 with (first | ((with_reducible refine gate_callee (f := 9) rfl ?_); refine goesL_ (some 16) rfl rfl Tryd.func9 (by kernel_rfl) rfl #[.string a0] rfl (by (try simp only [List.map_toArray, List.map_cons, List.map_nil]); first | done | rfl | (simp only [List.length_drop, List.length_take]; rfl)) ?_; (with_reducible refine (spec_ReadRope.calls k a0 t229 t230 t233 _ A5.out).mono ?_); rintro e w8 ⟨v231, rfl, ho0, hb⟩; refine ⟨_, rfl, ?_⟩; have n0_ := ak (Kd.R_lower ho0 (below_size (zB HB.out))); have n1_ := ak (blk_below (g := 0) (o := .cells #[.int .i64 a977_0] 3 (0, 0)) (zK BK977.out) hb); have n2_ := ak (below_step (zB HB.out) hb); clear BK977 HB; have HO232 := n0_; have BK977 := n1_; have HB := n2_; clear n0_ n1_ n2_; (try clear hb); (try clear hb2); (try clear hk); (try clear hi); (try clear ho0)) | ((with_reducible refine gate_dst (N := 3) rfl ?_); refine box_event ?hg (N := 3) ?hd (cs := #[.int .i16 0, .slice none 0 0]) (t := 32) ?hr ?_; (case hd => rfl); (case hg => rfl); (case hr => first | (go_simp; done) | (go_simp; rfl)); intro gb234 hg w9 hbox hb; have n0_ := ak (Kd.R_below (zR HO232.out) hb); have n1_ := ak (blk_below (g := 0) (o := .cells #[.int .i64 a977_0] 3 (0, 0)) (zK BK977.out) hb); have n2_ := ak (below_step (zB HB.out) hb); have n3_ := ak (hbox); have n4_ := ak ((by rw [hg]; exact (below_size (zB HB.out)) : w.heap.size ≤ gb234)); have n5_ := ak ((by rw [hg]; exact (below_size (zB HB.out)) : w.heap.size ≤ gb234)); have n6_ := ak ((by rw [hg]; exact Nat.ne_of_lt (blk_lt (g := 0) (o := .cells #[.int .i64 a977_0] 3 (0, 0)) (zK BK977.out)) : 0 ≠ gb234)); have n7_ := ak ((by rw [hg]; exact Nat.ne_of_gt (blk_lt (g := 0) (o := .cells #[.int .i64 a977_0] 3 (0, 0)) (zK BK977.out)) : gb234 ≠ 0)); clear HO232 BK977 HB; have HO232 := n0_; have BK977 := n1_; have HB := n2_; have BK234 := n3_; have GW234 := n4_; have GE234 := n5_; have NB977_234 := n6_; have NB234_977 := n7_; clear n0_ n1_ n2_ n3_ n4_ n5_ n6_ n7_; clear hb hbox hg; have hnb10 := NB234_977.out; have hnc10 := NB977_234.out; have hcz11_0 : w9.cell? ⟨gb234, 0, none⟩ = some (.int .i16 0) := (blk_cell BK234.out 0).trans rfl; have hcz11_1 : w9.cell? ⟨gb234, 1, none⟩ = some (.slice none 0 0) := (blk_cell BK234.out 1).trans rfl; have hfz11_0 := blk_frozen BK234.out 0; have hfz11_1 := blk_frozen BK234.out 1; obtain ⟨Ao12, co12, eo12⟩ := Kd.R_slice HO232.out; subst eo12) | ((with_reducible refine gate_callee (f := 10) rfl ?_); refine goesL_ (some 21) rfl rfl Tryd.func10 (by kernel_rfl) rfl #[.string a0] rfl (by (try simp only [List.map_toArray, List.map_cons, List.map_nil]); first | done | rfl | (simp only [List.length_drop, List.length_take]; rfl)) ?_; (with_reducible refine (impl_ReadRope.calls k a0 a977_0  t235 t236 t239 _ ?side1 ?side2 A6.out).mono ?_); (case side1 => exact (by first | exact BK977.out | ((with_reducible repeat (first | refine blk_drewN ?_ _ | refine blk_drew ?_ | refine blk_alloc ?_ _)); refine blk_far ?_ NB977_234.out _; (with_reducible repeat (first | refine blk_drewN ?_ _ | refine blk_drew ?_ | refine blk_alloc ?_ _)); refine blk_far ?_ NB977_234.out _; (with_reducible repeat (first | refine blk_drewN ?_ _ | refine blk_drew ?_ | refine blk_alloc ?_ _)); exact BK977.out))); (case side2 => exact Go.Proofs.YtchnklikeimpiaaDoor.H.tab10_below HGT.out (by repeat (first | (with_reducible first | exact HB.out | apply below_alloc | apply pw_below_drewN | apply below_drew1 | refine below_set ?_ GE977.out | refine below_set ?_ GE234.out) | exact HB.out))); rintro e w13 ⟨v237, rfl, ho0, hb⟩; refine ⟨_, rfl, ?_⟩; have n0_ := ak (Kd.R_elder' (by (with_reducible repeat (first | apply Kd.R_alloc | apply Kd.R_drewN | apply Kd.R_drew)); exact (Kd.R_mono (Kd.R_far (p := ⟨gb234, 1, none⟩) (Kd.R_far (p := ⟨gb234, 0, none⟩) (Kd.R_types HO232.out BK234.out (by decide)) (fun _ hk => hk.2) (.int .i16 t229)) (fun _ hk => hk.2) (.slice Ao12 t230.length co12)) (fun _ h_ => h_.1))) (Kd.R_base ho0) hb); have n1_ := ak (Kd.R_lower (Kd.R_new' ho0 (Kd.R_lt (by (with_reducible repeat (first | apply Kd.R_alloc | apply Kd.R_drewN | apply Kd.R_drew)); exact (Kd.R_mono (Kd.R_far (p := ⟨gb234, 1, none⟩) (Kd.R_far (p := ⟨gb234, 0, none⟩) (Kd.R_types HO232.out BK234.out (by decide)) (fun _ hk => hk.2) (.int .i16 t229)) (fun _ hk => hk.2) (.slice Ao12 t230.length co12)) (fun _ h_ => h_.1))))) (below_size (by repeat (first | (with_reducible first | exact HB.out | apply below_alloc | apply pw_below_drewN | apply below_drew1 | refine below_set ?_ GE977.out | refine below_set ?_ GE234.out) | exact HB.out)))); have n2_ := ak (blk_below (g := 0) (o := .cells #[.int .i64 a977_0] 3 (0, 0)) (by (with_reducible repeat (first | refine blk_drewN ?_ _ | refine blk_drew ?_ | refine blk_alloc ?_ _)); refine blk_far ?_ NB977_234.out _; (with_reducible repeat (first | refine blk_drewN ?_ _ | refine blk_drew ?_ | refine blk_alloc ?_ _)); refine blk_far ?_ NB977_234.out _; (with_reducible repeat (first | refine blk_drewN ?_ _ | refine blk_drew ?_ | refine blk_alloc ?_ _)); exact BK977.out) hb); have n3_ := ak (blk_below (g := gb234) (o := .cells #[.int .i16 t229, .slice Ao12 t230.length co12] 32 (0, 0)) (by (with_reducible repeat (first | refine blk_drewN ?_ _ | refine blk_drew ?_ | refine blk_alloc ?_ _)); refine blk_put (cs := #[.int .i16 t229, .slice none 0 0]) ?_ 1 _ rfl; (with_reducible repeat (first | refine blk_drewN ?_ _ | refine blk_drew ?_ | refine blk_alloc ?_ _)); refine blk_put (cs := #[.int .i16 0, .slice none 0 0]) ?_ 0 _ rfl; (with_reducible repeat (first | refine blk_drewN ?_ _ | refine blk_drew ?_ | refine blk_alloc ?_ _)); exact BK234.out) hb); have n4_ := ak (below_step (by repeat (first | (with_reducible first | exact HB.out | apply below_alloc | apply pw_below_drewN | apply below_drew1 | refine below_set ?_ GE977.out | refine below_set ?_ GE234.out) | exact HB.out)) hb); clear HO232 BK977 BK234 HB; have HO232 := n0_; have HO238 := n1_; have BK977 := n2_; have BK234 := n3_; have HB := n4_; clear n0_ n1_ n2_ n3_ n4_; (try clear hb); (try clear hb2); (try clear hk); (try clear hi); (try clear ho0)) | ((with_reducible refine gate_dst (N := 5) rfl ?_); refine box_event ?hg (N := 5) ?hd (cs := #[.int .i16 0, .slice none 0 0]) (t := 32) ?hr ?_; (case hd => rfl); (case hg => rfl); (case hr => first | (go_simp; done) | (go_simp; rfl)); intro gb240 hg w14 hbox hb; have n0_ := ak (Kd.R_below (zR HO232.out) hb); have n1_ := ak (Kd.R_below (zR HO238.out) hb); have n2_ := ak (blk_below (g := 0) (o := .cells #[.int .i64 a977_0] 3 (0, 0)) (zK BK977.out) hb); have n3_ := ak (blk_below (g := gb234) (o := .cells #[.int .i16 t229, .slice Ao12 t230.length co12] 32 (0, 0)) (zK BK234.out) hb); have n4_ := ak (below_step (by repeat (first | (with_reducible first | exact HB.out | apply below_alloc | apply pw_below_drewN | apply below_drew1 | refine below_set ?_ GE977.out | refine below_set ?_ GE234.out) | exact HB.out)) hb); have n5_ := ak (hbox); have n6_ := ak ((by rw [hg]; exact (below_size (by repeat (first | (with_reducible first | exact HB.out | apply below_alloc | apply pw_below_drewN | apply below_drew1 | refine below_set ?_ GE977.out | refine below_set ?_ GE234.out) | exact HB.out))) : w.heap.size ≤ gb240)); have n7_ := ak ((by rw [hg]; exact (below_size (by repeat (first | (with_reducible first | exact HB.out | apply below_alloc | apply pw_below_drewN | apply below_drew1 | refine below_set ?_ GE977.out | refine below_set ?_ GE234.out) | exact HB.out))) : w.heap.size ≤ gb240)); have n8_ := ak ((by rw [hg]; exact Nat.ne_of_lt (blk_lt (g := 0) (o := .cells #[.int .i64 a977_0] 3 (0, 0)) (zK BK977.out)) : 0 ≠ gb240)); have n9_ := ak ((by rw [hg]; exact Nat.ne_of_gt (blk_lt (g := 0) (o := .cells #[.int .i64 a977_0] 3 (0, 0)) (zK BK977.out)) : gb240 ≠ 0)); have n10_ := ak ((by rw [hg]; exact Nat.ne_of_lt (blk_lt (g := gb234) (o := .cells #[.int .i16 t229, .slice Ao12 t230.length co12] 32 (0, 0)) (zK BK234.out)) : gb234 ≠ gb240)); have n11_ := ak ((by rw [hg]; exact Nat.ne_of_gt (blk_lt (g := gb234) (o := .cells #[.int .i16 t229, .slice Ao12 t230.length co12] 32 (0, 0)) (zK BK234.out)) : gb240 ≠ gb234)); clear HO232 HO238 BK977 BK234 HB; have HO232 := n0_; have HO238 := n1_; have BK977 := n2_; have BK234 := n3_; have HB := n4_; have BK240 := n5_; have GW240 := n6_; have GE240 := n7_; have NB977_240 := n8_; have NB240_977 := n9_; have NB234_240 := n10_; have NB240_234 := n11_; clear n0_ n1_ n2_ n3_ n4_ n5_ n6_ n7_ n8_ n9_ n10_ n11_; clear hb hbox hg; have hnb15 := NB240_977.out; have hnc15 := NB977_240.out; have hnb16 := NB240_234.out; have hnc16 := NB234_240.out; have hcz17_0 : w14.cell? ⟨gb240, 0, none⟩ = some (.int .i16 0) := (blk_cell BK240.out 0).trans rfl; have hcz17_1 : w14.cell? ⟨gb240, 1, none⟩ = some (.slice none 0 0) := (blk_cell BK240.out 1).trans rfl; have hfz17_0 := blk_frozen BK240.out 0; have hfz17_1 := blk_frozen BK240.out 1; obtain ⟨Ao18, co18, eo18⟩ := Kd.R_slice HO238.out; subst eo18))
 (try simp only [Act.put, zs, zz, zk])
 go_cut [32] (fun v32 wc => ∃ (kq : Nat) (x32_6 : Bool), v32 = .bool x32_6 ∧ Aside0 (laws_FnExactReadRope.j0 kq a0 t233 x32_6 t229 t230 t235 t236 a977_0 = some r) ∧ Aside0 (kq ≤ k) ∧ Aside0 (Kd.R (Kd.int .i16) 29 wc w.heap.size (fun k_ => some k_ ≠ ((.slice Ao18 t236.length co18) : Value).ownBlock) (.slice Ao12 t230.length co12) t230) ∧ Aside0 (Kd.R (Kd.int .i16) 29 wc w.heap.size (fun k_ => some k_ ≠ ((.slice Ao12 t230.length co12) : Value).ownBlock) (.slice Ao18 t236.length co18) t236) ∧ Aside0 (wc.heap[0]? = some (.cells #[.int .i64 a977_0] 3 (0, 0))) ∧ Aside0 (wc.heap[gb234]? = some (.cells #[.int .i16 t229, (.slice Ao12 t230.length co12)] 32 (0, 0))) ∧ Aside0 (wc.heap[gb240]? = some (.cells #[.int .i16 t235, (.slice Ao18 t236.length co18)] 32 (0, 0))) ∧ Aside0 (Below w.heap.size w wc))
 case first => (
 have H := HC7.out
 clear HC7
 replace H := Option.bind_eq_some_iff.mp H
 obtain ⟨t241, A190, H⟩ := H
 replace H : (if t241 = true then (laws_FnExactReadRope.j0 k a0 t233 (t239 != t233) t229 t230 t235 t236 a977_0) else (laws_FnExactReadRope.j0 k a0 t233 true t229 t230 t235 t236 a977_0)) = some r := H
 have A19 := ak A190
 clear A190
 by_cases c20 : t241 = true
 {
 subst c20
 have H1 : (laws_FnExactReadRope.j0 k a0 t233 (t239 != t233) t229 t230 t235 t236 a977_0) = some r := by rw [if_pos rfl] at H; exact H
 clear H
 have H := H1
 clear H1
 have H' := ak H
 clear H
 have hnb21 := NB240_977.out
 have hnc21 := NB977_240.out
 have hnb22 := NB240_234.out
 have hnc22 := NB234_240.out
 have hcz23_0 : w14.cell? ⟨gb240, 0, none⟩ = some (.int .i16 0) := (blk_cell BK240.out 0).trans rfl
 have hcz23_1 : w14.cell? ⟨gb240, 1, none⟩ = some (.slice none 0 0) := (blk_cell BK240.out 1).trans rfl
 have hfz23_0 := blk_frozen BK240.out 0
 have hfz23_1 := blk_frozen BK240.out 1
 have hnb24 := NB234_977.out
 have hnc24 := NB977_234.out
 have hcz25_0 : w14.cell? ⟨gb234, 0, none⟩ = some (.int .i16 t229) := (blk_cell BK234.out 0).trans rfl
 have hcz25_1 : w14.cell? ⟨gb234, 1, none⟩ = some (.slice Ao12 t230.length co12) := (blk_cell BK234.out 1).trans rfl
 have hfz25_0 := blk_frozen BK234.out 0
 have hfz25_1 := blk_frozen BK234.out 1
 go_wp2_with (first | ((with_reducible refine gate_callee (f := 11) rfl ?_); refine goesL_ (some 26) rfl rfl Tryd.func11 (by kernel_rfl) rfl #[.agg #[.int .i16 t235, .slice Ao18 t236.length co18], .agg #[.int .i16 t229, .slice Ao12 t230.length co12]] rfl (by (try simp only [List.map_toArray, List.map_cons, List.map_nil]); first | done | rfl | (simp only [List.length_drop, List.length_take]; rfl)) ?_; (with_reducible refine (laws_eqRope.calls k t235 _ _ t236 t229 _ _ t230 true _ ?side1 ?side2 ?side3 ?side4 A19.out).mono ?_); (case side1 => refine (Kd.R_reads' (e := 29) (base := w.heap.size) (ok := fun k_ => (True ∧ some k_ ≠ (.slice Ao12 t230.length co12 : Value).ownBlock)) (n := t236.length) (c := co18) ?_).2.2; exact (by (with_reducible repeat (first | apply Kd.R_alloc | apply Kd.R_drewN | apply Kd.R_drew)); exact (Kd.R_mono (Kd.R_far (p := ⟨gb240, 1, none⟩) (Kd.R_far (p := ⟨gb240, 0, none⟩) (Kd.R_types HO238.out BK240.out (by decide)) (fun _ hk => hk.2) (.int .i16 t235)) (fun _ hk => hk.2) (.slice Ao18 t236.length co18)) (fun _ h_ => h_.1)))); (case side2 => exact (Kd.R_reads' HO238.out).2.1); (case side3 => refine (Kd.R_reads' (e := 29) (base := w.heap.size) (ok := fun k_ => (True ∧ some k_ ≠ (.slice Ao18 t236.length co18 : Value).ownBlock)) (n := t230.length) (c := co12) ?_).2.2; exact (by (with_reducible repeat (first | apply Kd.R_alloc | apply Kd.R_drewN | apply Kd.R_drew)); exact (Kd.R_mono (Kd.R_far (p := ⟨gb240, 1, none⟩) (Kd.R_far (p := ⟨gb240, 0, none⟩) (Kd.R_types HO232.out BK240.out (by decide)) (fun _ hk => hk.2) (.int .i16 t235)) (fun _ hk => hk.2) (.slice Ao18 t236.length co18)) (fun _ h_ => h_.1)))); (case side4 => exact (Kd.R_reads' HO232.out).2.1); rintro e w26 ⟨rfl, hb⟩; refine ⟨_, rfl, ?_⟩; have n0_ := ak (Kd.R_below (by (with_reducible repeat (first | apply Kd.R_alloc | apply Kd.R_drewN | apply Kd.R_drew)); exact (Kd.R_mono (Kd.R_far (p := ⟨gb240, 1, none⟩) (Kd.R_far (p := ⟨gb240, 0, none⟩) (Kd.R_types HO232.out BK240.out (by decide)) (fun _ hk => hk.2) (.int .i16 t235)) (fun _ hk => hk.2) (.slice Ao18 t236.length co18)) (fun _ h_ => h_.1))) hb); have n1_ := ak (Kd.R_below (by (with_reducible repeat (first | apply Kd.R_alloc | apply Kd.R_drewN | apply Kd.R_drew)); exact (Kd.R_mono (Kd.R_far (p := ⟨gb240, 1, none⟩) (Kd.R_far (p := ⟨gb240, 0, none⟩) (Kd.R_types HO238.out BK240.out (by decide)) (fun _ hk => hk.2) (.int .i16 t235)) (fun _ hk => hk.2) (.slice Ao18 t236.length co18)) (fun _ h_ => h_.1))) hb); have n2_ := ak (blk_below (g := 0) (o := .cells #[.int .i64 a977_0] 3 (0, 0)) (by (with_reducible repeat (first | refine blk_drewN ?_ _ | refine blk_drew ?_ | refine blk_alloc ?_ _)); refine blk_far ?_ NB977_240.out _; (with_reducible repeat (first | refine blk_drewN ?_ _ | refine blk_drew ?_ | refine blk_alloc ?_ _)); refine blk_far ?_ NB977_240.out _; (with_reducible repeat (first | refine blk_drewN ?_ _ | refine blk_drew ?_ | refine blk_alloc ?_ _)); exact BK977.out) hb); have n3_ := ak (blk_below (g := gb234) (o := .cells #[.int .i16 t229, .slice Ao12 t230.length co12] 32 (0, 0)) (by (with_reducible repeat (first | refine blk_drewN ?_ _ | refine blk_drew ?_ | refine blk_alloc ?_ _)); refine blk_far ?_ NB234_240.out _; (with_reducible repeat (first | refine blk_drewN ?_ _ | refine blk_drew ?_ | refine blk_alloc ?_ _)); refine blk_far ?_ NB234_240.out _; (with_reducible repeat (first | refine blk_drewN ?_ _ | refine blk_drew ?_ | refine blk_alloc ?_ _)); exact BK234.out) hb); have n4_ := ak (blk_below (g := gb240) (o := .cells #[.int .i16 t235, .slice Ao18 t236.length co18] 32 (0, 0)) (by (with_reducible repeat (first | refine blk_drewN ?_ _ | refine blk_drew ?_ | refine blk_alloc ?_ _)); refine blk_put (cs := #[.int .i16 t235, .slice none 0 0]) ?_ 1 _ rfl; (with_reducible repeat (first | refine blk_drewN ?_ _ | refine blk_drew ?_ | refine blk_alloc ?_ _)); refine blk_put (cs := #[.int .i16 0, .slice none 0 0]) ?_ 0 _ rfl; (with_reducible repeat (first | refine blk_drewN ?_ _ | refine blk_drew ?_ | refine blk_alloc ?_ _)); exact BK240.out) hb); have n5_ := ak (below_step (by repeat (first | (with_reducible first | exact HB.out | apply below_alloc | apply pw_below_drewN | apply below_drew1 | refine below_set ?_ GE977.out | refine below_set ?_ GE234.out | refine below_set ?_ GE240.out) | exact HB.out)) hb); clear HO232 HO238 BK977 BK234 BK240 HB; have HO232 := n0_; have HO238 := n1_; have BK977 := n2_; have BK234 := n3_; have BK240 := n4_; have HB := n5_; clear n0_ n1_ n2_ n3_ n4_ n5_; (try clear hb); (try clear hb2); (try clear hk); (try clear hi)))
 go_meet
 case rel => exact ⟨_, ((t239 != t233)), (by first | rfl | (simp; done) | (simp [*]; done)), H', ⟨by first | omega | exact Nat.le_refl _⟩, ⟨by (with_reducible repeat (first | apply Kd.R_alloc | apply Kd.R_drewN | apply Kd.R_drew)); exact Kd.R_mono HO232.out (fun _ hk => hk.2)⟩, ⟨by (with_reducible repeat (first | apply Kd.R_alloc | apply Kd.R_drewN | apply Kd.R_drew)); exact Kd.R_mono HO238.out (fun _ hk => hk.2)⟩, ⟨by (with_reducible repeat (first | refine blk_drewN ?_ _ | refine blk_drew ?_ | refine blk_alloc ?_ _)); exact BK977.out⟩, ⟨by (with_reducible repeat (first | refine blk_drewN ?_ _ | refine blk_drew ?_ | refine blk_alloc ?_ _)); exact BK234.out⟩, ⟨by (with_reducible repeat (first | refine blk_drewN ?_ _ | refine blk_drew ?_ | refine blk_alloc ?_ _)); exact BK240.out⟩, ⟨by repeat (first | (with_reducible first | exact HB.out | apply below_alloc | apply pw_below_drewN | apply below_drew1 | refine below_set ?_ GE977.out | refine below_set ?_ GE234.out | refine below_set ?_ GE240.out) | exact HB.out)⟩⟩
 }
 {
 replace c20 := Bool.eq_false_iff.mpr c20
 subst c20
 have H1 : (laws_FnExactReadRope.j0 k a0 t233 true t229 t230 t235 t236 a977_0) = some r := by rw [if_neg (show ¬ (false = true) by decide)] at H; exact H
 clear H
 have H := H1
 clear H1
 have H' := ak H
 clear H
 have hnb27 := NB240_977.out
 have hnc27 := NB977_240.out
 have hnb28 := NB240_234.out
 have hnc28 := NB234_240.out
 have hcz29_0 : w14.cell? ⟨gb240, 0, none⟩ = some (.int .i16 0) := (blk_cell BK240.out 0).trans rfl
 have hcz29_1 : w14.cell? ⟨gb240, 1, none⟩ = some (.slice none 0 0) := (blk_cell BK240.out 1).trans rfl
 have hfz29_0 := blk_frozen BK240.out 0
 have hfz29_1 := blk_frozen BK240.out 1
 have hnb30 := NB234_977.out
 have hnc30 := NB977_234.out
 have hcz31_0 : w14.cell? ⟨gb234, 0, none⟩ = some (.int .i16 t229) := (blk_cell BK234.out 0).trans rfl
 have hcz31_1 : w14.cell? ⟨gb234, 1, none⟩ = some (.slice Ao12 t230.length co12) := (blk_cell BK234.out 1).trans rfl
 have hfz31_0 := blk_frozen BK234.out 0
 have hfz31_1 := blk_frozen BK234.out 1
 go_wp2_with (first | ((with_reducible refine gate_callee (f := 11) rfl ?_); refine goesL_ (some 26) rfl rfl Tryd.func11 (by kernel_rfl) rfl #[.agg #[.int .i16 t235, .slice Ao18 t236.length co18], .agg #[.int .i16 t229, .slice Ao12 t230.length co12]] rfl (by (try simp only [List.map_toArray, List.map_cons, List.map_nil]); first | done | rfl | (simp only [List.length_drop, List.length_take]; rfl)) ?_; (with_reducible refine (laws_eqRope.calls k t235 _ _ t236 t229 _ _ t230 false _ ?side1 ?side2 ?side3 ?side4 A19.out).mono ?_); (case side1 => refine (Kd.R_reads' (e := 29) (base := w.heap.size) (ok := fun k_ => (True ∧ some k_ ≠ (.slice Ao12 t230.length co12 : Value).ownBlock)) (n := t236.length) (c := co18) ?_).2.2; exact (by (with_reducible repeat (first | apply Kd.R_alloc | apply Kd.R_drewN | apply Kd.R_drew)); exact (Kd.R_mono (Kd.R_far (p := ⟨gb240, 1, none⟩) (Kd.R_far (p := ⟨gb240, 0, none⟩) (Kd.R_types HO238.out BK240.out (by decide)) (fun _ hk => hk.2) (.int .i16 t235)) (fun _ hk => hk.2) (.slice Ao18 t236.length co18)) (fun _ h_ => h_.1)))); (case side2 => exact (Kd.R_reads' HO238.out).2.1); (case side3 => refine (Kd.R_reads' (e := 29) (base := w.heap.size) (ok := fun k_ => (True ∧ some k_ ≠ (.slice Ao18 t236.length co18 : Value).ownBlock)) (n := t230.length) (c := co12) ?_).2.2; exact (by (with_reducible repeat (first | apply Kd.R_alloc | apply Kd.R_drewN | apply Kd.R_drew)); exact (Kd.R_mono (Kd.R_far (p := ⟨gb240, 1, none⟩) (Kd.R_far (p := ⟨gb240, 0, none⟩) (Kd.R_types HO232.out BK240.out (by decide)) (fun _ hk => hk.2) (.int .i16 t235)) (fun _ hk => hk.2) (.slice Ao18 t236.length co18)) (fun _ h_ => h_.1)))); (case side4 => exact (Kd.R_reads' HO232.out).2.1); rintro e w32 ⟨rfl, hb⟩; refine ⟨_, rfl, ?_⟩; have n0_ := ak (Kd.R_below (by (with_reducible repeat (first | apply Kd.R_alloc | apply Kd.R_drewN | apply Kd.R_drew)); exact (Kd.R_mono (Kd.R_far (p := ⟨gb240, 1, none⟩) (Kd.R_far (p := ⟨gb240, 0, none⟩) (Kd.R_types HO232.out BK240.out (by decide)) (fun _ hk => hk.2) (.int .i16 t235)) (fun _ hk => hk.2) (.slice Ao18 t236.length co18)) (fun _ h_ => h_.1))) hb); have n1_ := ak (Kd.R_below (by (with_reducible repeat (first | apply Kd.R_alloc | apply Kd.R_drewN | apply Kd.R_drew)); exact (Kd.R_mono (Kd.R_far (p := ⟨gb240, 1, none⟩) (Kd.R_far (p := ⟨gb240, 0, none⟩) (Kd.R_types HO238.out BK240.out (by decide)) (fun _ hk => hk.2) (.int .i16 t235)) (fun _ hk => hk.2) (.slice Ao18 t236.length co18)) (fun _ h_ => h_.1))) hb); have n2_ := ak (blk_below (g := 0) (o := .cells #[.int .i64 a977_0] 3 (0, 0)) (by (with_reducible repeat (first | refine blk_drewN ?_ _ | refine blk_drew ?_ | refine blk_alloc ?_ _)); refine blk_far ?_ NB977_240.out _; (with_reducible repeat (first | refine blk_drewN ?_ _ | refine blk_drew ?_ | refine blk_alloc ?_ _)); refine blk_far ?_ NB977_240.out _; (with_reducible repeat (first | refine blk_drewN ?_ _ | refine blk_drew ?_ | refine blk_alloc ?_ _)); exact BK977.out) hb); have n3_ := ak (blk_below (g := gb234) (o := .cells #[.int .i16 t229, .slice Ao12 t230.length co12] 32 (0, 0)) (by (with_reducible repeat (first | refine blk_drewN ?_ _ | refine blk_drew ?_ | refine blk_alloc ?_ _)); refine blk_far ?_ NB234_240.out _; (with_reducible repeat (first | refine blk_drewN ?_ _ | refine blk_drew ?_ | refine blk_alloc ?_ _)); refine blk_far ?_ NB234_240.out _; (with_reducible repeat (first | refine blk_drewN ?_ _ | refine blk_drew ?_ | refine blk_alloc ?_ _)); exact BK234.out) hb); have n4_ := ak (blk_below (g := gb240) (o := .cells #[.int .i16 t235, .slice Ao18 t236.length co18] 32 (0, 0)) (by (with_reducible repeat (first | refine blk_drewN ?_ _ | refine blk_drew ?_ | refine blk_alloc ?_ _)); refine blk_put (cs := #[.int .i16 t235, .slice none 0 0]) ?_ 1 _ rfl; (with_reducible repeat (first | refine blk_drewN ?_ _ | refine blk_drew ?_ | refine blk_alloc ?_ _)); refine blk_put (cs := #[.int .i16 0, .slice none 0 0]) ?_ 0 _ rfl; (with_reducible repeat (first | refine blk_drewN ?_ _ | refine blk_drew ?_ | refine blk_alloc ?_ _)); exact BK240.out) hb); have n5_ := ak (below_step (by repeat (first | (with_reducible first | exact HB.out | apply below_alloc | apply pw_below_drewN | apply below_drew1 | refine below_set ?_ GE977.out | refine below_set ?_ GE234.out | refine below_set ?_ GE240.out) | exact HB.out)) hb); clear HO232 HO238 BK977 BK234 BK240 HB; have HO232 := n0_; have HO238 := n1_; have BK977 := n2_; have BK234 := n3_; have BK240 := n4_; have HB := n5_; clear n0_ n1_ n2_ n3_ n4_ n5_; (try clear hb); (try clear hb2); (try clear hk); (try clear hi)))
 go_meet
 case rel => exact ⟨_, (true), (by first | rfl | (simp; done) | (simp [*]; done)), H', ⟨by first | omega | exact Nat.le_refl _⟩, ⟨by (with_reducible repeat (first | apply Kd.R_alloc | apply Kd.R_drewN | apply Kd.R_drew)); exact Kd.R_mono HO232.out (fun _ hk => hk.2)⟩, ⟨by (with_reducible repeat (first | apply Kd.R_alloc | apply Kd.R_drewN | apply Kd.R_drew)); exact Kd.R_mono HO238.out (fun _ hk => hk.2)⟩, ⟨by (with_reducible repeat (first | refine blk_drewN ?_ _ | refine blk_drew ?_ | refine blk_alloc ?_ _)); exact BK977.out⟩, ⟨by (with_reducible repeat (first | refine blk_drewN ?_ _ | refine blk_drew ?_ | refine blk_alloc ?_ _)); exact BK234.out⟩, ⟨by (with_reducible repeat (first | refine blk_drewN ?_ _ | refine blk_drew ?_ | refine blk_alloc ?_ _)); exact BK240.out⟩, ⟨by repeat (first | (with_reducible first | exact HB.out | apply below_alloc | apply pw_below_drewN | apply below_drew1 | refine below_set ?_ GE977.out | refine below_set ?_ GE234.out | refine below_set ?_ GE240.out) | exact HB.out)⟩⟩
 }
 )
 case rest => (
 clear HC7
 try clear c1
 try clear c2
 try clear p2
 try clear c3
 try clear c4
 try clear c4b0
 try clear c4b1
 try clear c9
 try clear hx9
 try clear c10
 try clear c11
 try clear c15
 try clear c16
 try clear c20
 try clear c21
 try clear c22
 try clear c24
 try clear c27
 try clear c28
 try clear c30
 try clear hcz11_0
 try clear hcz11_1
 try clear hcz17_0
 try clear hcz17_1
 try clear hcz23_0
 try clear hcz23_1
 try clear hcz25_0
 try clear hcz25_1
 try clear hcz29_0
 try clear hcz29_1
 try clear hcz31_0
 try clear hcz31_1
 try clear hfz11_0
 try clear hfz11_1
 try clear hfz17_0
 try clear hfz17_1
 try clear hfz23_0
 try clear hfz23_1
 try clear hfz25_0
 try clear hfz25_1
 try clear hfz29_0
 try clear hfz29_1
 try clear hfz31_0
 try clear hfz31_1
 obtain ⟨kq, x32_6, rfl, HA, HJ6, HO_235001, HO_241001, BK977, BK234, BK240, HB⟩ := hcut
 cases kq with
 | zero => exact absurd HA.out (by simp [laws_FnExactReadRope.j0])
 | succ kj6 => (
 have H := HA.out
 clear HA
 simp only [laws_FnExactReadRope.j0] at H
 by_cases c33 : x32_6 = true
 {
 subst c33
 have H1 : (some false) = some r := by rw [if_pos rfl] at H; exact H
 clear H
 have H := H1
 clear H1
 exact absurd ((Option.some.inj H).trans HT.out) (by decide)
 }
 {
 replace c33 := Bool.eq_false_iff.mpr c33
 subst c33
 have H1 : ((laws_markRope.f kj6 t235 t236 1).bind fun bt242 => ((laws_heldRope.f kj6 t235 bt242.2 1).bind fun t244 => (if t244 < 0 then (some false) else (if t244 = bt242.1 then ((impl_ReadRope.f kj6 a0 a977_0).bind fun bt245 => ((laws_eqRope.f kj6 bt245.1 bt245.2.1 t229 t230).bind fun t251 => (if t251 = true then (laws_FnExactReadRope.j1 kj6 bt242.1 (bt245.2.2 != t233) t235 bt242.2) else (laws_FnExactReadRope.j1 kj6 bt242.1 true t235 bt242.2)))) else (some false))))) = some r := by rw [if_neg (show ¬ (false = true) by decide)] at H; exact H
 clear H
 have H := H1
 clear H1
 replace H := Option.bind_eq_some_iff.mp H
 obtain ⟨⟨t242, t243⟩, A340, H⟩ := H
 replace H : ((laws_heldRope.f kj6 t235 t243 1).bind fun t244 => (if t244 < 0 then (some false) else (if t244 = t242 then ((impl_ReadRope.f kj6 a0 a977_0).bind fun bt245 => ((laws_eqRope.f kj6 bt245.1 bt245.2.1 t229 t230).bind fun t251 => (if t251 = true then (laws_FnExactReadRope.j1 kj6 t242 (bt245.2.2 != t233) t235 t243) else (laws_FnExactReadRope.j1 kj6 t242 true t235 t243)))) else (some false)))) = some r := H
 have A34 := ak A340
 clear A340
 replace H := Option.bind_eq_some_iff.mp H
 obtain ⟨t244, A350, H⟩ := H
 replace H : (if t244 < 0 then (some false) else (if t244 = t242 then ((impl_ReadRope.f kj6 a0 a977_0).bind fun bt245 => ((laws_eqRope.f kj6 bt245.1 bt245.2.1 t229 t230).bind fun t251 => (if t251 = true then (laws_FnExactReadRope.j1 kj6 t242 (bt245.2.2 != t233) t235 t243) else (laws_FnExactReadRope.j1 kj6 t242 true t235 t243)))) else (some false))) = some r := H
 have A35 := ak A350
 clear A350
 by_cases c36 : t244 < 0
 · rw [if_pos c36] at H; have c36b0 : decide (t244 < 0) = true := decide_eq_true c36; clear c36; exact absurd ((Option.some.inj H).trans HT.out) (by decide)
 {
 rw [if_neg c36] at H
 have c36b0 : decide (t244 < 0) = false := decide_eq_false c36
 clear c36
 by_cases c37 : t244 = t242
 {
 rw [if_pos c37] at H
 have c37b0 : (t244 == t242) = true := beq_iff_eq.mpr c37
 have c37b1 : (t244 != t242) = false := bne_eq_false_iff_eq.mpr c37
 clear c37
 replace H := Option.bind_eq_some_iff.mp H
 obtain ⟨⟨t245, t246, t249⟩, A380, H⟩ := H
 replace H : ((laws_eqRope.f kj6 t245 t246 t229 t230).bind fun t251 => (if t251 = true then (laws_FnExactReadRope.j1 kj6 t242 (t249 != t233) t235 t243) else (laws_FnExactReadRope.j1 kj6 t242 true t235 t243))) = some r := H
 have A38 := ak A380
 clear A380
 have HC39 := ak H
 clear H
 have hnb40 := NB240_977.out
 have hnc40 := NB977_240.out
 have hnb41 := NB240_234.out
 have hnc41 := NB234_240.out
 have hcz42_0 : wc.cell? ⟨gb240, 0, none⟩ = some (.int .i16 t235) := (blk_cell BK240.out 0).trans rfl
 have hcz42_1 : wc.cell? ⟨gb240, 1, none⟩ = some (.slice Ao18 t236.length co18) := (blk_cell BK240.out 1).trans rfl
 have hfz42_0 := blk_frozen BK240.out 0
 have hfz42_1 := blk_frozen BK240.out 1
 go_upto_region 16 with (first | ((with_reducible refine gate_callee (f := 12) rfl ?_); refine goesL_ (some 35) rfl rfl Tryd.func12 (by kernel_rfl) rfl #[.agg #[.int .i16 t235, .slice Ao18 t236.length co18], .int .i64 1] rfl (by (try simp only [List.map_toArray, List.map_cons, List.map_nil]); first | done | rfl | (simp only [List.length_drop, List.length_take]; rfl)) ?_; (with_reducible refine (laws_markRope.calls kj6 t235 (fun k_ => some k_ = (.slice Ao18 t236.length co18 : Value).ownBlock) (.slice Ao18 t236.length co18) t236 1 t242 t243 w _ ?side1 ?side2 A34.out).mono ?_); (case side1 => repeat (first | (with_reducible first | exact HB.out | apply below_alloc | apply pw_below_drewN | apply below_drew1 | refine below_set ?_ GE977.out | refine below_set ?_ GE234.out | refine below_set ?_ GE240.out) | exact HB.out)); (case side2 => exact Kd.R_tight rfl HO_241001.out); rintro e w43 ⟨rfl, hy0, hb, hkp⟩; refine ⟨_, rfl, ?_⟩; have n0_ := ak (Kd.R_mono (ok' := fun k_ => some k_ ≠ (.slice Ao18 t236.length co18 : Value).ownBlock) (Kd.R_keptB (HO_235001.out) hkp (fun k_ hk_ hs_ => (hk_) hs_)) (fun k_ hk_ => hk_.1)); have n1_ := ak (Kd.R_reok rfl hy0 (fun k_ e_ => HO_241001.out.1 k_ e_)); have n2_ := ak (blk_kept (zK BK977.out) hkp (fun hs_ => (fun e_ => (Kd.R_ne HO_241001.out BK977.out (by decide)) e_) hs_)); have n3_ := ak (blk_kept (zK BK234.out) hkp (fun hs_ => (fun e_ => (Kd.R_ne HO_241001.out BK234.out (by decide)) e_) hs_)); have n4_ := ak (blk_kept (zK BK240.out) hkp (fun hs_ => (fun e_ => (Kd.R_ne HO_241001.out BK240.out (by decide)) e_) hs_)); have n5_ := ak (hb); clear HO_235001 HO_241001 BK977 BK234 BK240 HB; have HO_235001 := n0_; have HO_241001 := n1_; have BK977 := n2_; have BK234 := n3_; have BK240 := n4_; have HB := n5_; clear n0_ n1_ n2_ n3_ n4_ n5_; (try clear hb); (try clear hkp); (try clear hy0); have hcz44_0 : w43.cell? ⟨gb240, 0, none⟩ = some (.int .i16 t235) := (blk_cell BK240.out 0).trans rfl; have hcz44_1 : w43.cell? ⟨gb240, 1, none⟩ = some (.slice Ao18 t236.length co18) := (blk_cell BK240.out 1).trans rfl; have hfz44_0 := blk_frozen BK240.out 0; have hfz44_1 := blk_frozen BK240.out 1) | ((with_reducible refine gate_callee (f := 13) rfl ?_); refine goesL_ (some 38) rfl rfl Tryd.func13 (by kernel_rfl) rfl #[.agg #[.int .i16 t235, .slice Ao18 t243.length co18], .int .i64 1] rfl (by (try simp only [List.map_toArray, List.map_cons, List.map_nil]); first | done | (rw [show t243.length = t236.length from (Kd.R_reads' HO_241001.out).1.symm] <;> rfl) | rfl | (simp only [List.length_drop, List.length_take]; rfl)) ?_; (with_reducible refine (laws_heldRope.calls kj6 t235 _ _ t243 1 t244 _ ?side1 ?side2 A35.out).mono ?_); (case side1 => exact zC (Kd.R_reads' HO_241001.out).2.2); (case side2 => rw [show t243.length = t236.length from (Kd.R_reads' HO_241001.out).1.symm]; exact (Kd.R_reads' HO_241001.out).2.1); rintro e w45 ⟨rfl, hb⟩; refine ⟨_, rfl, ?_⟩; have n0_ := ak (Kd.R_below (zR HO_235001.out) hb); have n1_ := ak (Kd.R_below (zR HO_241001.out) hb); have n2_ := ak (blk_below (g := 0) (o := .cells #[.int .i64 a977_0] 3 (0, 0)) (zK BK977.out) hb); have n3_ := ak (blk_below (g := gb234) (o := .cells #[.int .i16 t229, .slice Ao12 t230.length co12] 32 (0, 0)) (zK BK234.out) hb); have n4_ := ak (blk_below (g := gb240) (o := .cells #[.int .i16 t235, .slice Ao18 t236.length co18] 32 (0, 0)) (zK BK240.out) hb); have n5_ := ak (below_step (by repeat (first | (with_reducible first | exact HB.out | apply below_alloc | apply pw_below_drewN | apply below_drew1 | refine below_set ?_ GE977.out | refine below_set ?_ GE234.out | refine below_set ?_ GE240.out) | exact HB.out)) hb); clear HO_235001 HO_241001 BK977 BK234 BK240 HB; have HO_235001 := n0_; have HO_241001 := n1_; have BK977 := n2_; have BK234 := n3_; have BK240 := n4_; have HB := n5_; clear n0_ n1_ n2_ n3_ n4_ n5_; (try clear hb); (try clear hb2); (try clear hk); (try clear hi)) | ((with_reducible refine gate_callee (f := 10) rfl ?_); refine goesL_ (some 46) rfl rfl Tryd.func10 (by kernel_rfl) rfl #[.string a0] rfl (by (try simp only [List.map_toArray, List.map_cons, List.map_nil]); first | done | rfl | (simp only [List.length_drop, List.length_take]; rfl)) ?_; (with_reducible refine (impl_ReadRope.calls kj6 a0 a977_0  t245 t246 t249 _ ?side1 ?side2 A38.out).mono ?_); (case side1 => exact (by first | exact BK977.out | ((with_reducible repeat (first | refine blk_drewN ?_ _ | refine blk_drew ?_ | refine blk_alloc ?_ _)); exact BK977.out))); (case side2 => exact Go.Proofs.YtchnklikeimpiaaDoor.H.tab10_below HGT.out (by repeat (first | (with_reducible first | exact HB.out | apply below_alloc | apply pw_below_drewN | apply below_drew1 | refine below_set ?_ GE977.out | refine below_set ?_ GE234.out | refine below_set ?_ GE240.out) | exact HB.out))); rintro e w46 ⟨v247, rfl, ho0, hb⟩; refine ⟨_, rfl, ?_⟩; have n0_ := ak (Kd.R_elder' (zR HO_235001.out) (Kd.R_base ho0) hb); have n1_ := ak (Kd.R_elder' (zR HO_241001.out) (Kd.R_base ho0) hb); have n2_ := ak (Kd.R_lower (Kd.R_new' (Kd.R_new' ho0 (Kd.R_lt (zR HO_235001.out))) (Kd.R_lt (zR HO_241001.out))) (below_size (by repeat (first | (with_reducible first | exact HB.out | apply below_alloc | apply pw_below_drewN | apply below_drew1 | refine below_set ?_ GE977.out | refine below_set ?_ GE234.out | refine below_set ?_ GE240.out) | exact HB.out)))); have n3_ := ak (blk_below (g := 0) (o := .cells #[.int .i64 a977_0] 3 (0, 0)) (zK BK977.out) hb); have n4_ := ak (blk_below (g := gb234) (o := .cells #[.int .i16 t229, .slice Ao12 t230.length co12] 32 (0, 0)) (zK BK234.out) hb); have n5_ := ak (blk_below (g := gb240) (o := .cells #[.int .i16 t235, .slice Ao18 t236.length co18] 32 (0, 0)) (zK BK240.out) hb); have n6_ := ak (below_step (by repeat (first | (with_reducible first | exact HB.out | apply below_alloc | apply pw_below_drewN | apply below_drew1 | refine below_set ?_ GE977.out | refine below_set ?_ GE234.out | refine below_set ?_ GE240.out) | exact HB.out)) hb); clear HO_235001 HO_241001 BK977 BK234 BK240 HB; have HO_235001 := n0_; have HO_241001 := n1_; have HO248 := n2_; have BK977 := n3_; have BK234 := n4_; have BK240 := n5_; have HB := n6_; clear n0_ n1_ n2_ n3_ n4_ n5_ n6_; (try clear hb); (try clear hb2); (try clear hk); (try clear hi); (try clear ho0)) | ((with_reducible refine gate_dst (N := 9) rfl ?_); refine box_event ?hg (N := 9) ?hd (cs := #[.int .i16 0, .slice none 0 0]) (t := 32) ?hr ?_; (case hd => rfl); (case hg => rfl); (case hr => first | (go_simp; done) | (go_simp; rfl)); intro gb250 hg w47 hbox hb; have n0_ := ak (Kd.R_below (zR HO_235001.out) hb); have n1_ := ak (Kd.R_below (zR HO_241001.out) hb); have n2_ := ak (Kd.R_below (zR HO248.out) hb); have n3_ := ak (blk_below (g := 0) (o := .cells #[.int .i64 a977_0] 3 (0, 0)) (zK BK977.out) hb); have n4_ := ak (blk_below (g := gb234) (o := .cells #[.int .i16 t229, .slice Ao12 t230.length co12] 32 (0, 0)) (zK BK234.out) hb); have n5_ := ak (blk_below (g := gb240) (o := .cells #[.int .i16 t235, .slice Ao18 t236.length co18] 32 (0, 0)) (zK BK240.out) hb); have n6_ := ak (below_step (by repeat (first | (with_reducible first | exact HB.out | apply below_alloc | apply pw_below_drewN | apply below_drew1 | refine below_set ?_ GE977.out | refine below_set ?_ GE234.out | refine below_set ?_ GE240.out) | exact HB.out)) hb); have n7_ := ak (hbox); have n8_ := ak ((by rw [hg]; exact (below_size (by repeat (first | (with_reducible first | exact HB.out | apply below_alloc | apply pw_below_drewN | apply below_drew1 | refine below_set ?_ GE977.out | refine below_set ?_ GE234.out | refine below_set ?_ GE240.out) | exact HB.out))) : w.heap.size ≤ gb250)); have n9_ := ak ((by rw [hg]; exact (below_size (by repeat (first | (with_reducible first | exact HB.out | apply below_alloc | apply pw_below_drewN | apply below_drew1 | refine below_set ?_ GE977.out | refine below_set ?_ GE234.out | refine below_set ?_ GE240.out) | exact HB.out))) : w.heap.size ≤ gb250)); have n10_ := ak ((by rw [hg]; exact Nat.ne_of_lt (blk_lt (g := 0) (o := .cells #[.int .i64 a977_0] 3 (0, 0)) (zK BK977.out)) : 0 ≠ gb250)); have n11_ := ak ((by rw [hg]; exact Nat.ne_of_gt (blk_lt (g := 0) (o := .cells #[.int .i64 a977_0] 3 (0, 0)) (zK BK977.out)) : gb250 ≠ 0)); have n12_ := ak ((by rw [hg]; exact Nat.ne_of_lt (blk_lt (g := gb234) (o := .cells #[.int .i16 t229, .slice Ao12 t230.length co12] 32 (0, 0)) (zK BK234.out)) : gb234 ≠ gb250)); have n13_ := ak ((by rw [hg]; exact Nat.ne_of_gt (blk_lt (g := gb234) (o := .cells #[.int .i16 t229, .slice Ao12 t230.length co12] 32 (0, 0)) (zK BK234.out)) : gb250 ≠ gb234)); have n14_ := ak ((by rw [hg]; exact Nat.ne_of_lt (blk_lt (g := gb240) (o := .cells #[.int .i16 t235, .slice Ao18 t236.length co18] 32 (0, 0)) (zK BK240.out)) : gb240 ≠ gb250)); have n15_ := ak ((by rw [hg]; exact Nat.ne_of_gt (blk_lt (g := gb240) (o := .cells #[.int .i16 t235, .slice Ao18 t236.length co18] 32 (0, 0)) (zK BK240.out)) : gb250 ≠ gb240)); clear HO_235001 HO_241001 HO248 BK977 BK234 BK240 HB; have HO_235001 := n0_; have HO_241001 := n1_; have HO248 := n2_; have BK977 := n3_; have BK234 := n4_; have BK240 := n5_; have HB := n6_; have BK250 := n7_; have GW250 := n8_; have GE250 := n9_; have NB977_250 := n10_; have NB250_977 := n11_; have NB234_250 := n12_; have NB250_234 := n13_; have NB240_250 := n14_; have NB250_240 := n15_; clear n0_ n1_ n2_ n3_ n4_ n5_ n6_ n7_ n8_ n9_ n10_ n11_ n12_ n13_ n14_ n15_; clear hb hbox hg; have hnb48 := NB250_977.out; have hnc48 := NB977_250.out; have hnb49 := NB250_234.out; have hnc49 := NB234_250.out; have hnb50 := NB250_240.out; have hnc50 := NB240_250.out; have hcz51_0 : w47.cell? ⟨gb250, 0, none⟩ = some (.int .i16 0) := (blk_cell BK250.out 0).trans rfl; have hcz51_1 : w47.cell? ⟨gb250, 1, none⟩ = some (.slice none 0 0) := (blk_cell BK250.out 1).trans rfl; have hfz51_0 := blk_frozen BK250.out 0; have hfz51_1 := blk_frozen BK250.out 1; obtain ⟨Ao52, co52, eo52⟩ := Kd.R_slice HO248.out; subst eo52))
 (try simp only [Act.put, zs, zz, zk])
 go_cut [57] (fun v57 wc => ∃ (kq : Nat) (x57_38 : Bool), v57 = .bool x57_38 ∧ Aside0 (laws_FnExactReadRope.j1 kq t242 x57_38 t235 t243 = some r) ∧ Aside0 (kq ≤ kj6) ∧ Aside0 (Kd.R (Kd.int .i16) 29 wc w.heap.size (fun k_ => some k_ ≠ ((.slice Ao18 t236.length co18) : Value).ownBlock ∧ some k_ ≠ ((.slice Ao52 t246.length co52) : Value).ownBlock) (.slice Ao12 t230.length co12) t230) ∧ Aside0 (Kd.R (Kd.int .i16) 29 wc w.heap.size (fun k_ => some k_ ≠ ((.slice Ao12 t230.length co12) : Value).ownBlock ∧ some k_ ≠ ((.slice Ao52 t246.length co52) : Value).ownBlock) (.slice Ao18 t236.length co18) t243) ∧ Aside0 (Kd.R (Kd.int .i16) 29 wc w.heap.size (fun k_ => some k_ ≠ ((.slice Ao12 t230.length co12) : Value).ownBlock ∧ some k_ ≠ ((.slice Ao18 t236.length co18) : Value).ownBlock) (.slice Ao52 t246.length co52) t246) ∧ Aside0 (wc.heap[0]? = some (.cells #[.int .i64 a977_0] 3 (0, 0))) ∧ Aside0 (wc.heap[gb234]? = some (.cells #[.int .i16 t229, (.slice Ao12 t230.length co12)] 32 (0, 0))) ∧ Aside0 (wc.heap[gb240]? = some (.cells #[.int .i16 t235, (.slice Ao18 t236.length co18)] 32 (0, 0))) ∧ Aside0 (wc.heap[gb250]? = some (.cells #[.int .i16 t245, (.slice Ao52 t246.length co52)] 32 (0, 0))) ∧ Aside0 (Below w.heap.size w wc))
 case first => (
 have H := HC39.out
 clear HC39
 replace H := Option.bind_eq_some_iff.mp H
 obtain ⟨t251, A530, H⟩ := H
 replace H : (if t251 = true then (laws_FnExactReadRope.j1 kj6 t242 (t249 != t233) t235 t243) else (laws_FnExactReadRope.j1 kj6 t242 true t235 t243)) = some r := H
 have A53 := ak A530
 clear A530
 by_cases c54 : t251 = true
 {
 subst c54
 have H1 : (laws_FnExactReadRope.j1 kj6 t242 (t249 != t233) t235 t243) = some r := by rw [if_pos rfl] at H; exact H
 clear H
 have H := H1
 clear H1
 have H' := ak H
 clear H
 have hnb55 := NB250_977.out
 have hnc55 := NB977_250.out
 have hnb56 := NB250_234.out
 have hnc56 := NB234_250.out
 have hnb57 := NB250_240.out
 have hnc57 := NB240_250.out
 have hcz58_0 : w47.cell? ⟨gb250, 0, none⟩ = some (.int .i16 0) := (blk_cell BK250.out 0).trans rfl
 have hcz58_1 : w47.cell? ⟨gb250, 1, none⟩ = some (.slice none 0 0) := (blk_cell BK250.out 1).trans rfl
 have hfz58_0 := blk_frozen BK250.out 0
 have hfz58_1 := blk_frozen BK250.out 1
 have hnb59 := NB234_977.out
 have hnc59 := NB977_234.out
 have hnb60 := NB234_240.out
 have hnc60 := NB240_234.out
 have hcz61_0 : w47.cell? ⟨gb234, 0, none⟩ = some (.int .i16 t229) := (blk_cell BK234.out 0).trans rfl
 have hcz61_1 : w47.cell? ⟨gb234, 1, none⟩ = some (.slice Ao12 t230.length co12) := (blk_cell BK234.out 1).trans rfl
 have hfz61_0 := blk_frozen BK234.out 0
 have hfz61_1 := blk_frozen BK234.out 1
 go_wp2_with (first | ((with_reducible refine gate_callee (f := 11) rfl ?_); refine goesL_ (some 51) rfl rfl Tryd.func11 (by kernel_rfl) rfl #[.agg #[.int .i16 t245, .slice Ao52 t246.length co52], .agg #[.int .i16 t229, .slice Ao12 t230.length co12]] rfl (by (try simp only [List.map_toArray, List.map_cons, List.map_nil]); first | done | rfl | (simp only [List.length_drop, List.length_take]; rfl)) ?_; (with_reducible refine (laws_eqRope.calls kj6 t245 _ _ t246 t229 _ _ t230 true _ ?side1 ?side2 ?side3 ?side4 A53.out).mono ?_); (case side1 => refine (Kd.R_reads' (e := 29) (base := w.heap.size) (ok := fun k_ => ((True ∧ some k_ ≠ (.slice Ao12 t230.length co12 : Value).ownBlock) ∧ some k_ ≠ (.slice Ao18 t236.length co18 : Value).ownBlock)) (n := t246.length) (c := co52) ?_).2.2; exact (by (with_reducible repeat (first | apply Kd.R_alloc | apply Kd.R_drewN | apply Kd.R_drew)); exact (Kd.R_mono (Kd.R_far (p := ⟨gb250, 1, none⟩) (Kd.R_far (p := ⟨gb250, 0, none⟩) (Kd.R_types HO248.out BK250.out (by decide)) (fun _ hk => hk.2) (.int .i16 t245)) (fun _ hk => hk.2) (.slice Ao52 t246.length co52)) (fun _ h_ => h_.1)))); (case side2 => exact (Kd.R_reads' HO248.out).2.1); (case side3 => refine (Kd.R_reads' (e := 29) (base := w.heap.size) (ok := fun k_ => (some k_ ≠ (.slice Ao18 t236.length co18 : Value).ownBlock ∧ some k_ ≠ (.slice Ao52 t246.length co52 : Value).ownBlock)) (n := t230.length) (c := co12) ?_).2.2; exact (by (with_reducible repeat (first | apply Kd.R_alloc | apply Kd.R_drewN | apply Kd.R_drew)); exact (Kd.R_mono (Kd.R_far (p := ⟨gb250, 1, none⟩) (Kd.R_far (p := ⟨gb250, 0, none⟩) (Kd.R_types HO_235001.out BK250.out (by decide)) (fun _ hk => hk.2) (.int .i16 t245)) (fun _ hk => hk.2) (.slice Ao52 t246.length co52)) (fun _ h_ => h_.1)))); (case side4 => exact (Kd.R_reads' HO_235001.out).2.1); rintro e w62 ⟨rfl, hb⟩; refine ⟨_, rfl, ?_⟩; have n0_ := ak (Kd.R_below (by (with_reducible repeat (first | apply Kd.R_alloc | apply Kd.R_drewN | apply Kd.R_drew)); exact (Kd.R_mono (Kd.R_far (p := ⟨gb250, 1, none⟩) (Kd.R_far (p := ⟨gb250, 0, none⟩) (Kd.R_types HO_235001.out BK250.out (by decide)) (fun _ hk => hk.2) (.int .i16 t245)) (fun _ hk => hk.2) (.slice Ao52 t246.length co52)) (fun _ h_ => h_.1))) hb); have n1_ := ak (Kd.R_below (by (with_reducible repeat (first | apply Kd.R_alloc | apply Kd.R_drewN | apply Kd.R_drew)); exact (Kd.R_mono (Kd.R_far (p := ⟨gb250, 1, none⟩) (Kd.R_far (p := ⟨gb250, 0, none⟩) (Kd.R_types HO_241001.out BK250.out (by decide)) (fun _ hk => hk.2) (.int .i16 t245)) (fun _ hk => hk.2) (.slice Ao52 t246.length co52)) (fun _ h_ => h_.1))) hb); have n2_ := ak (Kd.R_below (by (with_reducible repeat (first | apply Kd.R_alloc | apply Kd.R_drewN | apply Kd.R_drew)); exact (Kd.R_mono (Kd.R_far (p := ⟨gb250, 1, none⟩) (Kd.R_far (p := ⟨gb250, 0, none⟩) (Kd.R_types HO248.out BK250.out (by decide)) (fun _ hk => hk.2) (.int .i16 t245)) (fun _ hk => hk.2) (.slice Ao52 t246.length co52)) (fun _ h_ => h_.1))) hb); have n3_ := ak (blk_below (g := 0) (o := .cells #[.int .i64 a977_0] 3 (0, 0)) (by (with_reducible repeat (first | refine blk_drewN ?_ _ | refine blk_drew ?_ | refine blk_alloc ?_ _)); refine blk_far ?_ NB977_250.out _; (with_reducible repeat (first | refine blk_drewN ?_ _ | refine blk_drew ?_ | refine blk_alloc ?_ _)); refine blk_far ?_ NB977_250.out _; (with_reducible repeat (first | refine blk_drewN ?_ _ | refine blk_drew ?_ | refine blk_alloc ?_ _)); exact BK977.out) hb); have n4_ := ak (blk_below (g := gb234) (o := .cells #[.int .i16 t229, .slice Ao12 t230.length co12] 32 (0, 0)) (by (with_reducible repeat (first | refine blk_drewN ?_ _ | refine blk_drew ?_ | refine blk_alloc ?_ _)); refine blk_far ?_ NB234_250.out _; (with_reducible repeat (first | refine blk_drewN ?_ _ | refine blk_drew ?_ | refine blk_alloc ?_ _)); refine blk_far ?_ NB234_250.out _; (with_reducible repeat (first | refine blk_drewN ?_ _ | refine blk_drew ?_ | refine blk_alloc ?_ _)); exact BK234.out) hb); have n5_ := ak (blk_below (g := gb240) (o := .cells #[.int .i16 t235, .slice Ao18 t236.length co18] 32 (0, 0)) (by (with_reducible repeat (first | refine blk_drewN ?_ _ | refine blk_drew ?_ | refine blk_alloc ?_ _)); refine blk_far ?_ NB240_250.out _; (with_reducible repeat (first | refine blk_drewN ?_ _ | refine blk_drew ?_ | refine blk_alloc ?_ _)); refine blk_far ?_ NB240_250.out _; (with_reducible repeat (first | refine blk_drewN ?_ _ | refine blk_drew ?_ | refine blk_alloc ?_ _)); exact BK240.out) hb); have n6_ := ak (blk_below (g := gb250) (o := .cells #[.int .i16 t245, .slice Ao52 t246.length co52] 32 (0, 0)) (by (with_reducible repeat (first | refine blk_drewN ?_ _ | refine blk_drew ?_ | refine blk_alloc ?_ _)); refine blk_put (cs := #[.int .i16 t245, .slice none 0 0]) ?_ 1 _ rfl; (with_reducible repeat (first | refine blk_drewN ?_ _ | refine blk_drew ?_ | refine blk_alloc ?_ _)); refine blk_put (cs := #[.int .i16 0, .slice none 0 0]) ?_ 0 _ rfl; (with_reducible repeat (first | refine blk_drewN ?_ _ | refine blk_drew ?_ | refine blk_alloc ?_ _)); exact BK250.out) hb); have n7_ := ak (below_step (by repeat (first | (with_reducible first | exact HB.out | apply below_alloc | apply pw_below_drewN | apply below_drew1 | refine below_set ?_ GE977.out | refine below_set ?_ GE234.out | refine below_set ?_ GE240.out | refine below_set ?_ GE250.out) | exact HB.out)) hb); clear HO_235001 HO_241001 HO248 BK977 BK234 BK240 BK250 HB; have HO_235001 := n0_; have HO_241001 := n1_; have HO248 := n2_; have BK977 := n3_; have BK234 := n4_; have BK240 := n5_; have BK250 := n6_; have HB := n7_; clear n0_ n1_ n2_ n3_ n4_ n5_ n6_ n7_; (try clear hb); (try clear hb2); (try clear hk); (try clear hi)))
 go_meet
 case rel => exact ⟨_, ((t249 != t233)), (by first | rfl | (simp; done) | (simp [*]; done)), H', ⟨by have := HJ6.out; first | omega | exact Nat.le_refl _⟩, ⟨by (with_reducible repeat (first | apply Kd.R_alloc | apply Kd.R_drewN | apply Kd.R_drew)); exact HO_235001.out⟩, ⟨by (with_reducible repeat (first | apply Kd.R_alloc | apply Kd.R_drewN | apply Kd.R_drew)); exact HO_241001.out⟩, ⟨by (with_reducible repeat (first | apply Kd.R_alloc | apply Kd.R_drewN | apply Kd.R_drew)); exact Kd.R_mono HO248.out (fun _ hk => ⟨hk.1.2, hk.2⟩)⟩, ⟨by (with_reducible repeat (first | refine blk_drewN ?_ _ | refine blk_drew ?_ | refine blk_alloc ?_ _)); exact BK977.out⟩, ⟨by (with_reducible repeat (first | refine blk_drewN ?_ _ | refine blk_drew ?_ | refine blk_alloc ?_ _)); exact BK234.out⟩, ⟨by (with_reducible repeat (first | refine blk_drewN ?_ _ | refine blk_drew ?_ | refine blk_alloc ?_ _)); exact BK240.out⟩, ⟨by (with_reducible repeat (first | refine blk_drewN ?_ _ | refine blk_drew ?_ | refine blk_alloc ?_ _)); exact BK250.out⟩, ⟨by repeat (first | (with_reducible first | exact HB.out | apply below_alloc | apply pw_below_drewN | apply below_drew1 | refine below_set ?_ GE977.out | refine below_set ?_ GE234.out | refine below_set ?_ GE240.out | refine below_set ?_ GE250.out) | exact HB.out)⟩⟩
 }
 {
 replace c54 := Bool.eq_false_iff.mpr c54
 subst c54
 have H1 : (laws_FnExactReadRope.j1 kj6 t242 true t235 t243) = some r := by rw [if_neg (show ¬ (false = true) by decide)] at H; exact H
 clear H
 have H := H1
 clear H1
 have H' := ak H
 clear H
 have hnb63 := NB250_977.out
 have hnc63 := NB977_250.out
 have hnb64 := NB250_234.out
 have hnc64 := NB234_250.out
 have hnb65 := NB250_240.out
 have hnc65 := NB240_250.out
 have hcz66_0 : w47.cell? ⟨gb250, 0, none⟩ = some (.int .i16 0) := (blk_cell BK250.out 0).trans rfl
 have hcz66_1 : w47.cell? ⟨gb250, 1, none⟩ = some (.slice none 0 0) := (blk_cell BK250.out 1).trans rfl
 have hfz66_0 := blk_frozen BK250.out 0
 have hfz66_1 := blk_frozen BK250.out 1
 have hnb67 := NB234_977.out
 have hnc67 := NB977_234.out
 have hnb68 := NB234_240.out
 have hnc68 := NB240_234.out
 have hcz69_0 : w47.cell? ⟨gb234, 0, none⟩ = some (.int .i16 t229) := (blk_cell BK234.out 0).trans rfl
 have hcz69_1 : w47.cell? ⟨gb234, 1, none⟩ = some (.slice Ao12 t230.length co12) := (blk_cell BK234.out 1).trans rfl
 have hfz69_0 := blk_frozen BK234.out 0
 have hfz69_1 := blk_frozen BK234.out 1
 go_wp2_with (first | ((with_reducible refine gate_callee (f := 11) rfl ?_); refine goesL_ (some 51) rfl rfl Tryd.func11 (by kernel_rfl) rfl #[.agg #[.int .i16 t245, .slice Ao52 t246.length co52], .agg #[.int .i16 t229, .slice Ao12 t230.length co12]] rfl (by (try simp only [List.map_toArray, List.map_cons, List.map_nil]); first | done | rfl | (simp only [List.length_drop, List.length_take]; rfl)) ?_; (with_reducible refine (laws_eqRope.calls kj6 t245 _ _ t246 t229 _ _ t230 false _ ?side1 ?side2 ?side3 ?side4 A53.out).mono ?_); (case side1 => refine (Kd.R_reads' (e := 29) (base := w.heap.size) (ok := fun k_ => ((True ∧ some k_ ≠ (.slice Ao12 t230.length co12 : Value).ownBlock) ∧ some k_ ≠ (.slice Ao18 t236.length co18 : Value).ownBlock)) (n := t246.length) (c := co52) ?_).2.2; exact (by (with_reducible repeat (first | apply Kd.R_alloc | apply Kd.R_drewN | apply Kd.R_drew)); exact (Kd.R_mono (Kd.R_far (p := ⟨gb250, 1, none⟩) (Kd.R_far (p := ⟨gb250, 0, none⟩) (Kd.R_types HO248.out BK250.out (by decide)) (fun _ hk => hk.2) (.int .i16 t245)) (fun _ hk => hk.2) (.slice Ao52 t246.length co52)) (fun _ h_ => h_.1)))); (case side2 => exact (Kd.R_reads' HO248.out).2.1); (case side3 => refine (Kd.R_reads' (e := 29) (base := w.heap.size) (ok := fun k_ => (some k_ ≠ (.slice Ao18 t236.length co18 : Value).ownBlock ∧ some k_ ≠ (.slice Ao52 t246.length co52 : Value).ownBlock)) (n := t230.length) (c := co12) ?_).2.2; exact (by (with_reducible repeat (first | apply Kd.R_alloc | apply Kd.R_drewN | apply Kd.R_drew)); exact (Kd.R_mono (Kd.R_far (p := ⟨gb250, 1, none⟩) (Kd.R_far (p := ⟨gb250, 0, none⟩) (Kd.R_types HO_235001.out BK250.out (by decide)) (fun _ hk => hk.2) (.int .i16 t245)) (fun _ hk => hk.2) (.slice Ao52 t246.length co52)) (fun _ h_ => h_.1)))); (case side4 => exact (Kd.R_reads' HO_235001.out).2.1); rintro e w70 ⟨rfl, hb⟩; refine ⟨_, rfl, ?_⟩; have n0_ := ak (Kd.R_below (by (with_reducible repeat (first | apply Kd.R_alloc | apply Kd.R_drewN | apply Kd.R_drew)); exact (Kd.R_mono (Kd.R_far (p := ⟨gb250, 1, none⟩) (Kd.R_far (p := ⟨gb250, 0, none⟩) (Kd.R_types HO_235001.out BK250.out (by decide)) (fun _ hk => hk.2) (.int .i16 t245)) (fun _ hk => hk.2) (.slice Ao52 t246.length co52)) (fun _ h_ => h_.1))) hb); have n1_ := ak (Kd.R_below (by (with_reducible repeat (first | apply Kd.R_alloc | apply Kd.R_drewN | apply Kd.R_drew)); exact (Kd.R_mono (Kd.R_far (p := ⟨gb250, 1, none⟩) (Kd.R_far (p := ⟨gb250, 0, none⟩) (Kd.R_types HO_241001.out BK250.out (by decide)) (fun _ hk => hk.2) (.int .i16 t245)) (fun _ hk => hk.2) (.slice Ao52 t246.length co52)) (fun _ h_ => h_.1))) hb); have n2_ := ak (Kd.R_below (by (with_reducible repeat (first | apply Kd.R_alloc | apply Kd.R_drewN | apply Kd.R_drew)); exact (Kd.R_mono (Kd.R_far (p := ⟨gb250, 1, none⟩) (Kd.R_far (p := ⟨gb250, 0, none⟩) (Kd.R_types HO248.out BK250.out (by decide)) (fun _ hk => hk.2) (.int .i16 t245)) (fun _ hk => hk.2) (.slice Ao52 t246.length co52)) (fun _ h_ => h_.1))) hb); have n3_ := ak (blk_below (g := 0) (o := .cells #[.int .i64 a977_0] 3 (0, 0)) (by (with_reducible repeat (first | refine blk_drewN ?_ _ | refine blk_drew ?_ | refine blk_alloc ?_ _)); refine blk_far ?_ NB977_250.out _; (with_reducible repeat (first | refine blk_drewN ?_ _ | refine blk_drew ?_ | refine blk_alloc ?_ _)); refine blk_far ?_ NB977_250.out _; (with_reducible repeat (first | refine blk_drewN ?_ _ | refine blk_drew ?_ | refine blk_alloc ?_ _)); exact BK977.out) hb); have n4_ := ak (blk_below (g := gb234) (o := .cells #[.int .i16 t229, .slice Ao12 t230.length co12] 32 (0, 0)) (by (with_reducible repeat (first | refine blk_drewN ?_ _ | refine blk_drew ?_ | refine blk_alloc ?_ _)); refine blk_far ?_ NB234_250.out _; (with_reducible repeat (first | refine blk_drewN ?_ _ | refine blk_drew ?_ | refine blk_alloc ?_ _)); refine blk_far ?_ NB234_250.out _; (with_reducible repeat (first | refine blk_drewN ?_ _ | refine blk_drew ?_ | refine blk_alloc ?_ _)); exact BK234.out) hb); have n5_ := ak (blk_below (g := gb240) (o := .cells #[.int .i16 t235, .slice Ao18 t236.length co18] 32 (0, 0)) (by (with_reducible repeat (first | refine blk_drewN ?_ _ | refine blk_drew ?_ | refine blk_alloc ?_ _)); refine blk_far ?_ NB240_250.out _; (with_reducible repeat (first | refine blk_drewN ?_ _ | refine blk_drew ?_ | refine blk_alloc ?_ _)); refine blk_far ?_ NB240_250.out _; (with_reducible repeat (first | refine blk_drewN ?_ _ | refine blk_drew ?_ | refine blk_alloc ?_ _)); exact BK240.out) hb); have n6_ := ak (blk_below (g := gb250) (o := .cells #[.int .i16 t245, .slice Ao52 t246.length co52] 32 (0, 0)) (by (with_reducible repeat (first | refine blk_drewN ?_ _ | refine blk_drew ?_ | refine blk_alloc ?_ _)); refine blk_put (cs := #[.int .i16 t245, .slice none 0 0]) ?_ 1 _ rfl; (with_reducible repeat (first | refine blk_drewN ?_ _ | refine blk_drew ?_ | refine blk_alloc ?_ _)); refine blk_put (cs := #[.int .i16 0, .slice none 0 0]) ?_ 0 _ rfl; (with_reducible repeat (first | refine blk_drewN ?_ _ | refine blk_drew ?_ | refine blk_alloc ?_ _)); exact BK250.out) hb); have n7_ := ak (below_step (by repeat (first | (with_reducible first | exact HB.out | apply below_alloc | apply pw_below_drewN | apply below_drew1 | refine below_set ?_ GE977.out | refine below_set ?_ GE234.out | refine below_set ?_ GE240.out | refine below_set ?_ GE250.out) | exact HB.out)) hb); clear HO_235001 HO_241001 HO248 BK977 BK234 BK240 BK250 HB; have HO_235001 := n0_; have HO_241001 := n1_; have HO248 := n2_; have BK977 := n3_; have BK234 := n4_; have BK240 := n5_; have BK250 := n6_; have HB := n7_; clear n0_ n1_ n2_ n3_ n4_ n5_ n6_ n7_; (try clear hb); (try clear hb2); (try clear hk); (try clear hi)))
 go_meet
 case rel => exact ⟨_, (true), (by first | rfl | (simp; done) | (simp [*]; done)), H', ⟨by have := HJ6.out; first | omega | exact Nat.le_refl _⟩, ⟨by (with_reducible repeat (first | apply Kd.R_alloc | apply Kd.R_drewN | apply Kd.R_drew)); exact HO_235001.out⟩, ⟨by (with_reducible repeat (first | apply Kd.R_alloc | apply Kd.R_drewN | apply Kd.R_drew)); exact HO_241001.out⟩, ⟨by (with_reducible repeat (first | apply Kd.R_alloc | apply Kd.R_drewN | apply Kd.R_drew)); exact Kd.R_mono HO248.out (fun _ hk => ⟨hk.1.2, hk.2⟩)⟩, ⟨by (with_reducible repeat (first | refine blk_drewN ?_ _ | refine blk_drew ?_ | refine blk_alloc ?_ _)); exact BK977.out⟩, ⟨by (with_reducible repeat (first | refine blk_drewN ?_ _ | refine blk_drew ?_ | refine blk_alloc ?_ _)); exact BK234.out⟩, ⟨by (with_reducible repeat (first | refine blk_drewN ?_ _ | refine blk_drew ?_ | refine blk_alloc ?_ _)); exact BK240.out⟩, ⟨by (with_reducible repeat (first | refine blk_drewN ?_ _ | refine blk_drew ?_ | refine blk_alloc ?_ _)); exact BK250.out⟩, ⟨by repeat (first | (with_reducible first | exact HB.out | apply below_alloc | apply pw_below_drewN | apply below_drew1 | refine below_set ?_ GE977.out | refine below_set ?_ GE234.out | refine below_set ?_ GE240.out | refine below_set ?_ GE250.out) | exact HB.out)⟩⟩
 }
 )
 case rest => (
 clear HC39
 try clear c1
 try clear c2
 try clear p2
 try clear c3
 try clear c4
 try clear c4b0
 try clear c4b1
 try clear c5
 try clear c6
 try clear c9
 try clear hx9
 try clear c10
 try clear c11
 try clear c12
 try clear c13
 try clear c15
 try clear c16
 try clear c20
 try clear c21
 try clear c22
 try clear c24
 try clear c27
 try clear c28
 try clear c30
 try clear c33
 try clear c36
 try clear c36b0
 try clear c37
 try clear c37b0
 try clear c37b1
 try clear c40
 try clear c41
 try clear c48
 try clear c49
 try clear c50
 try clear c54
 try clear c55
 try clear c56
 try clear c57
 try clear c59
 try clear c60
 try clear c63
 try clear c64
 try clear c65
 try clear c67
 try clear c68
 try clear hcz11_0
 try clear hcz11_1
 try clear hcz17_0
 try clear hcz17_1
 try clear hcz23_0
 try clear hcz23_1
 try clear hcz25_0
 try clear hcz25_1
 try clear hcz29_0
 try clear hcz29_1
 try clear hcz31_0
 try clear hcz31_1
 try clear hcz42_0
 try clear hcz42_1
 try clear hcz44_0
 try clear hcz44_1
 try clear hcz51_0
 try clear hcz51_1
 try clear hcz58_0
 try clear hcz58_1
 try clear hcz61_0
 try clear hcz61_1
 try clear hcz66_0
 try clear hcz66_1
 try clear hcz69_0
 try clear hcz69_1
 try clear hfz11_0
 try clear hfz11_1
 try clear hfz17_0
 try clear hfz17_1
 try clear hfz23_0
 try clear hfz23_1
 try clear hfz25_0
 try clear hfz25_1
 try clear hfz29_0
 try clear hfz29_1
 try clear hfz31_0
 try clear hfz31_1
 try clear hfz42_0
 try clear hfz42_1
 try clear hfz44_0
 try clear hfz44_1
 try clear hfz51_0
 try clear hfz51_1
 try clear hfz58_0
 try clear hfz58_1
 try clear hfz61_0
 try clear hfz61_1
 try clear hfz66_0
 try clear hfz66_1
 try clear hfz69_0
 try clear hfz69_1
 try clear p2
 obtain ⟨kq, x57_38, rfl, HA, HJ38, HO_235001, HO_241001, HO_251001, BK977, BK234, BK240, BK250, HB⟩ := hcut
 have hl241001_38 := (Kd.R_reads' HO_241001.out).1
 rw [hl241001_38] at HO_241001
 (try simp only [hl241001_38])
 (try simp only [hl241001_38] at BK977)
 (try simp only [hl241001_38] at BK234)
 (try simp only [hl241001_38] at BK240)
 (try simp only [hl241001_38] at BK250)
 (try simp only [hl241001_38] at HO_235001)
 (try simp only [hl241001_38] at HO_251001)
 cases kq with
 | zero => exact absurd HA.out (by simp [laws_FnExactReadRope.j1])
 | succ kj38 => (
 have H := HA.out
 clear HA
 simp only [laws_FnExactReadRope.j1] at H
 by_cases c71 : x57_38 = true
 {
 subst c71
 have H1 : (some false) = some r := by rw [if_pos rfl] at H; exact H
 clear H
 have H := H1
 clear H1
 exact absurd ((Option.some.inj H).trans HT.out) (by decide)
 }
 {
 replace c71 := Bool.eq_false_iff.mpr c71
 subst c71
 have H1 : ((laws_heldRope.f kj38 t235 t243 1).bind fun t252 => (if t252 < 0 then (some false) else (if t252 = t242 then (some true) else (some false)))) = some r := by rw [if_neg (show ¬ (false = true) by decide)] at H; exact H
 clear H
 have H := H1
 clear H1
 replace H := Option.bind_eq_some_iff.mp H
 obtain ⟨t252, A720, H⟩ := H
 replace H : (if t252 < 0 then (some false) else (if t252 = t242 then (some true) else (some false))) = some r := H
 have A72 := ak A720
 clear A720
 by_cases c73 : t252 < 0
 · rw [if_pos c73] at H; have c73b0 : decide (t252 < 0) = true := decide_eq_true c73; clear c73; exact absurd ((Option.some.inj H).trans HT.out) (by decide)
 {
 rw [if_neg c73] at H
 have c73b0 : decide (t252 < 0) = false := decide_eq_false c73
 clear c73
 by_cases c74 : t252 = t242
 {
 rw [if_pos c74] at H
 have c74b0 : (t252 == t242) = true := beq_iff_eq.mpr c74
 have c74b1 : (t252 != t242) = false := bne_eq_false_iff_eq.mpr c74
 clear c74
 obtain rfl := Option.some.inj H
 have hnb75 := NB240_977.out
 have hnc75 := NB977_240.out
 have hnb76 := NB240_234.out
 have hnc76 := NB234_240.out
 have hnb77 := NB240_250.out
 have hnc77 := NB250_240.out
 have hcz78_0 : wc.cell? ⟨gb240, 0, none⟩ = some (.int .i16 t235) := (blk_cell BK240.out 0).trans rfl
 have hcz78_1 : wc.cell? ⟨gb240, 1, none⟩ = some (.slice Ao18 t243.length co18) := (blk_cell BK240.out 1).trans rfl
 have hfz78_0 := blk_frozen BK240.out 0
 have hfz78_1 := blk_frozen BK240.out 1
 go_wp2_with (first | ((with_reducible refine gate_callee (f := 13) rfl ?_); refine goesL_ (some 60) rfl rfl Tryd.func13 (by kernel_rfl) rfl #[.agg #[.int .i16 t235, .slice Ao18 t243.length co18], .int .i64 1] rfl (by (try simp only [List.map_toArray, List.map_cons, List.map_nil]); first | done | rfl | (simp only [List.length_drop, List.length_take]; rfl)) ?_; (with_reducible refine (laws_heldRope.calls kj38 t235 _ _ t243 1 t252 _ ?side1 ?side2 A72.out).mono ?_); (case side1 => exact zC (Kd.R_reads' HO_241001.out).2.2); (case side2 => exact (Kd.R_reads' HO_241001.out).2.1); rintro e w79 ⟨rfl, hb⟩; refine ⟨_, rfl, ?_⟩; have n0_ := ak (Kd.R_below (zR HO_235001.out) hb); have n1_ := ak (Kd.R_below (zR HO_241001.out) hb); have n2_ := ak (Kd.R_below (zR HO_251001.out) hb); have n3_ := ak (blk_below (g := 0) (o := .cells #[.int .i64 a977_0] 3 (0, 0)) (zK BK977.out) hb); have n4_ := ak (blk_below (g := gb234) (o := .cells #[.int .i16 t229, .slice Ao12 t230.length co12] 32 (0, 0)) (zK BK234.out) hb); have n5_ := ak (blk_below (g := gb240) (o := .cells #[.int .i16 t235, .slice Ao18 t243.length co18] 32 (0, 0)) (zK BK240.out) hb); have n6_ := ak (blk_below (g := gb250) (o := .cells #[.int .i16 t245, .slice Ao52 t246.length co52] 32 (0, 0)) (zK BK250.out) hb); have n7_ := ak (below_step (by repeat (first | (with_reducible first | exact HB.out | apply below_alloc | apply pw_below_drewN | apply below_drew1 | refine below_set ?_ GE977.out | refine below_set ?_ GE234.out | refine below_set ?_ GE240.out | refine below_set ?_ GE250.out) | exact HB.out)) hb); clear HO_235001 HO_241001 HO_251001 BK977 BK234 BK240 BK250 HB; have HO_235001 := n0_; have HO_241001 := n1_; have HO_251001 := n2_; have BK977 := n3_; have BK234 := n4_; have BK240 := n5_; have BK250 := n6_; have HB := n7_; clear n0_ n1_ n2_ n3_ n4_ n5_ n6_ n7_; (try clear hb); (try clear hb2); (try clear hk); (try clear hi)))
 go_ret
 exact ⟨by first | rfl | (simp [errW_none, errW_some] <;> rfl) | (simp [*, errW_none, errW_some] <;> rfl), by repeat (first | (with_reducible first | exact HB.out | apply below_alloc | apply pw_below_drewN | apply below_drew1 | refine below_set ?_ GE977.out | refine below_set ?_ GE234.out | refine below_set ?_ GE240.out | refine below_set ?_ GE250.out) | exact HB.out)⟩
 }
 · rw [if_neg c74] at H; have c74b0 : (t252 == t242) = false := beq_eq_false_iff_ne.mpr c74; have c74b1 : (t252 != t242) = true := bne_iff_ne.mpr c74; exact absurd ((Option.some.inj H).trans HT.out) (by decide)
 }
 }
 )
 )
 }
 · rw [if_neg c37] at H; have c37b0 : (t244 == t242) = false := beq_eq_false_iff_ne.mpr c37; have c37b1 : (t244 != t242) = true := bne_iff_ne.mpr c37; exact absurd ((Option.some.inj H).trans HT.out) (by decide)
 }
 }
 )
 )
 }
/-- THE ONE PURE STATEMENT of laws_FnExactReadRope: mine. -/
def laws_FnExactReadRope.Pure : Prop := ∀ (a0 : ByteArray) (a977_0 : Int) , (a0.size ≤ 9223372036854775807) → ∃ k, laws_FnExactReadRope.f k a0 a977_0  = some true

end Go.Proofs.YtchnklikeimpiaaDoor.P
