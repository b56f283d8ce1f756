-- Printed by wip/print (my turned copy of the kit's print) out of the translation; Lean checks it.
import Derived.Test.YtchnklikeimpiaaDoorP0
import Derived.Test.YtchnklikeimpiaaDoorP1
import Derived.Test.YtchnklikeimpiaaDoorP2
import Derived.Test.YtchnklikeimpiaaDoorP9
import Derived.Test.YtchnklikeimpiaaDoorP11
namespace Go.Proofs.YtchnklikeimpiaaDoor.P
open Go.RowKit Go.Proofs.YtchnklikeimpiaaDoorW.PrintWords Go.Proofs.YtchnklikeimpiaaDoorW.PrintLast Go.Proofs.YtchnklikeimpiaaDoorW.PrintMore
attribute [local go_sem] max2_int min2_int max_two min_two max_three min_three max_four min_four   -- for this text's walks alone
set_option linter.unusedVariables false
set_option linter.unusedSimpArgs false

/-! ### impl_ReadLog: function 15 -/
mutual
def impl_ReadLog.l0 : Nat → ByteArray → List ByteArray → Int → Int → Int → List Int → List Int → Int → Option (Int × List Int × List Int × Int)
  | 0, _, _, _, _, _, _, _, _ => none
  | k + 1, x0, x31, x32, x33, x345000, x345001, x345002, x978000 => if x33 < x32 then (if 0 ≤ x33 then (if x33 < (x31.length : Int) then ((strings_Cut.f (rdOf ByteArray.empty x31 x33) (⟨#[47]⟩ : ByteArray) x978000).bind fun bt354 => ((impl_number.f bt354.1 100).bind fun bt357 => ((strings_Split.f bt354.2.1 (⟨#[44]⟩ : ByteArray) x978000).bind fun t359 => (impl_ReadLog.l1 k x0 bt357.1 0 x31 x32 x33 t359 (t359.length : Int) 0 x345000 x345001 x345002 x978000)))) else (none)) else (none)) else (if x0.toList = ([] : List UInt8) then (some (0, ([] : List Int), ([] : List Int), 5)) else ((impl_LogText.f k x345000 x345001 x345002).bind fun t352 => (if t352.toList = x0.toList then (some (x345000, x345001, x345002, 0)) else (some (0, ([] : List Int), ([] : List Int), 5)))))
def impl_ReadLog.l1 : Nat → ByteArray → Int → Int → List ByteArray → Int → Int → List ByteArray → Int → Int → Int → List Int → List Int → Int → Option (Int × List Int × List Int × Int)
  | 0, _, _, _, _, _, _, _, _, _, _, _, _, _ => none
  | k + 1, x0, x11, x13, x31, x32, x33, x49, x50, x51, x345000, x345001, x345002, x978000 => if x51 < x50 then (if 0 ≤ x51 then (if x51 < (x49.length : Int) then ((impl_number.f (rdOf ByteArray.empty x49 x51) 13).bind fun bt363 => (if bt363.2 = true then (if 0 ≤ bt363.1 then (impl_ReadLog.l1 k x0 x11 (Go.bits .or .u16 x13 (shl .u16 1 bt363.1)) x31 x32 x33 x49 x50 (wrap64 (x51 + 1)) x345000 x345001 x345002 x978000) else (none)) else (impl_ReadLog.l1 k x0 x11 x13 x31 x32 x33 x49 x50 (wrap64 (x51 + 1)) x345000 x345001 x345002 x978000))) else (none)) else (none)) else ((some (([x13] : List Int) : List Int)).bind fun y365 => (if x345001.length + y365.length < 70368744177664 then ((some (([IntKind.i16.wrap (x11)] : List Int) : List Int)).bind fun y371 => (if x345002.length + y371.length < 70368744177664 then (impl_ReadLog.l0 k x0 x31 x32 (wrap64 (x33 + 1)) x345000 (x345001 ++ y365) (x345002 ++ y371) x978000) else (none))) else (none)))
end
def impl_ReadLog.f (k : Nat) (a0 : ByteArray) (a977_0 : Int)  : Option (Int × List Int × List Int × Int) := (strings_Split.f a0 (⟨#[32]⟩ : ByteArray) a977_0).bind fun t341 => (if 0 < (t341.length : Int) then ((strings_TrimSuffix.f (rdOf ByteArray.empty t341 0) (⟨#[58]⟩ : ByteArray)).bind fun t346 => ((impl_number.f t346 14).bind fun bt347 => (if 1 ≤ (t341.length : Int) then ((some (t341.drop (1 : Int).toNat : List ByteArray)).bind fun y349 => (impl_ReadLog.l0 k a0 y349 (y349.length : Int) 0 bt347.1 ([] : List Int) ([] : List Int) a977_0)) else (none)))) else (none))
theorem impl_ReadLog.mono_l : ∀ k, (∀ y0 y1 y2 y3 y4 y5 y6 y7, LeO (impl_ReadLog.l0 k y0 y1 y2 y3 y4 y5 y6 y7) (impl_ReadLog.l0 (k + 1) y0 y1 y2 y3 y4 y5 y6 y7)) ∧ (∀ y0 y1 y2 y3 y4 y5 y6 y7 y8 y9 y10 y11 y12, LeO (impl_ReadLog.l1 k y0 y1 y2 y3 y4 y5 y6 y7 y8 y9 y10 y11 y12) (impl_ReadLog.l1 (k + 1) y0 y1 y2 y3 y4 y5 y6 y7 y8 y9 y10 y11 y12))
  | 0 => ⟨fun _ _ _ _ _ _ _ _ r h => by simp [impl_ReadLog.l0] at h, fun _ _ _ _ _ _ _ _ _ _ _ _ _ r h => by simp [impl_ReadLog.l1] at h⟩
  | k + 1 => by
    obtain ⟨ih0, ih1⟩ := impl_ReadLog.mono_l k
    refine ⟨?_, ?_⟩
    · intro y0 y1 y2 y3 y4 y5 y6 y7
      unfold impl_ReadLog.l0
      repeat' first
      | (with_reducible exact ih0 _ _ _ _ _ _ _ _)
      | (with_reducible exact ih1 _ _ _ _ _ _ _ _ _ _ _ _ _)
      | (with_reducible exact impl_LogText.mono _ _ _ _)
      | (with_reducible exact LeO.refl _)
      | (with_reducible exact LeO.none _)
      | (with_reducible refine LeO.ite ?_ ?_)
      | (with_reducible refine LeO.bind ?_ (fun _ => ?_))
      | exact ih0 _ _ _ _ _ _ _ _
      | exact ih1 _ _ _ _ _ _ _ _ _ _ _ _ _
      | exact impl_LogText.mono _ _ _ _
      | exact LeO.none _
      | refine LeO.ite ?_ ?_
      | refine LeO.bind ?_ (fun _ => ?_)
    · intro y0 y1 y2 y3 y4 y5 y6 y7 y8 y9 y10 y11 y12
      unfold impl_ReadLog.l1
      repeat' first
      | (with_reducible exact ih0 _ _ _ _ _ _ _ _)
      | (with_reducible exact ih1 _ _ _ _ _ _ _ _ _ _ _ _ _)
      | (with_reducible exact impl_LogText.mono _ _ _ _)
      | (with_reducible exact LeO.refl _)
      | (with_reducible exact LeO.none _)
      | (with_reducible refine LeO.ite ?_ ?_)
      | (with_reducible refine LeO.bind ?_ (fun _ => ?_))
      | exact ih0 _ _ _ _ _ _ _ _
      | exact ih1 _ _ _ _ _ _ _ _ _ _ _ _ _
      | exact impl_LogText.mono _ _ _ _
      | exact LeO.none _
      | refine LeO.ite ?_ ?_
      | refine LeO.bind ?_ (fun _ => ?_)
theorem impl_ReadLog.mono : ∀ a0 a1 k, LeO (impl_ReadLog.f k a0 a1) (impl_ReadLog.f (k + 1) a0 a1) := by
  intro a0 a1 k
  obtain ⟨ih0, ih1⟩ := impl_ReadLog.mono_l k
  unfold impl_ReadLog.f
  repeat' first
      | (with_reducible exact ih0 _ _ _ _ _ _ _ _)
      | (with_reducible exact ih1 _ _ _ _ _ _ _ _ _ _ _ _ _)
      | (with_reducible exact impl_LogText.mono _ _ _ _)
      | (with_reducible exact LeO.refl _)
      | (with_reducible exact LeO.none _)
      | (with_reducible refine LeO.ite ?_ ?_)
      | (with_reducible refine LeO.bind ?_ (fun _ => ?_))
      | exact ih0 _ _ _ _ _ _ _ _
      | exact ih1 _ _ _ _ _ _ _ _ _ _ _ _ _
      | exact impl_LogText.mono _ _ _ _
      | exact LeO.none _
      | refine LeO.ite ?_ ?_
      | refine LeO.bind ?_ (fun _ => ?_)
def impl_ReadLog.T17 : Bool × List (List Nat × List Nat) := (true, [([], []), ([0], [0]), ([], []), ([2], [2]), ([1, 3], [1, 3]), ([], []), ([5], [5]), ([], []), ([7], [7]), ([8], [8]), ([6, 9, 4], [6, 9]), ([0, 1, 2, 3, 4, 5, 6], []), ([11, 4, 10, 0, 1, 2, 3, 4, 5, 6], [4, 11]), ([0, 1, 2, 3, 4, 5, 6, 7, 8, 9, 10, 11, 12], []), ([13, 10, 12, 0, 1, 2, 3, 4, 5, 6, 7, 8, 9, 10, 11, 12], [10, 13])])
def impl_ReadLog.B17 : List Nat := [0, 1, 0, 4, 15, 0, 32, 0, 128, 384, 1023, 127, 4095, 8191, 16383]
theorem impl_ReadLog.tab17 : rtab .any (opsOf Tryd.f15 17) = impl_ReadLog.T17 := by kernel_rfl
theorem impl_ReadLog.bits17 : waitsOk impl_ReadLog.T17.2 impl_ReadLog.B17 = true := by kernel_rfl
set_option maxHeartbeats 8000000 in
set_option maxRecDepth 100000 in
theorem impl_ReadLog.calls (k : Nat) (a0 : ByteArray) (a977_0 : Int)  (r1 : Int) (r2 : List Int) (r3 : List Int) (r4 : Int) (w : World) (hx977 : w.heap[0]? = some (.cells #[.int .i64 a977_0] 3 (0, 0))) (hgt : Go.Proofs.YtchnklikeimpiaaDoor.H.Tab10 w) (h : impl_ReadLog.f k a0 a977_0 = some (r1, r2, r3, r4)) :
    Calls Tryd.prog 15 #[.string a0] w fun e w' => ∃ v1_ v2_ : Value, e = .returned (.tuple #[.agg #[.int .i64 r1, v1_, v2_], .int .i64 r4]) ∧ Kd.R (Kd.int .u16) 62 w' w.heap.size (fun _ => True) v1_ r2 ∧ Kd.R (Kd.int .i16) 29 w' w.heap.size (fun _ => True) v2_ r3 ∧ Below w.heap.size w w' := by
 have hu39 := Tryd.underlying39
 have BK977 := ak hx977
 clear hx977
 have HGT := ak hgt
 clear hgt
 have HB := ak (Below.refl w.heap.size w)
 have H : ((strings_Split.f a0 (⟨#[32]⟩ : ByteArray) a977_0).bind fun t341 => (if 0 < (t341.length : Int) then ((strings_TrimSuffix.f (rdOf ByteArray.empty t341 0) (⟨#[58]⟩ : ByteArray)).bind fun t346 => ((impl_number.f t346 14).bind fun bt347 => (if 1 ≤ (t341.length : Int) then ((some (t341.drop (1 : Int).toNat : List ByteArray)).bind fun y349 => (impl_ReadLog.l0 k a0 y349 (y349.length : Int) 0 bt347.1 ([] : List Int) ([] : List Int) a977_0)) else (none)))) else (none))) = some (r1, r2, r3, r4) := h
 clear h
 replace H := Option.bind_eq_some_iff.mp H
 obtain ⟨t341, A40, H⟩ := H
 replace H : (if 0 < (t341.length : Int) then ((strings_TrimSuffix.f (rdOf ByteArray.empty t341 0) (⟨#[58]⟩ : ByteArray)).bind fun t346 => ((impl_number.f t346 14).bind fun bt347 => (if 1 ≤ (t341.length : Int) then ((some (t341.drop (1 : Int).toNat : List ByteArray)).bind fun y349 => (impl_ReadLog.l0 k a0 y349 (y349.length : Int) 0 bt347.1 ([] : List Int) ([] : List Int) a977_0)) else (none)))) else (none)) = some (r1, r2, r3, r4) := H
 have A4 := ak A40
 clear A40
 by_cases c5 : 0 < (t341.length : Int)
 {
 rw [if_pos c5] at H
 have c5b0 : decide (0 < (t341.length : Int)) = true := decide_eq_true c5
 have c5b1 : decide (0 < t341.length) = true := decide_eq_true (by omega)
 clear c5
 replace H := Option.bind_eq_some_iff.mp H
 obtain ⟨t346, A60, H⟩ := H
 replace H : ((impl_number.f t346 14).bind fun bt347 => (if 1 ≤ (t341.length : Int) then ((some (t341.drop (1 : Int).toNat : List ByteArray)).bind fun y349 => (impl_ReadLog.l0 k a0 y349 (y349.length : Int) 0 bt347.1 ([] : List Int) ([] : List Int) a977_0)) else (none))) = some (r1, r2, r3, r4) := H
 have A6 := ak A60
 clear A60
 replace H := Option.bind_eq_some_iff.mp H
 obtain ⟨⟨t347, t348⟩, A70, H⟩ := H
 replace H : (if 1 ≤ (t341.length : Int) then ((some (t341.drop (1 : Int).toNat : List ByteArray)).bind fun y349 => (impl_ReadLog.l0 k a0 y349 (y349.length : Int) 0 t347 ([] : List Int) ([] : List Int) a977_0)) else (none)) = some (r1, r2, r3, r4) := H
 have A7 := ak A70
 clear A70
 by_cases c8 : 1 ≤ (t341.length : Int)
 {
 rw [if_pos c8] at H
 have c8b0 := eq_true c8
 have c8b1 : decide (1 ≤ (t341.length : Int)) = true := decide_eq_true c8
 clear c8
 obtain ⟨y349, hy349⟩ : ∃ y_ : List ByteArray, y_ = (t341.drop (1 : Int).toNat) := ⟨_, rfl⟩
 replace H : (impl_ReadLog.l0 k a0 y349 (y349.length : Int) 0 t347 ([] : List Int) ([] : List Int) a977_0) = some (r1, r2, r3, r4) := by first | (rw [hy349]; with_reducible exact H) | (have H2_ := (Option.bind_some _ _).symm.trans H; rw [hy349]; with_reducible exact H2_) | (have H2_ := (Option.bind_some _ _).symm.trans H; with_reducible exact H2_) | with_reducible exact H | (rw [hy349]; exact H) | exact H
 have Ny349 := ak hy349
 clear hy349
 have H' := ak H
 clear H
 go_enter Tryd.func15, Tryd.ntmps15
 go_wp2_with (first | ((with_reducible refine gate_dst (N := 2) rfl ?_); refine box_event ?hg (N := 2) ?hd (cs := #[.int .i64 0, .slice none 0 0, .slice none 0 0]) (t := 39) ?hr ?_; (case hd => rfl); (case hg => rfl); (case hr => first | (go_simp; done) | (go_simp; rfl)); intro gb340 hg w9 hbox hb; have n0_ := ak (blk_below (g := 0) (o := .cells #[.int .i64 a977_0] 3 (0, 0)) (zK BK977.out) hb); have n1_ := ak (below_step (zB HB.out) hb); have n2_ := ak (hbox); have n3_ := ak ((by rw [hg]; exact (below_size (zB HB.out)) : w.heap.size ≤ gb340)); have n4_ := ak ((by rw [hg]; exact (below_size (zB HB.out)) : w.heap.size ≤ gb340)); have n5_ := ak ((by rw [hg]; exact Nat.ne_of_lt (blk_lt (g := 0) (o := .cells #[.int .i64 a977_0] 3 (0, 0)) (zK BK977.out)) : 0 ≠ gb340)); have n6_ := ak ((by rw [hg]; exact Nat.ne_of_gt (blk_lt (g := 0) (o := .cells #[.int .i64 a977_0] 3 (0, 0)) (zK BK977.out)) : gb340 ≠ 0)); clear BK977 HB; have BK977 := n0_; have HB := n1_; have BK340 := n2_; have GW340 := n3_; have GE340 := n4_; have NB977_340 := n5_; have NB340_977 := n6_; clear n0_ n1_ n2_ n3_ n4_ n5_ n6_; clear hb hbox hg) | ((with_reducible refine gate_callee (f := 22) rfl ?_); refine goesL_ (some 19) rfl rfl Tryd.func22 (by kernel_rfl) rfl #[.string a0, .string (⟨#[32]⟩ : ByteArray)] rfl (by (try simp only [List.map_toArray, List.map_cons, List.map_nil]); first | done | rfl | (simp only [List.length_drop, List.length_take]; rfl)) ?_; (with_reducible refine (strings_Split.calls a0 (⟨#[32]⟩ : ByteArray) a977_0 t341 _ ?side1 A4.out).mono ?_); (case side1 => exact (by first | exact BK977.out | ((with_reducible repeat (first | refine blk_drewN ?_ _ | refine blk_drew ?_ | refine blk_alloc ?_ _)); exact BK977.out))); rintro e w10 ⟨v342, rfl, ho0, hb⟩; refine ⟨_, rfl, ?_⟩; have n0_ := ak (Kd.R_lower ho0 (below_size (by repeat (first | (with_reducible first | exact HB.out | apply below_alloc | apply pw_below_drewN | apply below_drew1 | refine below_set ?_ GE977.out | refine below_set ?_ GE340.out) | exact HB.out)))); have n1_ := ak (blk_below (g := 0) (o := .cells #[.int .i64 a977_0] 3 (0, 0)) (zK BK977.out) hb); have n2_ := ak (blk_below (g := gb340) (o := .cells #[.int .i64 0, .slice none 0 0, .slice none 0 0] 39 (0, 0)) (zK BK340.out) hb); have n3_ := ak (below_step (by repeat (first | (with_reducible first | exact HB.out | apply below_alloc | apply pw_below_drewN | apply below_drew1 | refine below_set ?_ GE977.out | refine below_set ?_ GE340.out) | exact HB.out)) hb); clear BK977 BK340 HB; have HO343 := n0_; have BK977 := n1_; have BK340 := n2_; have HB := n3_; clear n0_ n1_ n2_ n3_; (try clear hb); (try clear hb2); (try clear hk); (try clear hi); (try clear ho0)) | ((with_reducible refine gate_dst (N := 5) rfl ?_); refine box_event ?hg (N := 5) ?hd (cs := #[.int .i64 0, .slice none 0 0, .slice none 0 0]) (t := 39) ?hr ?_; (case hd => rfl); (case hg => rfl); (case hr => first | (go_simp; done) | (go_simp; rfl)); intro gb344 hg w11 hbox hb; have n0_ := ak (Kd.R_below (zR HO343.out) hb); have n1_ := ak (blk_below (g := 0) (o := .cells #[.int .i64 a977_0] 3 (0, 0)) (zK BK977.out) hb); have n2_ := ak (blk_below (g := gb340) (o := .cells #[.int .i64 0, .slice none 0 0, .slice none 0 0] 39 (0, 0)) (zK BK340.out) hb); have n3_ := ak (below_step (by repeat (first | (with_reducible first | exact HB.out | apply below_alloc | apply pw_below_drewN | apply below_drew1 | refine below_set ?_ GE977.out | refine below_set ?_ GE340.out) | exact HB.out)) hb); have n4_ := ak (hbox); have n5_ := ak ((by rw [hg]; exact (below_size (by repeat (first | (with_reducible first | exact HB.out | apply below_alloc | apply pw_below_drewN | apply below_drew1 | refine below_set ?_ GE977.out | refine below_set ?_ GE340.out) | exact HB.out))) : w.heap.size ≤ gb344)); have n6_ := ak ((by rw [hg]; exact (below_size (by repeat (first | (with_reducible first | exact HB.out | apply below_alloc | apply pw_below_drewN | apply below_drew1 | refine below_set ?_ GE977.out | refine below_set ?_ GE340.out) | exact HB.out))) : w.heap.size ≤ gb344)); have n7_ := ak ((by rw [hg]; exact Nat.ne_of_lt (blk_lt (g := 0) (o := .cells #[.int .i64 a977_0] 3 (0, 0)) (zK BK977.out)) : 0 ≠ gb344)); have n8_ := ak ((by rw [hg]; exact Nat.ne_of_gt (blk_lt (g := 0) (o := .cells #[.int .i64 a977_0] 3 (0, 0)) (zK BK977.out)) : gb344 ≠ 0)); have n9_ := ak ((by rw [hg]; exact Nat.ne_of_lt (blk_lt (g := gb340) (o := .cells #[.int .i64 0, .slice none 0 0, .slice none 0 0] 39 (0, 0)) (zK BK340.out)) : gb340 ≠ gb344)); have n10_ := ak ((by rw [hg]; exact Nat.ne_of_gt (blk_lt (g := gb340) (o := .cells #[.int .i64 0, .slice none 0 0, .slice none 0 0] 39 (0, 0)) (zK BK340.out)) : gb344 ≠ gb340)); clear HO343 BK977 BK340 HB; have HO343 := n0_; have BK977 := n1_; have BK340 := n2_; have HB := n3_; have BK344 := n4_; have GW344 := n5_; have GE344 := n6_; have NB977_344 := n7_; have NB344_977 := n8_; have NB340_344 := n9_; have NB344_340 := n10_; clear n0_ n1_ n2_ n3_ n4_ n5_ n6_ n7_ n8_ n9_ n10_; clear hb hbox hg; have hnb12 := NB344_977.out; have hnc12 := NB977_344.out; have hnb13 := NB344_340.out; have hnc13 := NB340_344.out; have hcz14_0 : w11.cell? ⟨gb344, 0, none⟩ = some (.int .i64 0) := (blk_cell BK344.out 0).trans rfl; have hcz14_1 : w11.cell? ⟨gb344, 1, none⟩ = some (.slice none 0 0) := (blk_cell BK344.out 1).trans rfl; have hcz14_2 : w11.cell? ⟨gb344, 2, none⟩ = some (.slice none 0 0) := (blk_cell BK344.out 2).trans rfl; have hfz14_0 := blk_frozen BK344.out 0; have hfz14_1 := blk_frozen BK344.out 1; have hfz14_2 := blk_frozen BK344.out 2; obtain ⟨Ao15, co15, eo15⟩ := Kd.R_slice HO343.out; subst eo15; have p345 : 0 ≤ (0 : Int) := (by omega); have q345 : 0 < (t341.length : Int) := of_decide_eq_true (by first | (with_reducible assumption) | assumption); obtain ⟨ad345, e345, hx345_0⟩ := Kd.at_string (Kd.R_reads' HO343.out).2.2 0 p345 q345; cases e345; have qi345 : (0 < t341.length) = True := eq_true (by omega); (try rw [show ((0 : Int)).toNat = 0 from rfl] at hx345_0); (try rw [Addr.add_zero'] at hx345_0); have hn345_0 : ad345.block ≠ gb344 := Kd.own_blk (Kd.R_ne HO343.out BK344.out (by decide)); have hn345_1 : ad345.block ≠ gb344 := Kd.own_blk (Kd.R_ne HO343.out BK344.out (by decide)); have hn345_2 : ad345.block ≠ gb344 := Kd.own_blk (Kd.R_ne HO343.out BK344.out (by decide)); replace hx345_0 := (cell_far (p := ⟨gb344, 0, none⟩) (by first | (rw [add_block]; exact hn345_0) | (show (Addr.add _ _).block ≠ _; rw [add_block]; exact hn345_0) | exact hn345_0) (.int .i64 0)).trans hx345_0; replace hx345_0 := (cell_far (p := ⟨gb344, 1, none⟩) (by first | (rw [add_block]; exact hn345_1) | (show (Addr.add _ _).block ≠ _; rw [add_block]; exact hn345_1) | exact hn345_1) (.slice none 0 0)).trans hx345_0; replace hx345_0 := (cell_far (p := ⟨gb344, 2, none⟩) (by first | (rw [add_block]; exact hn345_2) | (show (Addr.add _ _).block ≠ _; rw [add_block]; exact hn345_2) | exact hn345_2) (.slice none 0 0)).trans hx345_0; clear hn345_0 hn345_1 hn345_2; replace p345 := eq_true p345; replace q345 := eq_true q345) | ((with_reducible refine gate_callee (f := 35) rfl ?_); refine goesL_ (some 25) rfl rfl Tryd.func35 (by kernel_rfl) rfl #[.string (rdOf ByteArray.empty t341 0), .string (⟨#[58]⟩ : ByteArray)] rfl (by (try simp only [List.map_toArray, List.map_cons, List.map_nil]); first | done | rfl | (simp only [List.length_drop, List.length_take]; rfl)) ?_; (with_reducible refine (strings_TrimSuffix.calls (rdOf ByteArray.empty t341 0) (⟨#[58]⟩ : ByteArray) t346 _ A6.out).mono ?_); rintro e w16 ⟨rfl, hb⟩; refine ⟨_, rfl, ?_⟩; have n0_ := ak (Kd.R_below (by (with_reducible repeat (first | apply Kd.R_alloc | apply Kd.R_drewN | apply Kd.R_drew)); exact (Kd.R_mono (Kd.R_far (p := ⟨gb344, 2, none⟩) (Kd.R_far (p := ⟨gb344, 1, none⟩) (Kd.R_far (p := ⟨gb344, 0, none⟩) (Kd.R_types HO343.out BK344.out (by decide)) (fun _ hk => hk.2) (.int .i64 0)) (fun _ hk => hk.2) (.slice none 0 0)) (fun _ hk => hk.2) (.slice none 0 0)) (fun _ h_ => h_.1))) hb); have n1_ := ak (blk_below (g := 0) (o := .cells #[.int .i64 a977_0] 3 (0, 0)) (by (with_reducible repeat (first | refine blk_drewN ?_ _ | refine blk_drew ?_ | refine blk_alloc ?_ _)); refine blk_far ?_ NB977_344.out _; (with_reducible repeat (first | refine blk_drewN ?_ _ | refine blk_drew ?_ | refine blk_alloc ?_ _)); refine blk_far ?_ NB977_344.out _; (with_reducible repeat (first | refine blk_drewN ?_ _ | refine blk_drew ?_ | refine blk_alloc ?_ _)); refine blk_far ?_ NB977_344.out _; (with_reducible repeat (first | refine blk_drewN ?_ _ | refine blk_drew ?_ | refine blk_alloc ?_ _)); exact BK977.out) hb); have n2_ := ak (blk_below (g := gb340) (o := .cells #[.int .i64 0, .slice none 0 0, .slice none 0 0] 39 (0, 0)) (by (with_reducible repeat (first | refine blk_drewN ?_ _ | refine blk_drew ?_ | refine blk_alloc ?_ _)); refine blk_far ?_ NB340_344.out _; (with_reducible repeat (first | refine blk_drewN ?_ _ | refine blk_drew ?_ | refine blk_alloc ?_ _)); refine blk_far ?_ NB340_344.out _; (with_reducible repeat (first | refine blk_drewN ?_ _ | refine blk_drew ?_ | refine blk_alloc ?_ _)); refine blk_far ?_ NB340_344.out _; (with_reducible repeat (first | refine blk_drewN ?_ _ | refine blk_drew ?_ | refine blk_alloc ?_ _)); exact BK340.out) hb); have n3_ := ak (blk_below (g := gb344) (o := .cells #[.int .i64 0, .slice none 0 0, .slice none 0 0] 39 (0, 0)) (by (with_reducible repeat (first | refine blk_drewN ?_ _ | refine blk_drew ?_ | refine blk_alloc ?_ _)); refine blk_put (cs := #[.int .i64 0, .slice none 0 0, .slice none 0 0]) ?_ 2 _ rfl; (with_reducible repeat (first | refine blk_drewN ?_ _ | refine blk_drew ?_ | refine blk_alloc ?_ _)); refine blk_put (cs := #[.int .i64 0, .slice none 0 0, .slice none 0 0]) ?_ 1 _ rfl; (with_reducible repeat (first | refine blk_drewN ?_ _ | refine blk_drew ?_ | refine blk_alloc ?_ _)); refine blk_put (cs := #[.int .i64 0, .slice none 0 0, .slice none 0 0]) ?_ 0 _ rfl; (with_reducible repeat (first | refine blk_drewN ?_ _ | refine blk_drew ?_ | refine blk_alloc ?_ _)); exact BK344.out) hb); have n4_ := ak (below_step (by repeat (first | (with_reducible first | exact HB.out | apply below_alloc | apply pw_below_drewN | apply below_drew1 | refine below_set ?_ GE977.out | refine below_set ?_ GE340.out | refine below_set ?_ GE344.out) | exact HB.out)) hb); clear HO343 BK977 BK340 BK344 HB; have HO343 := n0_; have BK977 := n1_; have BK340 := n2_; have BK344 := n3_; have HB := n4_; clear n0_ n1_ n2_ n3_ n4_; (try clear hb); (try clear hb2); (try clear hk); (try clear hi)) | ((with_reducible refine gate_callee (f := 28) rfl ?_); refine goesL_ (some 26) rfl rfl Tryd.func28 (by kernel_rfl) rfl #[.string t346, .int .i64 14] rfl (by (try simp only [List.map_toArray, List.map_cons, List.map_nil]); first | done | rfl | (simp only [List.length_drop, List.length_take]; rfl)) ?_; (with_reducible refine (impl_number.calls t346 14  t347 t348 _ ?side1 A7.out).mono ?_); (case side1 => exact Go.Proofs.YtchnklikeimpiaaDoor.H.tab10_below HGT.out (by repeat (first | (with_reducible first | exact HB.out | apply below_alloc | apply pw_below_drewN | apply below_drew1 | refine below_set ?_ GE977.out | refine below_set ?_ GE340.out | refine below_set ?_ GE344.out) | exact HB.out))); rintro e w17 ⟨rfl, hb⟩; refine ⟨_, rfl, ?_⟩; have n0_ := ak (Kd.R_below (zR HO343.out) hb); have n1_ := ak (blk_below (g := 0) (o := .cells #[.int .i64 a977_0] 3 (0, 0)) (zK BK977.out) hb); have n2_ := ak (blk_below (g := gb340) (o := .cells #[.int .i64 0, .slice none 0 0, .slice none 0 0] 39 (0, 0)) (zK BK340.out) hb); have n3_ := ak (blk_below (g := gb344) (o := .cells #[.int .i64 0, .slice none 0 0, .slice none 0 0] 39 (0, 0)) (zK BK344.out) hb); have n4_ := ak (below_step (by repeat (first | (with_reducible first | exact HB.out | apply below_alloc | apply pw_below_drewN | apply below_drew1 | refine below_set ?_ GE977.out | refine below_set ?_ GE340.out | refine below_set ?_ GE344.out) | exact HB.out)) hb); clear HO343 BK977 BK340 BK344 HB; have HO343 := n0_; have BK977 := n1_; have BK340 := n2_; have BK344 := n3_; have HB := n4_; clear n0_ n1_ n2_ n3_ n4_; (try clear hb); (try clear hb2); (try clear hk); (try clear hi); have hcz18_0 : w17.cell? ⟨gb344, 0, none⟩ = some (.int .i64 0) := (blk_cell BK344.out 0).trans rfl; have hcz18_1 : w17.cell? ⟨gb344, 1, none⟩ = some (.slice none 0 0) := (blk_cell BK344.out 1).trans rfl; have hcz18_2 : w17.cell? ⟨gb344, 2, none⟩ = some (.slice none 0 0) := (blk_cell BK344.out 2).trans rfl; have hfz18_0 := blk_frozen BK344.out 0; have hfz18_1 := blk_frozen BK344.out 1; have hfz18_2 := blk_frozen BK344.out 2) | ((with_reducible refine gate_store (t := 2) (p := 29) rfl ?_); refine store_event (t := 2) (p := 29) (v := ?vo_w19) (w1 := (w17.setCell ⟨gb344, 0, none⟩ (.int .i64 t347))) ?hg ?ho ?hn ?hr ?_; (case ho => rfl); (case hg => rfl); (case hn => rfl); (case hr => first | (go_simp; done) | (go_simp; rfl)); intro w19 hw; have n0_ : Aside0 (Kd.R Kd.string 9 w19 w.heap.size (fun _ => True) (.slice (some ad345) t341.length co15) t341) := ⟨(by rw [hw]; exact (by (with_reducible repeat (first | apply Kd.R_alloc | apply Kd.R_drewN | apply Kd.R_drew)); exact Kd.R_mono (Kd.R_far (p := ⟨gb344, 0, none⟩) (Kd.R_types HO343.out BK344.out (by decide)) (fun _ hk => hk.2) (.int .i64 t347)) (fun _ hk => trivial)))⟩; have n1_ : Aside0 (w19.heap[0]? = some (.cells #[.int .i64 a977_0] 3 (0, 0))) := ⟨(by rw [hw]; exact (by (with_reducible repeat (first | refine blk_drewN ?_ _ | refine blk_drew ?_ | refine blk_alloc ?_ _)); refine blk_far ?_ NB977_344.out _; (with_reducible repeat (first | refine blk_drewN ?_ _ | refine blk_drew ?_ | refine blk_alloc ?_ _)); exact BK977.out))⟩; have n2_ : Aside0 (w19.heap[gb340]? = some (.cells #[.int .i64 0, .slice none 0 0, .slice none 0 0] 39 (0, 0))) := ⟨(by rw [hw]; exact (by (with_reducible repeat (first | refine blk_drewN ?_ _ | refine blk_drew ?_ | refine blk_alloc ?_ _)); refine blk_far ?_ NB340_344.out _; (with_reducible repeat (first | refine blk_drewN ?_ _ | refine blk_drew ?_ | refine blk_alloc ?_ _)); exact BK340.out))⟩; have n3_ : Aside0 (w19.heap[gb344]? = some (.cells #[.int .i64 t347, .slice none 0 0, .slice none 0 0] 39 (0, 0))) := ⟨(by rw [hw]; exact (by (with_reducible repeat (first | refine blk_drewN ?_ _ | refine blk_drew ?_ | refine blk_alloc ?_ _)); refine blk_put (cs := #[.int .i64 0, .slice none 0 0, .slice none 0 0]) ?_ 0 _ rfl; (with_reducible repeat (first | refine blk_drewN ?_ _ | refine blk_drew ?_ | refine blk_alloc ?_ _)); exact BK344.out))⟩; have n4_ : Aside0 (Below w.heap.size w w19) := ⟨(by rw [hw]; exact (by repeat (first | (with_reducible first | exact HB.out | apply below_alloc | apply pw_below_drewN | apply below_drew1 | refine below_set ?_ GE977.out | refine below_set ?_ GE340.out | refine below_set ?_ GE344.out) | exact HB.out)))⟩; clear hw HO343 BK977 BK340 BK344 HB; have HO343 := n0_; have BK977 := n1_; have BK340 := n2_; have BK344 := n3_; have HB := n4_; clear n0_ n1_ n2_ n3_ n4_; have q20 : (1 : Int) ≤ ((t341.length : Int) : Int) := of_decide_eq_true (by first | (with_reducible assumption) | assumption); obtain ⟨i020, hi020, _, hsz20, _⟩ := info_parts info9; have hcut20 := cut_from (P := Tryd.prog) 44 9 .i64 Tryd.underlying44 hi020 1 hsz20 (some ad345) t341.length co15 1 (by omega) q20; have hr20 := Kd.Q_drop (k := (1 : Int).toNat) (Kd.Q_of_R HO343.out) (by omega); obtain ⟨A20, hA20⟩ : ∃ Aq_, Aq_ = (if co15 = (1 : Int).toNat then (some ad345) else ((some ad345) : Option Addr).map (·.add ((1 : Int).toNat * 1))) := ⟨_, rfl⟩; obtain ⟨c20, hc20⟩ : ∃ cq_, cq_ = co15 - (1 : Int).toNat := ⟨_, rfl⟩; have hy20 : y349.length = t341.length - (1 : Int).toNat := (by rw [Ny349.out, List.length_drop]); rw [← Ny349.out] at hr20; rw [← hy20, ← hA20, ← hc20] at hcut20; replace hr20 : Kd.Q Kd.string 9 w19 w.heap.size (fun _ => True) (.slice A20 y349.length c20) y349 := (by rw [hA20, hc20, hy20]; exact hr20); have HE20 : Aside0 ((Value.slice A20 y349.length c20).ownBlock = (.slice (some ad345) t341.length co15 : Value).ownBlock) := ⟨by rw [hA20]; split <;> (cases ((some ad345) : Option Addr) <;> rfl)⟩; clear hy20 hi020 hsz20 HO343 hA20 hc20; have HO351 := ak hr20; clear hr20; replace q20 := eq_true q20))
 go_loopg [33] k (fun kq v33 w' => ∃ (x33_1 : Int) (x345001_1 : List Int) (x345002_1 : List Int) (u345001 : Value) (u345002 : Value), v33 = .int .i64 x33_1 ∧ Aside0 (impl_ReadLog.l0 kq a0 y349 (y349.length : Int) x33_1 t347 x345001_1 x345002_1 a977_0 = some (r1, r2, r3, r4)) ∧ Aside0 (kq ≤ k) ∧ Aside0 (Kd.Q Kd.string 9 w' w.heap.size (fun _ => True) (.slice A20 y349.length c20) y349) ∧ Aside0 (Kd.R (Kd.int .u16) 62 w' w.heap.size (fun _ => True) u345001 x345001_1) ∧ Aside0 (Kd.R (Kd.int .i16) 29 w' w.heap.size (fun _ => True) u345002 x345002_1) ∧ Aside0 (w'.heap[0]? = some (.cells #[.int .i64 a977_0] 3 (0, 0))) ∧ Aside0 (w'.heap[gb340]? = some (.cells #[.int .i64 0, (.slice none 0 0), (.slice none 0 0)] 39 (0, 0))) ∧ Aside0 (w'.heap[gb344]? = some (.cells #[.int .i64 t347, u345001, u345002] 39 (0, 0))) ∧ Aside0 (Below w.heap.size w w'))
 case atStart => exact ⟨(0), (([] : List Int)), (([] : List Int)), (.slice none 0 0), (.slice none 0 0), (by first | rfl | (simp; done) | (simp [*]; done)), H', ⟨Nat.le_refl _⟩, ⟨by (with_reducible repeat (first | apply Kd.Q_alloc | apply Kd.Q_drewN | apply Kd.Q_drew)); exact HO351.out⟩, ⟨by first | exact Kd.R_nil _ _ _ _ _ | exact Kd.N_nil _ _ _ _ _ | exact Kd.V_nil _ _ _ _ _ | exact Kd.Q_nil _ _ _ _ _ | exact Kd.S_nil _ _ _ _ _⟩, ⟨by first | exact Kd.R_nil _ _ _ _ _ | exact Kd.N_nil _ _ _ _ _ | exact Kd.V_nil _ _ _ _ _ | exact Kd.Q_nil _ _ _ _ _ | exact Kd.S_nil _ _ _ _ _⟩, ⟨by (with_reducible repeat (first | refine blk_drewN ?_ _ | refine blk_drew ?_ | refine blk_alloc ?_ _)); exact BK977.out⟩, ⟨by (with_reducible repeat (first | refine blk_drewN ?_ _ | refine blk_drew ?_ | refine blk_alloc ?_ _)); exact BK340.out⟩, ⟨by (with_reducible repeat (first | refine blk_drewN ?_ _ | refine blk_drew ?_ | refine blk_alloc ?_ _)); exact BK344.out⟩, ⟨by repeat (first | (with_reducible first | exact HB.out | apply below_alloc | apply pw_below_drewN | apply below_drew1 | refine below_set ?_ GE977.out | refine below_set ?_ GE340.out | refine below_set ?_ GE344.out) | exact HB.out)⟩⟩
 case round => (
 clear H'
 try clear c1
 try clear c2
 try clear p2
 try clear q2
 try clear c3
 try clear p3
 try clear q3
 try clear hx3
 try clear qi3
 try clear c5
 try clear c5b0
 try clear c5b1
 try clear c8
 try clear c8b0
 try clear c8b1
 try clear hx9
 try clear c12
 try clear c13
 try clear c15
 try clear c20
 try clear q20
 try clear hcz14_0
 try clear hcz14_1
 try clear hcz14_2
 try clear hcz18_0
 try clear hcz18_1
 try clear hcz18_2
 try clear hfz14_0
 try clear hfz14_1
 try clear hfz14_2
 try clear hfz18_0
 try clear hfz18_1
 try clear hfz18_2
 try clear hx345_0
 try clear p345
 try clear q20
 try clear q345
 obtain ⟨x33_1, x345001_1, x345002_1, u345001, u345002, rfl, HA, HK1, HO_31, HO_345001, HO_345002, BK977, BK340, BK344, HB⟩ := hrel
 cases gk with
 | zero => exact absurd HA.out (by simp [impl_ReadLog.l0])
 | succ k1 => (
 have H := HA.out
 clear HA
 simp only [impl_ReadLog.l0] at H
 by_cases c21 : x33_1 < (y349.length : Int)
 {
 rw [if_pos c21] at H
 have c21b0 : decide (x33_1 < (y349.length : Int)) = true := decide_eq_true c21
 clear c21
 by_cases c22 : 0 ≤ x33_1
 {
 rw [if_pos c22] at H
 have c22b0 : decide (0 ≤ x33_1) = true := decide_eq_true c22
 clear c22
 by_cases c23 : x33_1 < (y349.length : Int)
 {
 rw [if_pos c23] at H
 have c23b0 : decide (x33_1 < (y349.length : Int)) = true := decide_eq_true c23
 clear c23
 replace H := Option.bind_eq_some_iff.mp H
 obtain ⟨⟨t354, t355, t356⟩, A240, H⟩ := H
 replace H : ((impl_number.f t354 100).bind fun bt357 => ((strings_Split.f t355 (⟨#[44]⟩ : ByteArray) a977_0).bind fun t359 => (impl_ReadLog.l1 k1 a0 bt357.1 0 y349 (y349.length : Int) x33_1 t359 (t359.length : Int) 0 t347 x345001_1 x345002_1 a977_0))) = some (r1, r2, r3, r4) := H
 have A24 := ak A240
 clear A240
 replace H := Option.bind_eq_some_iff.mp H
 obtain ⟨⟨t357, t358⟩, A250, H⟩ := H
 replace H : ((strings_Split.f t355 (⟨#[44]⟩ : ByteArray) a977_0).bind fun t359 => (impl_ReadLog.l1 k1 a0 t357 0 y349 (y349.length : Int) x33_1 t359 (t359.length : Int) 0 t347 x345001_1 x345002_1 a977_0)) = some (r1, r2, r3, r4) := H
 have A25 := ak A250
 clear A250
 replace H := Option.bind_eq_some_iff.mp H
 obtain ⟨t359, A260, H⟩ := H
 replace H : (impl_ReadLog.l1 k1 a0 t357 0 y349 (y349.length : Int) x33_1 t359 (t359.length : Int) 0 t347 x345001_1 x345002_1 a977_0) = some (r1, r2, r3, r4) := H
 have A26 := ak A260
 clear A260
 have H' := ak H
 clear H
 have p353 : 0 ≤ (x33_1 : Int) := of_decide_eq_true (by first | (with_reducible assumption) | assumption)
 have q353 : x33_1 < (y349.length : Int) := of_decide_eq_true (by first | (with_reducible assumption) | assumption)
 obtain ⟨ad353, e353, hx353_0⟩ := Kd.at_string (Kd.Q_reads' HO_31.out).2.2 x33_1 p353 q353
 cases e353
 replace p353 := eq_true p353
 replace q353 := eq_true q353
 go_wp2_with (first | ((with_reducible refine gate_callee (f := 36) rfl ?_); refine goesL_ (some 39) rfl rfl Tryd.func36 (by kernel_rfl) rfl #[.string (rdOf ByteArray.empty y349 x33_1), .string (⟨#[47]⟩ : ByteArray)] rfl (by (try simp only [List.map_toArray, List.map_cons, List.map_nil]); first | done | rfl | (simp only [List.length_drop, List.length_take]; rfl)) ?_; (with_reducible refine (strings_Cut.calls (rdOf ByteArray.empty y349 x33_1) (⟨#[47]⟩ : ByteArray) a977_0 t354 t355 t356 _ ?side1 A24.out).mono ?_); (case side1 => exact (by first | exact BK977.out | ((with_reducible repeat (first | refine blk_drewN ?_ _ | refine blk_drew ?_ | refine blk_alloc ?_ _)); exact BK977.out))); rintro e w27 ⟨rfl, hb⟩; refine ⟨_, rfl, ?_⟩; have n0_ := ak (Kd.Q_below (by (with_reducible repeat (first | apply Kd.Q_alloc | apply Kd.Q_drewN | apply Kd.Q_drew)); exact HO_31.out) hb); have n1_ := ak (Kd.R_below (zR HO_345001.out) hb); have n2_ := ak (Kd.R_below (zR HO_345002.out) hb); have n3_ := ak (blk_below (g := 0) (o := .cells #[.int .i64 a977_0] 3 (0, 0)) (zK BK977.out) hb); have n4_ := ak (blk_below (g := gb340) (o := .cells #[.int .i64 0, .slice none 0 0, .slice none 0 0] 39 (0, 0)) (zK BK340.out) hb); have n5_ := ak (blk_below (g := gb344) (o := .cells #[.int .i64 t347, u345001, u345002] 39 (0, 0)) (zK BK344.out) hb); have n6_ := ak (below_step (by repeat (first | (with_reducible first | exact HB.out | apply below_alloc | apply pw_below_drewN | apply below_drew1 | refine below_set ?_ GE977.out | refine below_set ?_ GE340.out | refine below_set ?_ GE344.out) | exact HB.out)) hb); clear HO_31 HO_345001 HO_345002 BK977 BK340 BK344 HB; have HO_31 := n0_; have HO_345001 := n1_; have HO_345002 := n2_; have BK977 := n3_; have BK340 := n4_; have BK344 := n5_; have HB := n6_; clear n0_ n1_ n2_ n3_ n4_ n5_ n6_; (try clear hb); (try clear hb2); (try clear hk); (try clear hi)) | ((with_reducible refine gate_callee (f := 28) rfl ?_); refine goesL_ (some 45) rfl rfl Tryd.func28 (by kernel_rfl) rfl #[.string t354, .int .i64 100] rfl (by (try simp only [List.map_toArray, List.map_cons, List.map_nil]); first | done | rfl | (simp only [List.length_drop, List.length_take]; rfl)) ?_; (with_reducible refine (impl_number.calls t354 100  t357 t358 _ ?side1 A25.out).mono ?_); (case side1 => exact Go.Proofs.YtchnklikeimpiaaDoor.H.tab10_below HGT.out (by repeat (first | (with_reducible first | exact HB.out | apply below_alloc | apply pw_below_drewN | apply below_drew1 | refine below_set ?_ GE977.out | refine below_set ?_ GE340.out | refine below_set ?_ GE344.out) | exact HB.out))); rintro e w28 ⟨rfl, hb⟩; refine ⟨_, rfl, ?_⟩; have n0_ := ak (Kd.Q_below (by (with_reducible repeat (first | apply Kd.Q_alloc | apply Kd.Q_drewN | apply Kd.Q_drew)); exact HO_31.out) hb); have n1_ := ak (Kd.R_below (zR HO_345001.out) hb); have n2_ := ak (Kd.R_below (zR HO_345002.out) hb); have n3_ := ak (blk_below (g := 0) (o := .cells #[.int .i64 a977_0] 3 (0, 0)) (zK BK977.out) hb); have n4_ := ak (blk_below (g := gb340) (o := .cells #[.int .i64 0, .slice none 0 0, .slice none 0 0] 39 (0, 0)) (zK BK340.out) hb); have n5_ := ak (blk_below (g := gb344) (o := .cells #[.int .i64 t347, u345001, u345002] 39 (0, 0)) (zK BK344.out) hb); have n6_ := ak (below_step (by repeat (first | (with_reducible first | exact HB.out | apply below_alloc | apply pw_below_drewN | apply below_drew1 | refine below_set ?_ GE977.out | refine below_set ?_ GE340.out | refine below_set ?_ GE344.out) | exact HB.out)) hb); clear HO_31 HO_345001 HO_345002 BK977 BK340 BK344 HB; have HO_31 := n0_; have HO_345001 := n1_; have HO_345002 := n2_; have BK977 := n3_; have BK340 := n4_; have BK344 := n5_; have HB := n6_; clear n0_ n1_ n2_ n3_ n4_ n5_ n6_; (try clear hb); (try clear hb2); (try clear hk); (try clear hi)) | ((with_reducible refine gate_callee (f := 22) rfl ?_); refine goesL_ (some 49) rfl rfl Tryd.func22 (by kernel_rfl) rfl #[.string t355, .string (⟨#[44]⟩ : ByteArray)] rfl (by (try simp only [List.map_toArray, List.map_cons, List.map_nil]); first | done | rfl | (simp only [List.length_drop, List.length_take]; rfl)) ?_; (with_reducible refine (strings_Split.calls t355 (⟨#[44]⟩ : ByteArray) a977_0 t359 _ ?side1 A26.out).mono ?_); (case side1 => exact (by first | exact BK977.out | ((with_reducible repeat (first | refine blk_drewN ?_ _ | refine blk_drew ?_ | refine blk_alloc ?_ _)); exact BK977.out))); rintro e w29 ⟨v360, rfl, ho0, hb⟩; refine ⟨_, rfl, ?_⟩; have n0_ := ak (Kd.Q_elder' (by (with_reducible repeat (first | apply Kd.Q_alloc | apply Kd.Q_drewN | apply Kd.Q_drew)); exact HO_31.out) (Kd.R_base ho0) hb); have n1_ := ak (Kd.R_below (zR HO_345001.out) hb); have n2_ := ak (Kd.R_below (zR HO_345002.out) hb); have n3_ := ak (Kd.R_lower (Kd.R_new' ho0 (Kd.Q_lt (by (with_reducible repeat (first | apply Kd.Q_alloc | apply Kd.Q_drewN | apply Kd.Q_drew)); exact HO_31.out))) (below_size (by repeat (first | (with_reducible first | exact HB.out | apply below_alloc | apply pw_below_drewN | apply below_drew1 | refine below_set ?_ GE977.out | refine below_set ?_ GE340.out | refine below_set ?_ GE344.out) | exact HB.out)))); have n4_ := ak (blk_below (g := 0) (o := .cells #[.int .i64 a977_0] 3 (0, 0)) (zK BK977.out) hb); have n5_ := ak (blk_below (g := gb340) (o := .cells #[.int .i64 0, .slice none 0 0, .slice none 0 0] 39 (0, 0)) (zK BK340.out) hb); have n6_ := ak (blk_below (g := gb344) (o := .cells #[.int .i64 t347, u345001, u345002] 39 (0, 0)) (zK BK344.out) hb); have n7_ := ak (below_step (by repeat (first | (with_reducible first | exact HB.out | apply below_alloc | apply pw_below_drewN | apply below_drew1 | refine below_set ?_ GE977.out | refine below_set ?_ GE340.out | refine below_set ?_ GE344.out) | exact HB.out)) hb); clear HO_31 HO_345001 HO_345002 BK977 BK340 BK344 HB; have HO_31 := n0_; have HO_345001 := n1_; have HO_345002 := n2_; have HO361 := n3_; have BK977 := n4_; have BK340 := n5_; have BK344 := n6_; have HB := n7_; clear n0_ n1_ n2_ n3_ n4_ n5_ n6_ n7_; (try clear hb); (try clear hb2); (try clear hk); (try clear hi); (try clear ho0); obtain ⟨Ao30, co30, eo30⟩ := Kd.R_slice HO361.out; subst eo30))
 go_loopg [13, 51] k1 (fun kq v13 v51 w' => ∃ (x13_2 : Int) (x51_2 : Int), v13 = .int .u16 x13_2 ∧ v51 = .int .i64 x51_2 ∧ Aside0 (impl_ReadLog.l1 kq a0 t357 x13_2 y349 (y349.length : Int) x33_1 t359 (t359.length : Int) x51_2 t347 x345001_1 x345002_1 a977_0 = some (r1, r2, r3, r4)) ∧ Aside0 (kq ≤ k1) ∧ Aside0 (Kd.Q Kd.string 9 w' w.heap.size (fun k_ => some k_ ≠ ((.slice Ao30 t359.length co30) : Value).ownBlock) (.slice (some ad353) y349.length c20) y349) ∧ Aside0 (Kd.R Kd.string 9 w' w.heap.size (fun k_ => some k_ ≠ ((.slice (some ad353) y349.length c20) : Value).ownBlock) (.slice Ao30 t359.length co30) t359) ∧ Aside0 (Kd.R (Kd.int .u16) 62 w' w.heap.size (fun _ => True) u345001 x345001_1) ∧ Aside0 (Kd.R (Kd.int .i16) 29 w' w.heap.size (fun _ => True) u345002 x345002_1) ∧ Aside0 (w'.heap[0]? = some (.cells #[.int .i64 a977_0] 3 (0, 0))) ∧ Aside0 (w'.heap[gb340]? = some (.cells #[.int .i64 0, (.slice none 0 0), (.slice none 0 0)] 39 (0, 0))) ∧ Aside0 (w'.heap[gb344]? = some (.cells #[.int .i64 t347, u345001, u345002] 39 (0, 0))) ∧ Aside0 (Below w.heap.size w w'))
 case atStart => exact ⟨(0), (0), (by first | rfl | (simp; done) | (simp [*]; done)), (by first | rfl | (simp; done) | (simp [*]; done)), H', ⟨Nat.le_refl _⟩, ⟨by (with_reducible repeat (first | apply Kd.Q_alloc | apply Kd.Q_drewN | apply Kd.Q_drew)); exact Kd.Q_mono HO_31.out (fun _ hk => hk.2)⟩, ⟨by (with_reducible repeat (first | apply Kd.R_alloc | apply Kd.R_drewN | apply Kd.R_drew)); exact Kd.R_mono HO361.out (fun _ hk => hk.2)⟩, ⟨by (with_reducible repeat (first | apply Kd.R_alloc | apply Kd.R_drewN | apply Kd.R_drew)); exact HO_345001.out⟩, ⟨by (with_reducible repeat (first | apply Kd.R_alloc | apply Kd.R_drewN | apply Kd.R_drew)); exact HO_345002.out⟩, ⟨by (with_reducible repeat (first | refine blk_drewN ?_ _ | refine blk_drew ?_ | refine blk_alloc ?_ _)); exact BK977.out⟩, ⟨by (with_reducible repeat (first | refine blk_drewN ?_ _ | refine blk_drew ?_ | refine blk_alloc ?_ _)); exact BK340.out⟩, ⟨by (with_reducible repeat (first | refine blk_drewN ?_ _ | refine blk_drew ?_ | refine blk_alloc ?_ _)); exact BK344.out⟩, ⟨by repeat (first | (with_reducible first | exact HB.out | apply below_alloc | apply pw_below_drewN | apply below_drew1 | refine below_set ?_ GE977.out | refine below_set ?_ GE340.out | refine below_set ?_ GE344.out) | exact HB.out)⟩⟩
 case round => (
 clear H'
 try clear c1
 try clear c2
 try clear p2
 try clear q2
 try clear c3
 try clear p3
 try clear q3
 try clear hx3
 try clear qi3
 try clear c5
 try clear c5b0
 try clear c5b1
 try clear c8
 try clear c8b0
 try clear c8b1
 try clear hx9
 try clear c12
 try clear c13
 try clear c15
 try clear c20
 try clear q20
 try clear c21
 try clear c21b0
 try clear c22
 try clear c22b0
 try clear c23
 try clear c23b0
 try clear c28
 try clear hcz14_0
 try clear hcz14_1
 try clear hcz14_2
 try clear hcz18_0
 try clear hcz18_1
 try clear hcz18_2
 try clear hfz14_0
 try clear hfz14_1
 try clear hfz14_2
 try clear hfz18_0
 try clear hfz18_1
 try clear hfz18_2
 try clear hx345_0
 try clear hx353_0
 try clear p2
 try clear p3
 try clear p345
 try clear p353
 try clear q2
 try clear q20
 try clear q3
 try clear q345
 try clear q353
 obtain ⟨x13_2, x51_2, rfl, rfl, HA, HK2, HO_31, HO_49, HO_345001, HO_345002, BK977, BK340, BK344, HB⟩ := hrel
 cases gk with
 | zero => exact absurd HA.out (by simp [impl_ReadLog.l1])
 | succ k2 => (
 have H := HA.out
 clear HA
 simp only [impl_ReadLog.l1] at H
 by_cases c31 : x51_2 < (t359.length : Int)
 {
 rw [if_pos c31] at H
 have c31b0 : decide (x51_2 < (t359.length : Int)) = true := decide_eq_true c31
 clear c31
 by_cases c32 : 0 ≤ x51_2
 {
 rw [if_pos c32] at H
 have c32b0 : decide (0 ≤ x51_2) = true := decide_eq_true c32
 clear c32
 by_cases c33 : x51_2 < (t359.length : Int)
 {
 rw [if_pos c33] at H
 have c33b0 : decide (x51_2 < (t359.length : Int)) = true := decide_eq_true c33
 clear c33
 replace H := Option.bind_eq_some_iff.mp H
 obtain ⟨⟨t363, t364⟩, A340, H⟩ := H
 replace H : (if t364 = true then (if 0 ≤ t363 then (impl_ReadLog.l1 k2 a0 t357 (Go.bits .or .u16 x13_2 (shl .u16 1 t363)) y349 (y349.length : Int) x33_1 t359 (t359.length : Int) (wrap64 (x51_2 + 1)) t347 x345001_1 x345002_1 a977_0) else (none)) else (impl_ReadLog.l1 k2 a0 t357 x13_2 y349 (y349.length : Int) x33_1 t359 (t359.length : Int) (wrap64 (x51_2 + 1)) t347 x345001_1 x345002_1 a977_0)) = some (r1, r2, r3, r4) := H
 have A34 := ak A340
 clear A340
 by_cases c35 : t364 = true
 {
 subst c35
 have H1 : (if 0 ≤ t363 then (impl_ReadLog.l1 k2 a0 t357 (Go.bits .or .u16 x13_2 (shl .u16 1 t363)) y349 (y349.length : Int) x33_1 t359 (t359.length : Int) (wrap64 (x51_2 + 1)) t347 x345001_1 x345002_1 a977_0) else (none)) = some (r1, r2, r3, r4) := by rw [if_pos rfl] at H; exact H
 clear H
 have H := H1
 clear H1
 by_cases c36 : 0 ≤ t363
 {
 rw [if_pos c36] at H
 have c36b0 := eq_true c36
 have c36b1 : decide (0 ≤ t363) = true := decide_eq_true c36
 clear c36
 obtain ⟨ji37, hji37⟩ : ∃ j_ : Int, (shl .u16 1 t363) = j_ := ⟨_, rfl⟩
 replace H : (impl_ReadLog.l1 k2 a0 t357 (Go.bits .or .u16 x13_2 (ji37)) y349 (y349.length : Int) x33_1 t359 (t359.length : Int) (wrap64 (x51_2 + 1)) t347 x345001_1 x345002_1 a977_0) = some (r1, r2, r3, r4) := by first | (rw [hji37] at H; exact H) | (simp only [hji37] at H ⊢; exact H)
 (try rw [hji37] at A34)
 have hji37_ : (IntKind.u16.wrap (1 * 2 ^ min t363.toNat 16)) = ji37 := hji37
 have hji37z : t363 ≤ 16 → (IntKind.u16.wrap (1 * 2 ^ t363.toNat)) = ji37 := shl_small hji37
 have hji37u : (IntKind.u16.wrap (2 ^ min t363.toNat 16)) = ji37 := by have h_ := hji37_; rw [Int.one_mul] at h_; exact h_
 have hji37v : t363 ≤ 16 → (IntKind.u16.wrap (2 ^ t363.toNat)) = ji37 := fun hle_ => by have h_ := hji37z hle_; rw [Int.one_mul] at h_; exact h_
 have H' := ak H
 clear H
 have p362 : 0 ≤ (x51_2 : Int) := of_decide_eq_true (by first | (with_reducible assumption) | assumption)
 have q362 : x51_2 < (t359.length : Int) := of_decide_eq_true (by first | (with_reducible assumption) | assumption)
 obtain ⟨ad362, e362, hx362_0⟩ := Kd.at_string (Kd.R_reads' HO_49.out).2.2 x51_2 p362 q362
 cases e362
 replace p362 := eq_true p362
 replace q362 := eq_true q362
 go_wp2_with (first | ((with_reducible refine gate_callee (f := 28) rfl ?_); refine goesL_ (some 57) rfl rfl Tryd.func28 (by kernel_rfl) rfl #[.string (rdOf ByteArray.empty t359 x51_2), .int .i64 13] rfl (by (try simp only [List.map_toArray, List.map_cons, List.map_nil]); first | done | rfl | (simp only [List.length_drop, List.length_take]; rfl)) ?_; (with_reducible refine (impl_number.calls (rdOf ByteArray.empty t359 x51_2) 13  t363 true _ ?side1 A34.out).mono ?_); (case side1 => exact Go.Proofs.YtchnklikeimpiaaDoor.H.tab10_below HGT.out (by repeat (first | (with_reducible first | exact HB.out | apply below_alloc | apply pw_below_drewN | apply below_drew1 | refine below_set ?_ GE977.out | refine below_set ?_ GE340.out | refine below_set ?_ GE344.out) | exact HB.out))); rintro e w38 ⟨rfl, hb⟩; refine ⟨_, rfl, ?_⟩; have n0_ := ak (Kd.Q_below (by (with_reducible repeat (first | apply Kd.Q_alloc | apply Kd.Q_drewN | apply Kd.Q_drew)); exact HO_31.out) hb); have n1_ := ak (Kd.R_below (zR HO_49.out) hb); have n2_ := ak (Kd.R_below (zR HO_345001.out) hb); have n3_ := ak (Kd.R_below (zR HO_345002.out) hb); have n4_ := ak (blk_below (g := 0) (o := .cells #[.int .i64 a977_0] 3 (0, 0)) (zK BK977.out) hb); have n5_ := ak (blk_below (g := gb340) (o := .cells #[.int .i64 0, .slice none 0 0, .slice none 0 0] 39 (0, 0)) (zK BK340.out) hb); have n6_ := ak (blk_below (g := gb344) (o := .cells #[.int .i64 t347, u345001, u345002] 39 (0, 0)) (zK BK344.out) hb); have n7_ := ak (below_step (by repeat (first | (with_reducible first | exact HB.out | apply below_alloc | apply pw_below_drewN | apply below_drew1 | refine below_set ?_ GE977.out | refine below_set ?_ GE340.out | refine below_set ?_ GE344.out) | exact HB.out)) hb); clear HO_31 HO_49 HO_345001 HO_345002 BK977 BK340 BK344 HB; have HO_31 := n0_; have HO_49 := n1_; have HO_345001 := n2_; have HO_345002 := n3_; have BK977 := n4_; have BK340 := n5_; have BK344 := n6_; have HB := n7_; clear n0_ n1_ n2_ n3_ n4_ n5_ n6_ n7_; (try clear hb); (try clear hb2); (try clear hk); (try clear hi)))
 go_roundg k2
 case measure => have := HK1.out; have := HK2.out; omega
 case rel => exact ⟨(Go.bits .or .u16 x13_2 (ji37)), (wrap64 (x51_2 + 1)), (by first | rfl | (simp; done) | (simp only [← hji37] <;> (first | rfl | simp)) | (simp [*]; done)), (by first | rfl | (simp; done) | (simp [*]; done)), H', ⟨by have := HK1.out; have := HK2.out; omega⟩, ⟨by (with_reducible repeat (first | apply Kd.Q_alloc | apply Kd.Q_drewN | apply Kd.Q_drew)); exact HO_31.out⟩, ⟨by (with_reducible repeat (first | apply Kd.R_alloc | apply Kd.R_drewN | apply Kd.R_drew)); exact HO_49.out⟩, ⟨by (with_reducible repeat (first | apply Kd.R_alloc | apply Kd.R_drewN | apply Kd.R_drew)); exact HO_345001.out⟩, ⟨by (with_reducible repeat (first | apply Kd.R_alloc | apply Kd.R_drewN | apply Kd.R_drew)); exact HO_345002.out⟩, ⟨by (with_reducible repeat (first | refine blk_drewN ?_ _ | refine blk_drew ?_ | refine blk_alloc ?_ _)); exact BK977.out⟩, ⟨by (with_reducible repeat (first | refine blk_drewN ?_ _ | refine blk_drew ?_ | refine blk_alloc ?_ _)); exact BK340.out⟩, ⟨by (with_reducible repeat (first | refine blk_drewN ?_ _ | refine blk_drew ?_ | refine blk_alloc ?_ _)); exact BK344.out⟩, ⟨by repeat (first | (with_reducible first | exact HB.out | apply below_alloc | apply pw_below_drewN | apply below_drew1 | refine below_set ?_ GE977.out | refine below_set ?_ GE340.out | refine below_set ?_ GE344.out) | exact HB.out)⟩⟩
 }
 · rw [if_neg c36] at H; exact absurd H (by simp)
 }
 {
 replace c35 := Bool.eq_false_iff.mpr c35
 subst c35
 have H1 : (impl_ReadLog.l1 k2 a0 t357 x13_2 y349 (y349.length : Int) x33_1 t359 (t359.length : Int) (wrap64 (x51_2 + 1)) t347 x345001_1 x345002_1 a977_0) = some (r1, r2, r3, r4) := by rw [if_neg (show ¬ (false = true) by decide)] at H; exact H
 clear H
 have H := H1
 clear H1
 have H' := ak H
 clear H
 have p362 : 0 ≤ (x51_2 : Int) := of_decide_eq_true (by first | (with_reducible assumption) | assumption)
 have q362 : x51_2 < (t359.length : Int) := of_decide_eq_true (by first | (with_reducible assumption) | assumption)
 obtain ⟨ad362, e362, hx362_0⟩ := Kd.at_string (Kd.R_reads' HO_49.out).2.2 x51_2 p362 q362
 cases e362
 replace p362 := eq_true p362
 replace q362 := eq_true q362
 go_wp2_with (first | ((with_reducible refine gate_callee (f := 28) rfl ?_); refine goesL_ (some 57) rfl rfl Tryd.func28 (by kernel_rfl) rfl #[.string (rdOf ByteArray.empty t359 x51_2), .int .i64 13] rfl (by (try simp only [List.map_toArray, List.map_cons, List.map_nil]); first | done | rfl | (simp only [List.length_drop, List.length_take]; rfl)) ?_; (with_reducible refine (impl_number.calls (rdOf ByteArray.empty t359 x51_2) 13  t363 false _ ?side1 A34.out).mono ?_); (case side1 => exact Go.Proofs.YtchnklikeimpiaaDoor.H.tab10_below HGT.out (by repeat (first | (with_reducible first | exact HB.out | apply below_alloc | apply pw_below_drewN | apply below_drew1 | refine below_set ?_ GE977.out | refine below_set ?_ GE340.out | refine below_set ?_ GE344.out) | exact HB.out))); rintro e w39 ⟨rfl, hb⟩; refine ⟨_, rfl, ?_⟩; have n0_ := ak (Kd.Q_below (by (with_reducible repeat (first | apply Kd.Q_alloc | apply Kd.Q_drewN | apply Kd.Q_drew)); exact HO_31.out) hb); have n1_ := ak (Kd.R_below (zR HO_49.out) hb); have n2_ := ak (Kd.R_below (zR HO_345001.out) hb); have n3_ := ak (Kd.R_below (zR HO_345002.out) hb); have n4_ := ak (blk_below (g := 0) (o := .cells #[.int .i64 a977_0] 3 (0, 0)) (zK BK977.out) hb); have n5_ := ak (blk_below (g := gb340) (o := .cells #[.int .i64 0, .slice none 0 0, .slice none 0 0] 39 (0, 0)) (zK BK340.out) hb); have n6_ := ak (blk_below (g := gb344) (o := .cells #[.int .i64 t347, u345001, u345002] 39 (0, 0)) (zK BK344.out) hb); have n7_ := ak (below_step (by repeat (first | (with_reducible first | exact HB.out | apply below_alloc | apply pw_below_drewN | apply below_drew1 | refine below_set ?_ GE977.out | refine below_set ?_ GE340.out | refine below_set ?_ GE344.out) | exact HB.out)) hb); clear HO_31 HO_49 HO_345001 HO_345002 BK977 BK340 BK344 HB; have HO_31 := n0_; have HO_49 := n1_; have HO_345001 := n2_; have HO_345002 := n3_; have BK977 := n4_; have BK340 := n5_; have BK344 := n6_; have HB := n7_; clear n0_ n1_ n2_ n3_ n4_ n5_ n6_ n7_; (try clear hb); (try clear hb2); (try clear hk); (try clear hi)))
 go_roundg k2
 case measure => have := HK1.out; have := HK2.out; omega
 case rel => exact ⟨(x13_2), (wrap64 (x51_2 + 1)), (by first | rfl | (simp; done) | (simp [*]; done)), (by first | rfl | (simp; done) | (simp [*]; done)), H', ⟨by have := HK1.out; have := HK2.out; omega⟩, ⟨by (with_reducible repeat (first | apply Kd.Q_alloc | apply Kd.Q_drewN | apply Kd.Q_drew)); exact HO_31.out⟩, ⟨by (with_reducible repeat (first | apply Kd.R_alloc | apply Kd.R_drewN | apply Kd.R_drew)); exact HO_49.out⟩, ⟨by (with_reducible repeat (first | apply Kd.R_alloc | apply Kd.R_drewN | apply Kd.R_drew)); exact HO_345001.out⟩, ⟨by (with_reducible repeat (first | apply Kd.R_alloc | apply Kd.R_drewN | apply Kd.R_drew)); exact HO_345002.out⟩, ⟨by (with_reducible repeat (first | refine blk_drewN ?_ _ | refine blk_drew ?_ | refine blk_alloc ?_ _)); exact BK977.out⟩, ⟨by (with_reducible repeat (first | refine blk_drewN ?_ _ | refine blk_drew ?_ | refine blk_alloc ?_ _)); exact BK340.out⟩, ⟨by (with_reducible repeat (first | refine blk_drewN ?_ _ | refine blk_drew ?_ | refine blk_alloc ?_ _)); exact BK344.out⟩, ⟨by repeat (first | (with_reducible first | exact HB.out | apply below_alloc | apply pw_below_drewN | apply below_drew1 | refine below_set ?_ GE977.out | refine below_set ?_ GE340.out | refine below_set ?_ GE344.out) | exact HB.out)⟩⟩
 }
 }
 · rw [if_neg c33] at H; exact absurd H (by simp)
 }
 · rw [if_neg c32] at H; exact absurd H (by simp)
 }
 {
 rw [if_neg c31] at H
 have c31b0 : decide (x51_2 < (t359.length : Int)) = false := decide_eq_false c31
 clear c31
 obtain ⟨y365, hy365⟩ : ∃ y_ : List Int, y_ = (([x13_2] : List Int)) := ⟨_, rfl⟩
 replace H : (if x345001_1.length + y365.length < 70368744177664 then ((some (([IntKind.i16.wrap (t357)] : List Int) : List Int)).bind fun y371 => (if x345002_1.length + y371.length < 70368744177664 then (impl_ReadLog.l0 k2 a0 y349 (y349.length : Int) (wrap64 (x33_1 + 1)) t347 (x345001_1 ++ y365) (x345002_1 ++ y371) a977_0) else (none))) else (none)) = some (r1, r2, r3, r4) := by first | (rw [hy365]; with_reducible exact H) | (have H2_ := (Option.bind_some _ _).symm.trans H; rw [hy365]; with_reducible exact H2_) | (have H2_ := (Option.bind_some _ _).symm.trans H; with_reducible exact H2_) | with_reducible exact H | (rw [hy365]; exact H) | exact H
 have Ny365 := ak hy365
 clear hy365
 by_cases c40 : x345001_1.length + y365.length < 70368744177664
 {
 rw [if_pos c40] at H
 have LMc40 := ak c40
 clear c40
 obtain ⟨y368, hy368⟩ : ∃ y_ : List Int, y_ = (x345001_1 ++ y365) := ⟨_, rfl⟩
 replace H : ((some (([IntKind.i16.wrap (t357)] : List Int) : List Int)).bind fun y371 => (if x345002_1.length + y371.length < 70368744177664 then (impl_ReadLog.l0 k2 a0 y349 (y349.length : Int) (wrap64 (x33_1 + 1)) t347 y368 (x345002_1 ++ y371) a977_0) else (none))) = some (r1, r2, r3, r4) := by first | (rw [hy368]; with_reducible exact H) | (have H2_ := (Option.bind_some _ _).symm.trans H; rw [hy368]; with_reducible exact H2_) | (have H2_ := (Option.bind_some _ _).symm.trans H; with_reducible exact H2_) | with_reducible exact H | (rw [hy368]; exact H) | exact H
 have Ny368 := ak hy368
 clear hy368
 obtain ⟨y371, hy371⟩ : ∃ y_ : List Int, y_ = (([IntKind.i16.wrap (t357)] : List Int)) := ⟨_, rfl⟩
 replace H : (if x345002_1.length + y371.length < 70368744177664 then (impl_ReadLog.l0 k2 a0 y349 (y349.length : Int) (wrap64 (x33_1 + 1)) t347 y368 (x345002_1 ++ y371) a977_0) else (none)) = some (r1, r2, r3, r4) := by first | (rw [hy371]; with_reducible exact H) | (have H2_ := (Option.bind_some _ _).symm.trans H; rw [hy371]; with_reducible exact H2_) | (have H2_ := (Option.bind_some _ _).symm.trans H; with_reducible exact H2_) | with_reducible exact H | (rw [hy371]; exact H) | exact H
 have Ny371 := ak hy371
 clear hy371
 by_cases c41 : x345002_1.length + y371.length < 70368744177664
 {
 rw [if_pos c41] at H
 have LMc41 := ak c41
 clear c41
 obtain ⟨y374, hy374⟩ : ∃ y_ : List Int, y_ = (x345002_1 ++ y371) := ⟨_, rfl⟩
 replace H : (impl_ReadLog.l0 k2 a0 y349 (y349.length : Int) (wrap64 (x33_1 + 1)) t347 y368 y374 a977_0) = some (r1, r2, r3, r4) := by first | (rw [hy374]; with_reducible exact H) | (have H2_ := (Option.bind_some _ _).symm.trans H; rw [hy374]; with_reducible exact H2_) | (have H2_ := (Option.bind_some _ _).symm.trans H; with_reducible exact H2_) | with_reducible exact H | (rw [hy374]; exact H) | exact H
 have Ny374 := ak hy374
 clear hy374
 have H' := ak H
 clear H
 obtain ⟨Ao42, co42, eo42⟩ := Kd.R_slice HO_345001.out
 subst eo42
 obtain ⟨Ao43, co43, eo43⟩ := Kd.R_slice HO_345002.out
 subst eo43
 try go_wp2
 have n0_ := ak (Kd.Q_drew HO_31.out)
 have n1_ := ak (Kd.R_drew HO_49.out)
 have n2_ := ak (Kd.R_drew HO_345001.out)
 have n3_ := ak (Kd.R_drew HO_345002.out)
 have n4_ := ak (blk_drew BK977.out)
 have n5_ := ak (blk_drew BK340.out)
 have n6_ := ak (blk_drew BK344.out)
 have n7_ := ak (below_drew1 HB.out)
 clear HO_31 HO_49 HO_345001 HO_345002 BK977 BK340 BK344 HB
 have HO_31 := n0_
 have HO_49 := n1_
 have HO_345001 := n2_
 have HO_345002 := n3_
 have BK977 := n4_
 have BK340 := n5_
 have BK344 := n6_
 have HB := n7_
 clear n0_ n1_ n2_ n3_ n4_ n5_ n6_ n7_
 refine start_ (n := 15) (S := fun w' => w'.cell? ⟨gb344, 0, none⟩ = some (.int .i64 t347) ∧ w'.cell? ⟨gb344, 1, none⟩ = some (.slice Ao42 x345001_1.length co42) ∧ w'.cell? ⟨gb344, 2, none⟩ = some (.slice Ao43 x345002_1.length co43)) (ds := [12, 14]) #[false, false, false, false, false, false, false, false, false, false, false, false, false, false, false] (by kernel_rfl) rfl rfl ⟨(blk_cell BK344.out 0).trans rfl, (blk_cell BK344.out 1).trans rfl, (blk_cell BK344.out 2).trans rfl⟩ (fun hHeld => ?_); refine with_tabW impl_ReadLog.tab17 impl_ReadLog.bits17 (fun HT_ HW_ => ?_)
 generalize wr.drew = w44 at HO_31 HO_49 HO_345001 HO_345002 BK977 BK340 BK344 HB hHeld ⊢
 refine pure_ (i := 0) (N := some 66) (v := ?_) (a' := ?_) #[true, false, false, false, false, false, false, false, false, false, false, false, false, false, false] rfl rfl (any_of HT_.out (by kernel_rfl)) (fun _ _ _ h => h) (Or.inl ⟨by rfl, ?_⟩) ?_ ?_
 rotate_left
 {
 intro w'
 go_simp
 with_reducible rfl
 }
 rotate_left
 · simp only [Act.put, zs, zz, zk, i64_w, i32_w]; rfl
 refine pure_ (i := 2) (N := some 68) (v := ?_) (a' := ?_) #[true, false, true, false, false, false, false, false, false, false, false, false, false, false, false] rfl rfl (any_of HT_.out (by kernel_rfl)) (fun _ _ _ h => h) (Or.inl ⟨by rfl, ?_⟩) ?_ ?_
 rotate_left
 {
 intro w'
 go_simp
 with_reducible rfl
 }
 rotate_left
 · simp only [Act.put, zs, zz, zk, i64_w, i32_w]; rfl
 refine pure_ (i := 5) (N := some 71) (v := ?_) (a' := ?_) #[true, false, true, false, false, true, false, false, false, false, false, false, false, false, false] rfl rfl (any_of HT_.out (by kernel_rfl)) (fun _ _ _ h => h) (Or.inl ⟨by rfl, ?_⟩) ?_ ?_
 rotate_left
 {
 intro w'
 go_simp
 with_reducible rfl
 }
 rotate_left
 · simp only [Act.put, zs, zz, zk, i64_w, i32_w]; rfl
 refine pure_ (i := 7) (N := some 73) (v := ?_) (a' := ?_) #[true, false, true, false, false, true, false, true, false, false, false, false, false, false, false] rfl rfl (any_of HT_.out (by kernel_rfl)) (fun _ _ _ h => h) (Or.inl ⟨by rfl, ?_⟩) ?_ ?_
 rotate_left
 {
 intro w'
 go_simp
 with_reducible rfl
 }
 rotate_left
 · simp only [Act.put, zs, zz, zk, i64_w, i32_w]; rfl
 refine pure_ (i := 8) (N := some 74) (v := ?_) (a' := ?_) #[true, false, true, false, false, true, false, true, true, false, false, false, false, false, false] rfl rfl (any_of HT_.out (by kernel_rfl)) (fun _ _ _ h => h) (Or.inl ⟨by rfl, ?_⟩) ?_ ?_
 rotate_left
 {
 intro w'
 go_simp
 with_reducible rfl
 }
 rotate_left
 · simp only [Act.put, zs, zz, zk, i64_w, i32_w]; rfl
 refine take_ (i := 1) (N := some 67) (v := ?_) (a' := ?_) #[true, true, true, false, false, true, false, true, true, false, false, false, false, false, false] rfl rfl (take_ofW HT_.out HW_.out (by kernel_rfl)) (fun _ _ _ h => h) (Or.inl ⟨by rfl, ?_⟩) hHeld ?_ ?_
 rotate_left
 {
 rintro w' ⟨s0, s1, s2⟩
 go_simp
 with_reducible rfl
 }
 rotate_left
 · simp only [Act.put, zs, zz, zk, i64_w, i32_w]; rfl
 refine take_ (i := 6) (N := some 72) (v := ?_) (a' := ?_) #[true, true, true, false, false, true, true, true, true, false, false, false, false, false, false] rfl rfl (take_ofW HT_.out HW_.out (by kernel_rfl)) (fun _ _ _ h => h) (Or.inl ⟨by rfl, ?_⟩) hHeld ?_ ?_
 rotate_left
 {
 rintro w' ⟨s0, s1, s2⟩
 go_simp
 with_reducible rfl
 }
 rotate_left
 · simp only [Act.put, zs, zz, zk, i64_w, i32_w]; rfl
 refine join_ (σ := Value × Value × Value) 4 #[true, true, true, true, true, true, true, true, true, true, false, true, false, false, false] (fun s_ => [(69, s_.1), (70, s_.2.1), (75, s_.2.2), (77, .pointer (some ⟨gb344, 1, none⟩))]) (fun s_ w' => (w'.cell? ⟨gb344, 0, none⟩ = some (.int .i64 t347) ∧ w'.cell? ⟨gb344, 1, none⟩ = some (.slice Ao42 x345001_1.length co42) ∧ w'.cell? ⟨gb344, 2, none⟩ = some (.slice Ao43 x345002_1.length co43)) ∧ (Kd.R (Kd.int .u16) 62 w' w.heap.size (fun k_ => some k_ ≠ (s_.2.1 : Value).ownBlock) s_.1 y365) ∧ (Kd.R (Kd.int .u16) 62 w' w.heap.size (fun k_ => some k_ ≠ (s_.1 : Value).ownBlock) s_.2.1 y368) ∧ (Kd.R (Kd.int .i16) 29 w' w.heap.size (fun k_ => some k_ ≠ (.slice Ao43 x345002_1.length co43 : Value).ownBlock) s_.2.2 y371) ∧ (Kd.Q Kd.string 9 w' w.heap.size (fun k_ => some k_ ≠ (.slice Ao30 t359.length co30 : Value).ownBlock) (.slice (some ad353) y349.length c20) y349) ∧ (Kd.R (Kd.int .i16) 29 w' w.heap.size (fun k_ => some k_ ≠ (s_.2.2 : Value).ownBlock) (.slice Ao43 x345002_1.length co43) x345002_1) ∧ (Kd.R Kd.string 9 w' w.heap.size (fun k_ => some k_ ≠ (.slice (some ad353) y349.length c20 : Value).ownBlock) (.slice Ao30 t359.length co30) t359) ∧ (w'.heap[gb340]? = some (.cells #[.int .i64 0, .slice none 0 0, .slice none 0 0] 39 (0, 0))) ∧ (w'.heap[gb344]? = some (.cells #[.int .i64 t347, .slice Ao42 x345001_1.length co42, .slice Ao43 x345002_1.length co43] 39 (0, 0))) ∧ (w'.heap[0]? = some (.cells #[.int .i64 a977_0] 3 (0, 0))) ∧ (Below w.heap.size w w')) ?_ ?_
 rotate_left
 {
 intro hCont
 refine two_ (i := 3) (j := 9) (Ni := some 69) (Nj := some 75) #[true, true, true, true, false, true, true, true, true, false, false, false, false, false, false] #[true, true, true, false, false, true, true, true, true, true, false, false, false, false, false] rfl rfl rfl rfl (two_of HT_.out (by kernel_rfl)) (by decide) (by decide) (fun K hK => ?_) (fun K hK => ?_)
 {
 skip
 refine Kd.R_lit_step (Kd.int .u16) _ 62 ?hg (N := 69) ?hd (xs := ([x13_2] : List Int)) (inner := [.int .u16 x13_2]) (ok := fun _ => True) (okp := fun _ => True) ?hr ?hp (fun _ hk => hk) trivial (Below.refl _ _) (Nat.le_refl _) (by simp) ?_; (case hd => rfl); (case hg => rfl); (case hr => first | (go_simp; done) | (go_simp; rfl)); (case hp => exact (Reps.one (show Kd.M (Kd.int .u16) _ _ _ x13_2 [.int .u16 x13_2] from rfl) (Reps.none _ _)))
 intro v366 w45 ho46 hb hg_ hnew_
 clear hg_ hnew_
 (first | rw [← Ny365.out] at ho46 | (simp only [Int.reduceToNat] at ho46; rw [← Ny365.out] at ho46))
 have n0_ := ak (Kd.Q_below (by (with_reducible repeat (first | apply Kd.Q_alloc | apply Kd.Q_drewN | apply Kd.Q_drew)); exact HO_31.out) hb)
 have n1_ := ak (Kd.R_below (zR HO_49.out) hb)
 have n2_ := ak (Kd.R_elder' (zR HO_345001.out) (Kd.R_base ho46) hb)
 have n3_ := ak (Kd.R_below (zR HO_345002.out) hb)
 have n4_ := ak (Kd.R_lower (Kd.R_new' ho46 (Kd.R_lt (zR HO_345001.out))) (below_size (by repeat (first | (with_reducible first | exact HB.out | apply below_alloc | apply pw_below_drewN | apply below_drew1 | refine below_set ?_ GE977.out | refine below_set ?_ GE340.out | refine below_set ?_ GE344.out) | exact HB.out))))
 have n5_ := ak (blk_below (g := 0) (o := .cells #[.int .i64 a977_0] 3 (0, 0)) (zK BK977.out) hb)
 have n6_ := ak (blk_below (g := gb340) (o := .cells #[.int .i64 0, .slice none 0 0, .slice none 0 0] 39 (0, 0)) (zK BK340.out) hb)
 have n7_ := ak (blk_below (g := gb344) (o := .cells #[.int .i64 t347, .slice Ao42 x345001_1.length co42, .slice Ao43 x345002_1.length co43] 39 (0, 0)) (zK BK344.out) hb)
 have n8_ := ak (below_step (by repeat (first | (with_reducible first | exact HB.out | apply below_alloc | apply pw_below_drewN | apply below_drew1 | refine below_set ?_ GE977.out | refine below_set ?_ GE340.out | refine below_set ?_ GE344.out) | exact HB.out)) hb)
 clear HO_31 HO_49 HO_345001 HO_345002 BK977 BK340 BK344 HB
 have HO_31 := n0_
 have HO_49 := n1_
 have HO_345001 := n2_
 have HO_345002 := n3_
 have HO367 := n4_
 have BK977 := n5_
 have BK340 := n6_
 have BK344 := n7_
 have HB := n8_
 clear n0_ n1_ n2_ n3_ n4_ n5_ n6_ n7_ n8_ hb ho46
 obtain ⟨Ao48, co48, eo48⟩ := Kd.R_slice HO367.out
 (first | subst eo48 | (injection eo48 with f1_ f2_ f3_; have f4_ := f1_.symm; have f5_ := f3_.symm; clear f1_ f2_ f3_; subst f4_; subst f5_))
 refine hK.out _ _ ⟨(blk_cell BK344.out 0).trans rfl, (blk_cell BK344.out 1).trans rfl, (blk_cell BK344.out 2).trans rfl⟩ (fun hHeld => ?_)
 clear hK K
 refine norm_ (a' := ?_) ?_ ?_
 rotate_left
 {
 show Act.put _ (some 69) _ = _
 simp only [Act.put, zs, zz, zk, i64_w, i32_w]
 rfl
 }
 refine two_ (i := 4) (j := 9) (Ni := some 70) (Nj := some 75) #[true, true, true, true, true, true, true, true, true, false, false, false, false, false, false] #[true, true, true, true, false, true, true, true, true, true, false, false, false, false, false] rfl rfl rfl rfl (two_of HT_.out (by kernel_rfl)) (by decide) (by decide) (fun K hK => ?_) (fun K hK => ?_)
 {
 skip
 refine Kd.R_append_rows_step (Kd.int .u16) (w0 := w) w.heap.size (by rfl) (.tmp 67) (.tmp 69) 37 62 (.int .u16 0) 2 rfl Tryd.underlying37 info62 rfl (by decide) (by omega) (.slice Ao42 x345001_1.length co42) x345001_1 y365 _ _ _ (fun k_ => some k_ ≠ (.slice Ao48 y365.length co48 : Value).ownBlock) (fun _ => False) rfl rfl ?aO ?aR (fun _ _ h => h) (fun _ h => h.elim) ?aF ?aB ?aS ?aL ?_
 (case aR => exact zC (Kd.R_reads' HO367.out).2.2)
 (case aB => exact (by repeat (first | (with_reducible first | exact HB.out | apply below_alloc | apply pw_below_drewN | apply below_drew1 | refine below_set ?_ GE977.out | refine below_set ?_ GE340.out | refine below_set ?_ GE344.out) | exact HB.out)))
 (case aF => exact (fun k_ hk => Kd.fresh' (Kd.R_lt (zR HO367.out)) k_ hk))
 (case aO => exact (by (with_reducible repeat (first | apply Kd.R_alloc | apply Kd.R_drewN | apply Kd.R_drew)); exact Kd.R_mono HO_345001.out (fun _ hk => hk.2)))
 (case aS => exact (below_size (by repeat (first | (with_reducible first | exact HB.out | apply below_alloc | apply pw_below_drewN | apply below_drew1 | refine below_set ?_ GE977.out | refine below_set ?_ GE340.out | refine below_set ?_ GE344.out) | exact HB.out))))
 (case aL => have := LMc40.out; omega)
 intro v369 w47 ho hb hg hat
 rw [← Ny368.out] at ho
 have n0_ := ak (Kd.Q_over' (by (with_reducible repeat (first | apply Kd.Q_alloc | apply Kd.Q_drewN | apply Kd.Q_drew)); exact HO_31.out) (Kd.R_typed (zR HO_345001.out)) (by decide) hg)
 have n1_ := ak (Kd.R_over' (zR HO_49.out) (Kd.R_typed (zR HO_345001.out)) (by decide) hg)
 have n2_ := ak (Kd.R_over' (zR HO_345002.out) (Kd.R_typed (zR HO_345001.out)) (by decide) hg)
 have n3_ := ak (blk_grown (g := 0) (o := .cells #[.int .i64 a977_0] 3 (0, 0)) (zK BK977.out) hg (Kd.R_ne HO_345001.out BK977.out (by decide)))
 have n4_ := ak (blk_grown (g := gb340) (o := .cells #[.int .i64 0, .slice none 0 0, .slice none 0 0] 39 (0, 0)) (zK BK340.out) hg (Kd.R_ne HO_345001.out BK340.out (by decide)))
 have n5_ := ak (blk_grown (g := gb344) (o := .cells #[.int .i64 t347, .slice Ao42 x345001_1.length co42, .slice Ao43 x345002_1.length co43] 39 (0, 0)) (zK BK344.out) hg (Kd.R_ne HO_345001.out BK344.out (by decide)))
 have n6_ := ak (Kd.R_after (ok := (fun _ => True)) (zR HO367.out) hg hat)
 have n7_ := ak (hb)
 have n8_ := ak (ho)
 clear HO_31 HO_49 HO_345002 BK977 BK340 BK344 HO367 HB HO_345001
 have HO_31 := n0_
 have HO_49 := n1_
 have HO_345002 := n2_
 have BK977 := n3_
 have BK340 := n4_
 have BK344 := n5_
 have HO367 := n6_
 have HB := n7_
 have HO370 := n8_
 clear n0_ n1_ n2_ n3_ n4_ n5_ n6_ n7_ n8_ ho hb hg hat
 refine hK.out _ _ ⟨(blk_cell BK344.out 0).trans rfl, (blk_cell BK344.out 1).trans rfl, (blk_cell BK344.out 2).trans rfl⟩ (fun hHeld => ?_)
 clear hK K
 refine norm_ (a' := ?_) ?_ ?_
 rotate_left
 {
 show Act.put _ (some 70) _ = _
 simp only [Act.put, zs, zz, zk, i64_w, i32_w]
 rfl
 }
 refine pure_ (i := 11) (N := some 77) (v := ?_) (a' := ?_) #[true, true, true, true, true, true, true, true, true, false, false, true, false, false, false] rfl rfl (any_of HT_.out (by kernel_rfl)) (fun _ _ _ h => h) (Or.inl ⟨by rfl, ?_⟩) ?_ ?_
 rotate_left
 {
 intro w'
 go_simp
 with_reducible rfl
 }
 rotate_left
 · simp only [Act.put, zs, zz, zk, i64_w, i32_w]; rfl
 refine one_ (i := 9) (N := some 75) #[true, true, true, true, true, true, true, true, true, true, false, true, false, false, false] rfl rfl (one_of HT_.out (by kernel_rfl)) (by decide) (fun K hK => ?_)
 refine Kd.R_lit_step (Kd.int .i16) _ 29 ?hg (N := 75) ?hd (xs := ([IntKind.i16.wrap (t357)] : List Int)) (inner := [.int .i16 (IntKind.i16.wrap (t357))]) (ok := fun _ => True) (okp := fun _ => True) ?hr ?hp (fun _ hk => hk) trivial (Below.refl _ _) (Nat.le_refl _) (by simp) ?_; (case hd => rfl); (case hg => rfl); (case hr => first | (go_simp; done) | (go_simp; rfl)); (case hp => exact (Reps.one (show Kd.M (Kd.int .i16) _ _ _ (IntKind.i16.wrap (t357)) [.int .i16 (IntKind.i16.wrap (t357))] from rfl) (Reps.none _ _)))
 intro v372 w49 ho50 hb hg_ hnew_
 clear hg_ hnew_
 (first | rw [← Ny371.out] at ho50 | (simp only [Int.reduceToNat] at ho50; rw [← Ny371.out] at ho50))
 have n0_ := ak (Kd.Q_below (by (with_reducible repeat (first | apply Kd.Q_alloc | apply Kd.Q_drewN | apply Kd.Q_drew)); exact HO_31.out) hb)
 have n1_ := ak (Kd.R_below (zR HO_49.out) hb)
 have n2_ := ak (Kd.R_elder' (zR HO_345002.out) (Kd.R_base ho50) hb)
 have n3_ := ak (Kd.R_below (zR HO367.out) hb)
 have n4_ := ak (Kd.R_below (zR HO370.out) hb)
 have n5_ := ak (Kd.R_lower (Kd.R_new' ho50 (Kd.R_lt (zR HO_345002.out))) (below_size (by repeat (first | (with_reducible first | exact HB.out | apply below_alloc | apply pw_below_drewN | apply below_drew1 | refine below_set ?_ GE977.out | refine below_set ?_ GE340.out | refine below_set ?_ GE344.out) | exact HB.out))))
 have n6_ := ak (blk_below (g := 0) (o := .cells #[.int .i64 a977_0] 3 (0, 0)) (zK BK977.out) hb)
 have n7_ := ak (blk_below (g := gb340) (o := .cells #[.int .i64 0, .slice none 0 0, .slice none 0 0] 39 (0, 0)) (zK BK340.out) hb)
 have n8_ := ak (blk_below (g := gb344) (o := .cells #[.int .i64 t347, .slice Ao42 x345001_1.length co42, .slice Ao43 x345002_1.length co43] 39 (0, 0)) (zK BK344.out) hb)
 have n9_ := ak (below_step (by repeat (first | (with_reducible first | exact HB.out | apply below_alloc | apply pw_below_drewN | apply below_drew1 | refine below_set ?_ GE977.out | refine below_set ?_ GE340.out | refine below_set ?_ GE344.out) | exact HB.out)) hb)
 clear HO_31 HO_49 HO_345002 HO367 HO370 BK977 BK340 BK344 HB
 have HO_31 := n0_
 have HO_49 := n1_
 have HO_345002 := n2_
 have HO367 := n3_
 have HO370 := n4_
 have HO373 := n5_
 have BK977 := n6_
 have BK340 := n7_
 have BK344 := n8_
 have HB := n9_
 clear n0_ n1_ n2_ n3_ n4_ n5_ n6_ n7_ n8_ n9_ hb ho50
 refine hK.out _ _ ⟨(blk_cell BK344.out 0).trans rfl, (blk_cell BK344.out 1).trans rfl, (blk_cell BK344.out 2).trans rfl⟩ (fun hHeld => ?_)
 clear hK K
 refine norm_ (a' := ?_) ?_ ?_
 rotate_left
 {
 show Act.put _ (some 75) _ = _
 simp only [Act.put, zs, zz, zk, i64_w, i32_w]
 rfl
 }
 exact norm_ (by simp only [putAll, Act.put, zs, zz, zk]) (hCont (.slice Ao48 y365.length co48, v369, v372) _ ⟨hHeld, (by (with_reducible repeat (first | apply Kd.R_alloc | apply Kd.R_drewN | apply Kd.R_drew)); exact Kd.R_mono HO367.out (fun _ hk => hk.2)), (zR HO370.out), (by (with_reducible repeat (first | apply Kd.R_alloc | apply Kd.R_drewN | apply Kd.R_drew)); exact Kd.R_mono HO373.out (fun _ hk => hk.2)), (by (with_reducible repeat (first | apply Kd.Q_alloc | apply Kd.Q_drewN | apply Kd.Q_drew)); exact HO_31.out), (by (with_reducible repeat (first | apply Kd.R_alloc | apply Kd.R_drewN | apply Kd.R_drew)); exact Kd.R_mono HO_345002.out (fun _ hk => hk.2)), (zR HO_49.out), (zK BK340.out), (zK BK344.out), (zK BK977.out), (by repeat (first | (with_reducible first | exact HB.out | apply below_alloc | apply pw_below_drewN | apply below_drew1 | refine below_set ?_ GE977.out | refine below_set ?_ GE340.out | refine below_set ?_ GE344.out) | exact HB.out))⟩)
 }
 {
 skip
 refine Kd.R_lit_step (Kd.int .i16) _ 29 ?hg (N := 75) ?hd (xs := ([IntKind.i16.wrap (t357)] : List Int)) (inner := [.int .i16 (IntKind.i16.wrap (t357))]) (ok := fun _ => True) (okp := fun _ => True) ?hr ?hp (fun _ hk => hk) trivial (Below.refl _ _) (Nat.le_refl _) (by simp) ?_; (case hd => rfl); (case hg => rfl); (case hr => first | (go_simp; done) | (go_simp; rfl)); (case hp => exact (Reps.one (show Kd.M (Kd.int .i16) _ _ _ (IntKind.i16.wrap (t357)) [.int .i16 (IntKind.i16.wrap (t357))] from rfl) (Reps.none _ _)))
 intro v372 w47 ho48 hb hg_ hnew_
 clear hg_ hnew_
 (first | rw [← Ny371.out] at ho48 | (simp only [Int.reduceToNat] at ho48; rw [← Ny371.out] at ho48))
 have n0_ := ak (Kd.Q_below (by (with_reducible repeat (first | apply Kd.Q_alloc | apply Kd.Q_drewN | apply Kd.Q_drew)); exact HO_31.out) hb)
 have n1_ := ak (Kd.R_below (zR HO_49.out) hb)
 have n2_ := ak (Kd.R_below (zR HO_345001.out) hb)
 have n3_ := ak (Kd.R_elder' (zR HO_345002.out) (Kd.R_base ho48) hb)
 have n4_ := ak (Kd.R_below (zR HO367.out) hb)
 have n5_ := ak (Kd.R_lower (Kd.R_new' ho48 (Kd.R_lt (zR HO_345002.out))) (below_size (by repeat (first | (with_reducible first | exact HB.out | apply below_alloc | apply pw_below_drewN | apply below_drew1 | refine below_set ?_ GE977.out | refine below_set ?_ GE340.out | refine below_set ?_ GE344.out) | exact HB.out))))
 have n6_ := ak (blk_below (g := 0) (o := .cells #[.int .i64 a977_0] 3 (0, 0)) (zK BK977.out) hb)
 have n7_ := ak (blk_below (g := gb340) (o := .cells #[.int .i64 0, .slice none 0 0, .slice none 0 0] 39 (0, 0)) (zK BK340.out) hb)
 have n8_ := ak (blk_below (g := gb344) (o := .cells #[.int .i64 t347, .slice Ao42 x345001_1.length co42, .slice Ao43 x345002_1.length co43] 39 (0, 0)) (zK BK344.out) hb)
 have n9_ := ak (below_step (by repeat (first | (with_reducible first | exact HB.out | apply below_alloc | apply pw_below_drewN | apply below_drew1 | refine below_set ?_ GE977.out | refine below_set ?_ GE340.out | refine below_set ?_ GE344.out) | exact HB.out)) hb)
 clear HO_31 HO_49 HO_345001 HO_345002 HO367 BK977 BK340 BK344 HB
 have HO_31 := n0_
 have HO_49 := n1_
 have HO_345001 := n2_
 have HO_345002 := n3_
 have HO367 := n4_
 have HO373 := n5_
 have BK977 := n6_
 have BK340 := n7_
 have BK344 := n8_
 have HB := n9_
 clear n0_ n1_ n2_ n3_ n4_ n5_ n6_ n7_ n8_ n9_ hb ho48
 obtain ⟨Ao50, co50, eo50⟩ := Kd.R_slice HO367.out
 (first | subst eo50 | (injection eo50 with f1_ f2_ f3_; have f4_ := f1_.symm; have f5_ := f3_.symm; clear f1_ f2_ f3_; subst f4_; subst f5_))
 refine hK.out _ _ ⟨(blk_cell BK344.out 0).trans rfl, (blk_cell BK344.out 1).trans rfl, (blk_cell BK344.out 2).trans rfl⟩ (fun hHeld => ?_)
 clear hK K
 refine norm_ (a' := ?_) ?_ ?_
 rotate_left
 {
 show Act.put _ (some 75) _ = _
 simp only [Act.put, zs, zz, zk, i64_w, i32_w]
 rfl
 }
 refine one_ (i := 4) (N := some 70) #[true, true, true, true, true, true, true, true, true, true, false, false, false, false, false] rfl rfl (one_of HT_.out (by kernel_rfl)) (by decide) (fun K hK => ?_)
 refine Kd.R_append_rows_step (Kd.int .u16) (w0 := w) w.heap.size (by rfl) (.tmp 67) (.tmp 69) 37 62 (.int .u16 0) 2 rfl Tryd.underlying37 info62 rfl (by decide) (by omega) (.slice Ao42 x345001_1.length co42) x345001_1 y365 _ _ _ (fun k_ => some k_ ≠ (.slice Ao50 y365.length co50 : Value).ownBlock) (fun _ => False) rfl rfl ?aO ?aR (fun _ _ h => h) (fun _ h => h.elim) ?aF ?aB ?aS ?aL ?_
 (case aR => exact zC (Kd.R_reads' HO367.out).2.2)
 (case aB => exact (by repeat (first | (with_reducible first | exact HB.out | apply below_alloc | apply pw_below_drewN | apply below_drew1 | refine below_set ?_ GE977.out | refine below_set ?_ GE340.out | refine below_set ?_ GE344.out) | exact HB.out)))
 (case aF => exact (fun k_ hk => Kd.fresh' (Kd.R_lt (zR HO367.out)) k_ hk))
 (case aO => exact (by (with_reducible repeat (first | apply Kd.R_alloc | apply Kd.R_drewN | apply Kd.R_drew)); exact Kd.R_mono HO_345001.out (fun _ hk => hk.2)))
 (case aS => exact (below_size (by repeat (first | (with_reducible first | exact HB.out | apply below_alloc | apply pw_below_drewN | apply below_drew1 | refine below_set ?_ GE977.out | refine below_set ?_ GE340.out | refine below_set ?_ GE344.out) | exact HB.out))))
 (case aL => have := LMc40.out; omega)
 intro v369 w49 ho hb hg hat
 rw [← Ny368.out] at ho
 have n0_ := ak (Kd.Q_over' (by (with_reducible repeat (first | apply Kd.Q_alloc | apply Kd.Q_drewN | apply Kd.Q_drew)); exact HO_31.out) (Kd.R_typed (zR HO_345001.out)) (by decide) hg)
 have n1_ := ak (Kd.R_over' (zR HO_49.out) (Kd.R_typed (zR HO_345001.out)) (by decide) hg)
 have n2_ := ak (Kd.R_over' (zR HO_345002.out) (Kd.R_typed (zR HO_345001.out)) (by decide) hg)
 have n3_ := ak (blk_grown (g := 0) (o := .cells #[.int .i64 a977_0] 3 (0, 0)) (zK BK977.out) hg (Kd.R_ne HO_345001.out BK977.out (by decide)))
 have n4_ := ak (blk_grown (g := gb340) (o := .cells #[.int .i64 0, .slice none 0 0, .slice none 0 0] 39 (0, 0)) (zK BK340.out) hg (Kd.R_ne HO_345001.out BK340.out (by decide)))
 have n5_ := ak (blk_grown (g := gb344) (o := .cells #[.int .i64 t347, .slice Ao42 x345001_1.length co42, .slice Ao43 x345002_1.length co43] 39 (0, 0)) (zK BK344.out) hg (Kd.R_ne HO_345001.out BK344.out (by decide)))
 have n6_ := ak (Kd.R_after (ok := (fun _ => True)) (zR HO367.out) hg hat)
 have n7_ := ak (Kd.R_over' (zR HO373.out) (Kd.R_typed (zR HO_345001.out)) (by decide) hg)
 have n8_ := ak (hb)
 have n9_ := ak (ho)
 clear HO_31 HO_49 HO_345002 BK977 BK340 BK344 HO367 HO373 HB HO_345001
 have HO_31 := n0_
 have HO_49 := n1_
 have HO_345002 := n2_
 have BK977 := n3_
 have BK340 := n4_
 have BK344 := n5_
 have HO367 := n6_
 have HO373 := n7_
 have HB := n8_
 have HO370 := n9_
 clear n0_ n1_ n2_ n3_ n4_ n5_ n6_ n7_ n8_ n9_ ho hb hg hat
 refine hK.out _ _ ⟨(blk_cell BK344.out 0).trans rfl, (blk_cell BK344.out 1).trans rfl, (blk_cell BK344.out 2).trans rfl⟩ (fun hHeld => ?_)
 clear hK K
 refine norm_ (a' := ?_) ?_ ?_
 rotate_left
 {
 show Act.put _ (some 70) _ = _
 simp only [Act.put, zs, zz, zk, i64_w, i32_w]
 rfl
 }
 refine pure_ (i := 11) (N := some 77) (v := ?_) (a' := ?_) #[true, true, true, true, true, true, true, true, true, true, false, true, false, false, false] rfl rfl (any_of HT_.out (by kernel_rfl)) (fun _ _ _ h => h) (Or.inl ⟨by rfl, ?_⟩) ?_ ?_
 rotate_left
 {
 intro w'
 go_simp
 with_reducible rfl
 }
 rotate_left
 · simp only [Act.put, zs, zz, zk, i64_w, i32_w]; rfl
 exact norm_ (by simp only [putAll, Act.put, zs, zz, zk]) (hCont (.slice Ao50 y365.length co50, v369, v372) _ ⟨hHeld, (by (with_reducible repeat (first | apply Kd.R_alloc | apply Kd.R_drewN | apply Kd.R_drew)); exact Kd.R_mono HO367.out (fun _ hk => hk.2)), (zR HO370.out), (by (with_reducible repeat (first | apply Kd.R_alloc | apply Kd.R_drewN | apply Kd.R_drew)); exact Kd.R_mono HO373.out (fun _ hk => hk.2)), (by (with_reducible repeat (first | apply Kd.Q_alloc | apply Kd.Q_drewN | apply Kd.Q_drew)); exact HO_31.out), (by (with_reducible repeat (first | apply Kd.R_alloc | apply Kd.R_drewN | apply Kd.R_drew)); exact Kd.R_mono HO_345002.out (fun _ hk => hk.2)), (zR HO_49.out), (zK BK340.out), (zK BK344.out), (zK BK977.out), (by repeat (first | (with_reducible first | exact HB.out | apply below_alloc | apply pw_below_drewN | apply below_drew1 | refine below_set ?_ GE977.out | refine below_set ?_ GE340.out | refine below_set ?_ GE344.out) | exact HB.out))⟩)
 }
 }
 {
 skip
 refine Kd.R_lit_step (Kd.int .i16) _ 29 ?hg (N := 75) ?hd (xs := ([IntKind.i16.wrap (t357)] : List Int)) (inner := [.int .i16 (IntKind.i16.wrap (t357))]) (ok := fun _ => True) (okp := fun _ => True) ?hr ?hp (fun _ hk => hk) trivial (Below.refl _ _) (Nat.le_refl _) (by simp) ?_; (case hd => rfl); (case hg => rfl); (case hr => first | (go_simp; done) | (go_simp; rfl)); (case hp => exact (Reps.one (show Kd.M (Kd.int .i16) _ _ _ (IntKind.i16.wrap (t357)) [.int .i16 (IntKind.i16.wrap (t357))] from rfl) (Reps.none _ _)))
 intro v372 w45 ho46 hb hg_ hnew_
 clear hg_ hnew_
 (first | rw [← Ny371.out] at ho46 | (simp only [Int.reduceToNat] at ho46; rw [← Ny371.out] at ho46))
 have n0_ := ak (Kd.Q_below (by (with_reducible repeat (first | apply Kd.Q_alloc | apply Kd.Q_drewN | apply Kd.Q_drew)); exact HO_31.out) hb)
 have n1_ := ak (Kd.R_below (zR HO_49.out) hb)
 have n2_ := ak (Kd.R_below (zR HO_345001.out) hb)
 have n3_ := ak (Kd.R_elder' (zR HO_345002.out) (Kd.R_base ho46) hb)
 have n4_ := ak (Kd.R_lower (Kd.R_new' ho46 (Kd.R_lt (zR HO_345002.out))) (below_size (by repeat (first | (with_reducible first | exact HB.out | apply below_alloc | apply pw_below_drewN | apply below_drew1 | refine below_set ?_ GE977.out | refine below_set ?_ GE340.out | refine below_set ?_ GE344.out) | exact HB.out))))
 have n5_ := ak (blk_below (g := 0) (o := .cells #[.int .i64 a977_0] 3 (0, 0)) (zK BK977.out) hb)
 have n6_ := ak (blk_below (g := gb340) (o := .cells #[.int .i64 0, .slice none 0 0, .slice none 0 0] 39 (0, 0)) (zK BK340.out) hb)
 have n7_ := ak (blk_below (g := gb344) (o := .cells #[.int .i64 t347, .slice Ao42 x345001_1.length co42, .slice Ao43 x345002_1.length co43] 39 (0, 0)) (zK BK344.out) hb)
 have n8_ := ak (below_step (by repeat (first | (with_reducible first | exact HB.out | apply below_alloc | apply pw_below_drewN | apply below_drew1 | refine below_set ?_ GE977.out | refine below_set ?_ GE340.out | refine below_set ?_ GE344.out) | exact HB.out)) hb)
 clear HO_31 HO_49 HO_345001 HO_345002 BK977 BK340 BK344 HB
 have HO_31 := n0_
 have HO_49 := n1_
 have HO_345001 := n2_
 have HO_345002 := n3_
 have HO373 := n4_
 have BK977 := n5_
 have BK340 := n6_
 have BK344 := n7_
 have HB := n8_
 clear n0_ n1_ n2_ n3_ n4_ n5_ n6_ n7_ n8_ hb ho46
 refine hK.out _ _ ⟨(blk_cell BK344.out 0).trans rfl, (blk_cell BK344.out 1).trans rfl, (blk_cell BK344.out 2).trans rfl⟩ (fun hHeld => ?_)
 clear hK K
 refine norm_ (a' := ?_) ?_ ?_
 rotate_left
 {
 show Act.put _ (some 75) _ = _
 simp only [Act.put, zs, zz, zk, i64_w, i32_w]
 rfl
 }
 refine one_ (i := 3) (N := some 69) #[true, true, true, true, false, true, true, true, true, true, false, false, false, false, false] rfl rfl (one_of HT_.out (by kernel_rfl)) (by decide) (fun K hK => ?_)
 refine Kd.R_lit_step (Kd.int .u16) _ 62 ?hg (N := 69) ?hd (xs := ([x13_2] : List Int)) (inner := [.int .u16 x13_2]) (ok := fun _ => True) (okp := fun _ => True) ?hr ?hp (fun _ hk => hk) trivial (Below.refl _ _) (Nat.le_refl _) (by simp) ?_; (case hd => rfl); (case hg => rfl); (case hr => first | (go_simp; done) | (go_simp; rfl)); (case hp => exact (Reps.one (show Kd.M (Kd.int .u16) _ _ _ x13_2 [.int .u16 x13_2] from rfl) (Reps.none _ _)))
 intro v366 w47 ho48 hb hg_ hnew_
 clear hg_ hnew_
 (first | rw [← Ny365.out] at ho48 | (simp only [Int.reduceToNat] at ho48; rw [← Ny365.out] at ho48))
 have n0_ := ak (Kd.Q_below (by (with_reducible repeat (first | apply Kd.Q_alloc | apply Kd.Q_drewN | apply Kd.Q_drew)); exact HO_31.out) hb)
 have n1_ := ak (Kd.R_below (zR HO_49.out) hb)
 have n2_ := ak (Kd.R_elder' (zR HO_345001.out) (Kd.R_base ho48) hb)
 have n3_ := ak (Kd.R_below (zR HO_345002.out) hb)
 have n4_ := ak (Kd.R_below (zR HO373.out) hb)
 have n5_ := ak (Kd.R_lower (Kd.R_new' ho48 (Kd.R_lt (zR HO_345001.out))) (below_size (by repeat (first | (with_reducible first | exact HB.out | apply below_alloc | apply pw_below_drewN | apply below_drew1 | refine below_set ?_ GE977.out | refine below_set ?_ GE340.out | refine below_set ?_ GE344.out) | exact HB.out))))
 have n6_ := ak (blk_below (g := 0) (o := .cells #[.int .i64 a977_0] 3 (0, 0)) (zK BK977.out) hb)
 have n7_ := ak (blk_below (g := gb340) (o := .cells #[.int .i64 0, .slice none 0 0, .slice none 0 0] 39 (0, 0)) (zK BK340.out) hb)
 have n8_ := ak (blk_below (g := gb344) (o := .cells #[.int .i64 t347, .slice Ao42 x345001_1.length co42, .slice Ao43 x345002_1.length co43] 39 (0, 0)) (zK BK344.out) hb)
 have n9_ := ak (below_step (by repeat (first | (with_reducible first | exact HB.out | apply below_alloc | apply pw_below_drewN | apply below_drew1 | refine below_set ?_ GE977.out | refine below_set ?_ GE340.out | refine below_set ?_ GE344.out) | exact HB.out)) hb)
 clear HO_31 HO_49 HO_345001 HO_345002 HO373 BK977 BK340 BK344 HB
 have HO_31 := n0_
 have HO_49 := n1_
 have HO_345001 := n2_
 have HO_345002 := n3_
 have HO373 := n4_
 have HO367 := n5_
 have BK977 := n6_
 have BK340 := n7_
 have BK344 := n8_
 have HB := n9_
 clear n0_ n1_ n2_ n3_ n4_ n5_ n6_ n7_ n8_ n9_ hb ho48
 obtain ⟨Ao50, co50, eo50⟩ := Kd.R_slice HO367.out
 (first | subst eo50 | (injection eo50 with f1_ f2_ f3_; have f4_ := f1_.symm; have f5_ := f3_.symm; clear f1_ f2_ f3_; subst f4_; subst f5_))
 refine hK.out _ _ ⟨(blk_cell BK344.out 0).trans rfl, (blk_cell BK344.out 1).trans rfl, (blk_cell BK344.out 2).trans rfl⟩ (fun hHeld => ?_)
 clear hK K
 refine norm_ (a' := ?_) ?_ ?_
 rotate_left
 {
 show Act.put _ (some 69) _ = _
 simp only [Act.put, zs, zz, zk, i64_w, i32_w]
 rfl
 }
 refine one_ (i := 4) (N := some 70) #[true, true, true, true, true, true, true, true, true, true, false, false, false, false, false] rfl rfl (one_of HT_.out (by kernel_rfl)) (by decide) (fun K hK => ?_)
 refine Kd.R_append_rows_step (Kd.int .u16) (w0 := w) w.heap.size (by rfl) (.tmp 67) (.tmp 69) 37 62 (.int .u16 0) 2 rfl Tryd.underlying37 info62 rfl (by decide) (by omega) (.slice Ao42 x345001_1.length co42) x345001_1 y365 _ _ _ (fun k_ => some k_ ≠ (.slice Ao50 y365.length co50 : Value).ownBlock) (fun _ => False) rfl rfl ?aO ?aR (fun _ _ h => h) (fun _ h => h.elim) ?aF ?aB ?aS ?aL ?_
 (case aR => exact zC (Kd.R_reads' HO367.out).2.2)
 (case aB => exact (by repeat (first | (with_reducible first | exact HB.out | apply below_alloc | apply pw_below_drewN | apply below_drew1 | refine below_set ?_ GE977.out | refine below_set ?_ GE340.out | refine below_set ?_ GE344.out) | exact HB.out)))
 (case aF => exact (fun k_ hk => Kd.fresh' (Kd.R_lt (zR HO367.out)) k_ hk))
 (case aO => exact (by (with_reducible repeat (first | apply Kd.R_alloc | apply Kd.R_drewN | apply Kd.R_drew)); exact Kd.R_mono HO_345001.out (fun _ hk => hk.2)))
 (case aS => exact (below_size (by repeat (first | (with_reducible first | exact HB.out | apply below_alloc | apply pw_below_drewN | apply below_drew1 | refine below_set ?_ GE977.out | refine below_set ?_ GE340.out | refine below_set ?_ GE344.out) | exact HB.out))))
 (case aL => have := LMc40.out; omega)
 intro v369 w49 ho hb hg hat
 rw [← Ny368.out] at ho
 have n0_ := ak (Kd.Q_over' (by (with_reducible repeat (first | apply Kd.Q_alloc | apply Kd.Q_drewN | apply Kd.Q_drew)); exact HO_31.out) (Kd.R_typed (zR HO_345001.out)) (by decide) hg)
 have n1_ := ak (Kd.R_over' (zR HO_49.out) (Kd.R_typed (zR HO_345001.out)) (by decide) hg)
 have n2_ := ak (Kd.R_over' (zR HO_345002.out) (Kd.R_typed (zR HO_345001.out)) (by decide) hg)
 have n3_ := ak (blk_grown (g := 0) (o := .cells #[.int .i64 a977_0] 3 (0, 0)) (zK BK977.out) hg (Kd.R_ne HO_345001.out BK977.out (by decide)))
 have n4_ := ak (blk_grown (g := gb340) (o := .cells #[.int .i64 0, .slice none 0 0, .slice none 0 0] 39 (0, 0)) (zK BK340.out) hg (Kd.R_ne HO_345001.out BK340.out (by decide)))
 have n5_ := ak (blk_grown (g := gb344) (o := .cells #[.int .i64 t347, .slice Ao42 x345001_1.length co42, .slice Ao43 x345002_1.length co43] 39 (0, 0)) (zK BK344.out) hg (Kd.R_ne HO_345001.out BK344.out (by decide)))
 have n6_ := ak (Kd.R_over' (zR HO373.out) (Kd.R_typed (zR HO_345001.out)) (by decide) hg)
 have n7_ := ak (Kd.R_after (ok := (fun _ => True)) (zR HO367.out) hg hat)
 have n8_ := ak (hb)
 have n9_ := ak (ho)
 clear HO_31 HO_49 HO_345002 BK977 BK340 BK344 HO373 HO367 HB HO_345001
 have HO_31 := n0_
 have HO_49 := n1_
 have HO_345002 := n2_
 have BK977 := n3_
 have BK340 := n4_
 have BK344 := n5_
 have HO373 := n6_
 have HO367 := n7_
 have HB := n8_
 have HO370 := n9_
 clear n0_ n1_ n2_ n3_ n4_ n5_ n6_ n7_ n8_ n9_ ho hb hg hat
 refine hK.out _ _ ⟨(blk_cell BK344.out 0).trans rfl, (blk_cell BK344.out 1).trans rfl, (blk_cell BK344.out 2).trans rfl⟩ (fun hHeld => ?_)
 clear hK K
 refine norm_ (a' := ?_) ?_ ?_
 rotate_left
 {
 show Act.put _ (some 70) _ = _
 simp only [Act.put, zs, zz, zk, i64_w, i32_w]
 rfl
 }
 refine pure_ (i := 11) (N := some 77) (v := ?_) (a' := ?_) #[true, true, true, true, true, true, true, true, true, true, false, true, false, false, false] rfl rfl (any_of HT_.out (by kernel_rfl)) (fun _ _ _ h => h) (Or.inl ⟨by rfl, ?_⟩) ?_ ?_
 rotate_left
 {
 intro w'
 go_simp
 with_reducible rfl
 }
 rotate_left
 · simp only [Act.put, zs, zz, zk, i64_w, i32_w]; rfl
 exact norm_ (by simp only [putAll, Act.put, zs, zz, zk]) (hCont (.slice Ao50 y365.length co50, v369, v372) _ ⟨hHeld, (by (with_reducible repeat (first | apply Kd.R_alloc | apply Kd.R_drewN | apply Kd.R_drew)); exact Kd.R_mono HO367.out (fun _ hk => hk.2)), (zR HO370.out), (by (with_reducible repeat (first | apply Kd.R_alloc | apply Kd.R_drewN | apply Kd.R_drew)); exact Kd.R_mono HO373.out (fun _ hk => hk.2)), (by (with_reducible repeat (first | apply Kd.Q_alloc | apply Kd.Q_drewN | apply Kd.Q_drew)); exact HO_31.out), (by (with_reducible repeat (first | apply Kd.R_alloc | apply Kd.R_drewN | apply Kd.R_drew)); exact Kd.R_mono HO_345002.out (fun _ hk => hk.2)), (zR HO_49.out), (zK BK340.out), (zK BK344.out), (zK BK977.out), (by repeat (first | (with_reducible first | exact HB.out | apply below_alloc | apply pw_below_drewN | apply below_drew1 | refine below_set ?_ GE977.out | refine below_set ?_ GE340.out | refine below_set ?_ GE344.out) | exact HB.out))⟩)
 }
 }
 rintro ⟨v366, v369, v372⟩ w51 ⟨hS_, h0_, h1_, h2_, h3_, h4_, h5_, h6_, h7_, h8_, h9_⟩
 have n0_ : Aside0 (Kd.R (Kd.int .u16) 62 w51 w.heap.size (fun k_ => some k_ ≠ (v369 : Value).ownBlock) v366 y365) := ⟨h0_⟩
 have n1_ : Aside0 (Kd.R (Kd.int .u16) 62 w51 w.heap.size (fun k_ => some k_ ≠ (v366 : Value).ownBlock) v369 y368) := ⟨h1_⟩
 have n2_ : Aside0 (Kd.R (Kd.int .i16) 29 w51 w.heap.size (fun k_ => some k_ ≠ (.slice Ao43 x345002_1.length co43 : Value).ownBlock) v372 y371) := ⟨h2_⟩
 have n3_ : Aside0 (Kd.Q Kd.string 9 w51 w.heap.size (fun k_ => some k_ ≠ (.slice Ao30 t359.length co30 : Value).ownBlock) (.slice (some ad353) y349.length c20) y349) := ⟨h3_⟩
 have n4_ : Aside0 (Kd.R (Kd.int .i16) 29 w51 w.heap.size (fun k_ => some k_ ≠ (v372 : Value).ownBlock) (.slice Ao43 x345002_1.length co43) x345002_1) := ⟨h4_⟩
 have n5_ : Aside0 (Kd.R Kd.string 9 w51 w.heap.size (fun k_ => some k_ ≠ (.slice (some ad353) y349.length c20 : Value).ownBlock) (.slice Ao30 t359.length co30) t359) := ⟨h5_⟩
 have n6_ : Aside0 (w51.heap[gb340]? = some (.cells #[.int .i64 0, .slice none 0 0, .slice none 0 0] 39 (0, 0))) := ⟨h6_⟩
 have n7_ : Aside0 (w51.heap[gb344]? = some (.cells #[.int .i64 t347, .slice Ao42 x345001_1.length co42, .slice Ao43 x345002_1.length co43] 39 (0, 0))) := ⟨h7_⟩
 have n8_ : Aside0 (w51.heap[0]? = some (.cells #[.int .i64 a977_0] 3 (0, 0))) := ⟨h8_⟩
 have n9_ : Aside0 (Below w.heap.size w w51) := ⟨h9_⟩
 clear HO_31 HO_49 HO_345001 HO_345002 BK977 BK340 BK344 HB h0_ h1_ h2_ h3_ h4_ h5_ h6_ h7_ h8_ h9_
 have HO367 := n0_
 have HO370 := n1_
 have HO373 := n2_
 have HO_31 := n3_
 have HO_345002 := n4_
 have HO_49 := n5_
 have BK340 := n6_
 have BK344 := n7_
 have BK977 := n8_
 have HB := n9_
 clear n0_ n1_ n2_ n3_ n4_ n5_ n6_ n7_ n8_ n9_
 have hHeld : w51.cell? ⟨gb344, 0, none⟩ = some (.int .i64 t347) ∧ w51.cell? ⟨gb344, 1, none⟩ = some (.slice Ao42 x345001_1.length co42) ∧ w51.cell? ⟨gb344, 2, none⟩ = some (.slice Ao43 x345002_1.length co43) := hS_
 obtain ⟨Ao53, co53, eo53⟩ := Kd.R_slice HO373.out
 (first | subst eo53 | (injection eo53 with f1_ f2_ f3_; have f4_ := f1_.symm; have f5_ := f3_.symm; clear f1_ f2_ f3_; subst f4_; subst f5_))
 refine norm_ (a' := ?_) ?_ ?_
 rotate_left
 · simp only [putAll, Act.put, zs, zz, zk]; rfl
 refine one_ (i := 10) (N := some 76) #[true, true, true, true, true, true, true, true, true, true, true, true, false, false, false] rfl rfl (one_of HT_.out (by kernel_rfl)) (by decide) (fun K hK => ?_)
 refine Kd.R_append_rows_step (Kd.int .i16) (w0 := w) w.heap.size (by rfl) (.tmp 72) (.tmp 75) 30 29 (.int .i16 0) 2 rfl Tryd.underlying30 info29 rfl (by decide) (by omega) (.slice Ao43 x345002_1.length co43) x345002_1 y371 _ _ _ (fun k_ => some k_ ≠ (.slice Ao53 y371.length co53 : Value).ownBlock) (fun _ => False) rfl rfl ?aO ?aR (fun _ _ h => h) (fun _ h => h.elim) ?aF ?aB ?aS ?aL ?_
 (case aR => exact zC (Kd.R_reads' HO373.out).2.2)
 (case aB => exact (by repeat (first | (with_reducible first | exact HB.out | apply below_alloc | apply pw_below_drewN | apply below_drew1 | refine below_set ?_ GE977.out | refine below_set ?_ GE340.out | refine below_set ?_ GE344.out) | exact HB.out)))
 (case aF => exact (fun k_ hk => Kd.fresh' (Kd.R_lt (zR HO373.out)) k_ hk))
 (case aO => exact (zR HO_345002.out))
 (case aS => exact (below_size (by repeat (first | (with_reducible first | exact HB.out | apply below_alloc | apply pw_below_drewN | apply below_drew1 | refine below_set ?_ GE977.out | refine below_set ?_ GE340.out | refine below_set ?_ GE344.out) | exact HB.out))))
 (case aL => have := LMc41.out; omega)
 intro v375 w52 ho hb hg hat
 rw [← Ny374.out] at ho
 have n0_ := ak (Kd.Q_over' (by (with_reducible repeat (first | apply Kd.Q_alloc | apply Kd.Q_drewN | apply Kd.Q_drew)); exact HO_31.out) (Kd.R_typed (zR HO_345002.out)) (by decide) hg)
 have n1_ := ak (Kd.R_over' (zR HO_49.out) (Kd.R_typed (zR HO_345002.out)) (by decide) hg)
 have n2_ := ak (blk_grown (g := 0) (o := .cells #[.int .i64 a977_0] 3 (0, 0)) (zK BK977.out) hg (Kd.R_ne HO_345002.out BK977.out (by decide)))
 have n3_ := ak (blk_grown (g := gb340) (o := .cells #[.int .i64 0, .slice none 0 0, .slice none 0 0] 39 (0, 0)) (zK BK340.out) hg (Kd.R_ne HO_345002.out BK340.out (by decide)))
 have n4_ := ak (blk_grown (g := gb344) (o := .cells #[.int .i64 t347, .slice Ao42 x345001_1.length co42, .slice Ao43 x345002_1.length co43] 39 (0, 0)) (zK BK344.out) hg (Kd.R_ne HO_345002.out BK344.out (by decide)))
 have n5_ := ak (Kd.R_over' (zR HO367.out) (Kd.R_typed (zR HO_345002.out)) (by decide) hg)
 have n6_ := ak (Kd.R_over' (zR HO370.out) (Kd.R_typed (zR HO_345002.out)) (by decide) hg)
 have n7_ := ak (Kd.R_after (ok := (fun _ => True)) (by (with_reducible repeat (first | apply Kd.R_alloc | apply Kd.R_drewN | apply Kd.R_drew)); exact Kd.R_mono HO373.out (fun _ hk => ⟨trivial, by first | exact hk | exact own_len_ hk⟩)) hg hat)
 have n8_ := ak (hb)
 have n9_ := ak (ho)
 clear HO_31 HO_49 BK977 BK340 BK344 HO367 HO370 HO373 HB HO_345002
 have HO_31 := n0_
 have HO_49 := n1_
 have BK977 := n2_
 have BK340 := n3_
 have BK344 := n4_
 have HO367 := n5_
 have HO370 := n6_
 have HO373 := n7_
 have HB := n8_
 have HO376 := n9_
 clear n0_ n1_ n2_ n3_ n4_ n5_ n6_ n7_ n8_ n9_ ho hb hg hat
 obtain ⟨Ao54, co54, eo54⟩ := Kd.R_slice HO370.out
 (first | subst eo54 | (injection eo54 with f1_ f2_ f3_; have f4_ := f1_.symm; have f5_ := f3_.symm; clear f1_ f2_ f3_; subst f4_; subst f5_))
 obtain ⟨Ao56, co56, eo56⟩ := Kd.R_slice HO376.out
 (first | subst eo56 | (injection eo56 with f1_ f2_ f3_; have f4_ := f1_.symm; have f5_ := f3_.symm; clear f1_ f2_ f3_; subst f4_; subst f5_))
 refine hK.out _ _ ⟨(blk_cell BK344.out 0).trans rfl, (blk_cell BK344.out 1).trans rfl, (blk_cell BK344.out 2).trans rfl⟩ (fun hHeld => ?_)
 clear hK K
 refine norm_ (a' := ?_) ?_ ?_
 rotate_left
 {
 show Act.put _ (some 76) _ = _
 simp only [Act.put, zs, zz, zk, i64_w, i32_w]
 rfl
 }
 refine last_ (i := 12) (N := none) #[true, true, true, true, true, true, true, true, true, true, true, true, true, false, false] rfl rfl (one_of HT_.out (by kernel_rfl)) (by decide) (fun K hK => ?_)
 have hs55 : w52.cell? ⟨gb344, 1, none⟩ = some (.slice Ao42 x345001_1.length co42) := (blk_cell BK344.out 1).trans rfl
 have hfs55 := blk_frozen BK344.out 1
 have hns55_0 := NB977_344.out
 have hns55_1 := NB340_344.out
 have hms55_0 := NB344_977.out
 have hms55_1 := NB344_340.out
 refine skip_ (w1 := ?_) (by rfl) rfl ?_ ?_
 rotate_left
 · go_simp; rfl
 refine hK.out _ _ ?_
 clear hK K
 refine pure_ (i := 13) (N := some 78) (v := ?_) (a' := ?_) #[true, true, true, true, true, true, true, true, true, true, true, true, true, true, false] rfl rfl (any_of HT_.out (by kernel_rfl)) (fun _ _ _ h => h) (Or.inl ⟨by rfl, ?_⟩) ?_ ?_
 rotate_left
 {
 intro w'
 go_simp
 with_reducible rfl
 }
 rotate_left
 · simp only [Act.put, zs, zz, zk, i64_w, i32_w]; rfl
 refine last_ (i := 14) (N := none) #[true, true, true, true, true, true, true, true, true, true, true, true, true, true, true] rfl rfl (one_of HT_.out (by kernel_rfl)) (by decide) (fun K hK => ?_)
 have hs57 : w52.cell? ⟨gb344, 2, none⟩ = some (.slice Ao43 x345002_1.length co43) := (blk_cell BK344.out 2).trans rfl
 have hfs57 := blk_frozen BK344.out 2
 have hns57_0 := NB977_344.out
 have hns57_1 := NB340_344.out
 have hms57_0 := NB344_977.out
 have hms57_1 := NB344_340.out
 refine skip_ (w1 := ?_) (by rfl) rfl ?_ ?_
 rotate_left
 · go_simp; rfl
 refine hK.out _ _ ?_
 clear hK K
 refine done_ (done_of HT_.out (by kernel_rfl)) ?_
 try go_wp2
 go_roundg k2
 case measure => have := HK1.out; have := HK2.out; omega
 case rel => exact ⟨(wrap64 (x33_1 + 1)), (y368), (y374), (.slice Ao54 y368.length co54), (.slice Ao56 y374.length co56), (by first | rfl | (simp; done) | (simp [*]; done)), H', ⟨by have := HK1.out; have := HK2.out; omega⟩, ⟨by (with_reducible repeat (first | apply Kd.Q_alloc | apply Kd.Q_drewN | apply Kd.Q_drew)); exact Kd.Q_mono (Kd.Q_far (p := ⟨gb344, 2, none⟩) (Kd.Q_far (p := ⟨gb344, 1, none⟩) (Kd.Q_types HO_31.out BK344.out (by decide)) (fun _ hk => hk.2) (.slice Ao54 y368.length co54)) (fun _ hk => hk.2) (.slice Ao56 y374.length co56)) (fun _ hk => trivial)⟩, ⟨by (with_reducible repeat (first | apply Kd.R_alloc | apply Kd.R_drewN | apply Kd.R_drew)); exact Kd.R_mono (Kd.R_far (p := ⟨gb344, 2, none⟩) (Kd.R_far (p := ⟨gb344, 1, none⟩) (Kd.R_types HO370.out BK344.out (by decide)) (fun _ hk => hk.2) (.slice Ao54 y368.length co54)) (fun _ hk => hk.2) (.slice Ao56 y374.length co56)) (fun _ hk => trivial)⟩, ⟨by (with_reducible repeat (first | apply Kd.R_alloc | apply Kd.R_drewN | apply Kd.R_drew)); exact Kd.R_mono (Kd.R_far (p := ⟨gb344, 2, none⟩) (Kd.R_far (p := ⟨gb344, 1, none⟩) (Kd.R_types HO376.out BK344.out (by decide)) (fun _ hk => hk.2) (.slice Ao54 y368.length co54)) (fun _ hk => hk.2) (.slice Ao56 y374.length co56)) (fun _ hk => trivial)⟩, ⟨by (with_reducible repeat (first | refine blk_drewN ?_ _ | refine blk_drew ?_ | refine blk_alloc ?_ _)); refine blk_far ?_ NB977_344.out _; (with_reducible repeat (first | refine blk_drewN ?_ _ | refine blk_drew ?_ | refine blk_alloc ?_ _)); refine blk_far ?_ NB977_344.out _; (with_reducible repeat (first | refine blk_drewN ?_ _ | refine blk_drew ?_ | refine blk_alloc ?_ _)); exact BK977.out⟩, ⟨by (with_reducible repeat (first | refine blk_drewN ?_ _ | refine blk_drew ?_ | refine blk_alloc ?_ _)); refine blk_far ?_ NB340_344.out _; (with_reducible repeat (first | refine blk_drewN ?_ _ | refine blk_drew ?_ | refine blk_alloc ?_ _)); refine blk_far ?_ NB340_344.out _; (with_reducible repeat (first | refine blk_drewN ?_ _ | refine blk_drew ?_ | refine blk_alloc ?_ _)); exact BK340.out⟩, ⟨by (with_reducible repeat (first | refine blk_drewN ?_ _ | refine blk_drew ?_ | refine blk_alloc ?_ _)); refine blk_put (cs := #[.int .i64 t347, .slice Ao54 y368.length co54, .slice Ao43 x345002_1.length co43]) ?_ 2 _ rfl; (with_reducible repeat (first | refine blk_drewN ?_ _ | refine blk_drew ?_ | refine blk_alloc ?_ _)); refine blk_put (cs := #[.int .i64 t347, .slice Ao42 x345001_1.length co42, .slice Ao43 x345002_1.length co43]) ?_ 1 _ rfl; (with_reducible repeat (first | refine blk_drewN ?_ _ | refine blk_drew ?_ | refine blk_alloc ?_ _)); exact BK344.out⟩, ⟨by repeat (first | (with_reducible first | exact HB.out | apply below_alloc | apply pw_below_drewN | apply below_drew1 | refine below_set ?_ GE977.out | refine below_set ?_ GE340.out | refine below_set ?_ GE344.out) | exact HB.out)⟩⟩
 }
 · rw [if_neg c41] at H; exact absurd H (by simp)
 }
 · rw [if_neg c40] at H; exact absurd H (by simp)
 }
 )
 )
 }
 · rw [if_neg c23] at H; exact absurd H (by simp)
 }
 · rw [if_neg c22] at H; exact absurd H (by simp)
 }
 {
 rw [if_neg c21] at H
 have c21b0 : decide (x33_1 < (y349.length : Int)) = false := decide_eq_false c21
 clear c21
 by_cases c58 : a0.toList = ([] : List UInt8)
 {
 rw [if_pos c58] at H
 have c58b0 : (a0.toList == ([] : List UInt8)) = true := beq_iff_eq.mpr c58
 have c58b1 : (a0.toList != ([] : List UInt8)) = false := bne_eq_false_iff_eq.mpr c58
 clear c58
 simp only [Option.some.injEq, Prod.mk.injEq] at H
 obtain ⟨rfl, rfl, rfl, rfl⟩ := H
 have hnb59 := NB340_977.out
 have hnc59 := NB977_340.out
 have hnb60 := NB340_344.out
 have hnc60 := NB344_340.out
 have hcz61_0 : wr.cell? ⟨gb340, 0, none⟩ = some (.int .i64 0) := (blk_cell BK340.out 0).trans rfl
 have hcz61_1 : wr.cell? ⟨gb340, 1, none⟩ = some (.slice none 0 0) := (blk_cell BK340.out 1).trans rfl
 have hcz61_2 : wr.cell? ⟨gb340, 2, none⟩ = some (.slice none 0 0) := (blk_cell BK340.out 2).trans rfl
 have hfz61_0 := blk_frozen BK340.out 0
 have hfz61_1 := blk_frozen BK340.out 1
 have hfz61_2 := blk_frozen BK340.out 2
 go_wp2
 refine bodyPost_ret (results_ct rfl _ _ gb340 39 #[.int .i64 0, .slice none 0 0, .slice none 0 0] (0, 0) _ rfl (by (with_reducible repeat (first | refine blk_drewN ?_ _ | refine blk_drew ?_ | refine blk_alloc ?_ _)); refine blk_put (cs := #[.int .i64 0, .slice none 0 0, .slice none 0 0]) ?_ 2 _ rfl; (with_reducible repeat (first | refine blk_drewN ?_ _ | refine blk_drew ?_ | refine blk_alloc ?_ _)); refine blk_put (cs := #[.int .i64 0, .slice none 0 0, .slice none 0 0]) ?_ 1 _ rfl; (with_reducible repeat (first | refine blk_drewN ?_ _ | refine blk_drew ?_ | refine blk_alloc ?_ _)); refine blk_put (cs := #[.int .i64 0, .slice none 0 0, .slice none 0 0]) ?_ 0 _ rfl; (with_reducible repeat (first | refine blk_drewN ?_ _ | refine blk_drew ?_ | refine blk_alloc ?_ _)); exact BK340.out) Tryd.underlying39 rfl (by kernel_rfl)) rfl ?_
 exact ⟨_, _, by first | rfl | (simp [errW_none, errW_some] <;> rfl) | (simp [*, errW_none, errW_some] <;> rfl), by first | exact Kd.R_nil _ _ _ _ _ | exact Kd.N_nil _ _ _ _ _ | exact Kd.V_nil _ _ _ _ _ | exact Kd.Q_nil _ _ _ _ _ | exact Kd.S_nil _ _ _ _ _, by first | exact Kd.R_nil _ _ _ _ _ | exact Kd.N_nil _ _ _ _ _ | exact Kd.V_nil _ _ _ _ _ | exact Kd.Q_nil _ _ _ _ _ | exact Kd.S_nil _ _ _ _ _, by repeat (first | (with_reducible first | exact HB.out | apply below_alloc | apply pw_below_drewN | apply below_drew1 | refine below_set ?_ GE977.out | refine below_set ?_ GE340.out | refine below_set ?_ GE344.out) | exact HB.out)⟩
 }
 {
 rw [if_neg c58] at H
 have c58b0 : (a0.toList == ([] : List UInt8)) = false := beq_eq_false_iff_ne.mpr c58
 have c58b1 : (a0.toList != ([] : List UInt8)) = true := bne_iff_ne.mpr c58
 replace H := Option.bind_eq_some_iff.mp H
 obtain ⟨t352, A620, H⟩ := H
 replace H : (if t352.toList = a0.toList then (some (t347, x345001_1, x345002_1, 0)) else (some (0, ([] : List Int), ([] : List Int), 5))) = some (r1, r2, r3, r4) := H
 have A62 := ak A620
 clear A620
 by_cases c63 : t352.toList = a0.toList
 {
 rw [if_pos c63] at H
 have c63b0 : (t352.toList == a0.toList) = true := beq_iff_eq.mpr c63
 have c63b1 : (t352.toList != a0.toList) = false := bne_eq_false_iff_eq.mpr c63
 clear c63
 simp only [Option.some.injEq, Prod.mk.injEq] at H
 obtain ⟨rfl, rfl, rfl, rfl⟩ := H
 have hnb64 := NB344_977.out
 have hnc64 := NB977_344.out
 have hnb65 := NB344_340.out
 have hnc65 := NB340_344.out
 have hcz66_0 : wr.cell? ⟨gb344, 0, none⟩ = some (.int .i64 t347) := (blk_cell BK344.out 0).trans rfl
 have hcz66_1 : wr.cell? ⟨gb344, 1, none⟩ = some (u345001) := (blk_cell BK344.out 1).trans rfl
 have hcz66_2 : wr.cell? ⟨gb344, 2, none⟩ = some (u345002) := (blk_cell BK344.out 2).trans rfl
 have hfz66_0 := blk_frozen BK344.out 0
 have hfz66_1 := blk_frozen BK344.out 1
 have hfz66_2 := blk_frozen BK344.out 2
 obtain ⟨Ao67, co67, eo67⟩ := Kd.R_slice HO_345001.out
 subst eo67
 obtain ⟨Ao68, co68, eo68⟩ := Kd.R_slice HO_345002.out
 subst eo68
 go_wp2_with (first | (go_at_call 37; (with_reducible refine (impl_LogText.calls k1 t347 _ _ x345001_1 _ _ x345002_1  t352 _ ?side1 ?side2 ?side3 ?side4 ?side5 A62.out).mono ?_); (case side1 => exact zC (Kd.R_reads' HO_345001.out).2.2); (case side2 => exact (Kd.R_reads' HO_345001.out).2.1); (case side3 => exact zC (Kd.R_reads' HO_345002.out).2.2); (case side4 => exact (Kd.R_reads' HO_345002.out).2.1); (case side5 => exact Go.Proofs.YtchnklikeimpiaaDoor.H.tab10_below HGT.out (by repeat (first | (with_reducible first | exact HB.out | apply below_alloc | apply pw_below_drewN | apply below_drew1 | refine below_set ?_ GE977.out | refine below_set ?_ GE340.out | refine below_set ?_ GE344.out) | exact HB.out))); rintro e w69 ⟨rfl, hb⟩; have n0_ := ak (Kd.Q_below (by (with_reducible repeat (first | apply Kd.Q_alloc | apply Kd.Q_drewN | apply Kd.Q_drew)); exact HO_31.out) hb); have n1_ := ak (Kd.R_below (zR HO_345001.out) hb); have n2_ := ak (Kd.R_below (zR HO_345002.out) hb); have n3_ := ak (blk_below (g := 0) (o := .cells #[.int .i64 a977_0] 3 (0, 0)) (zK BK977.out) hb); have n4_ := ak (blk_below (g := gb340) (o := .cells #[.int .i64 0, .slice none 0 0, .slice none 0 0] 39 (0, 0)) (zK BK340.out) hb); have n5_ := ak (blk_below (g := gb344) (o := .cells #[.int .i64 t347, .slice Ao67 x345001_1.length co67, .slice Ao68 x345002_1.length co68] 39 (0, 0)) (zK BK344.out) hb); have n6_ := ak (below_step (by repeat (first | (with_reducible first | exact HB.out | apply below_alloc | apply pw_below_drewN | apply below_drew1 | refine below_set ?_ GE977.out | refine below_set ?_ GE340.out | refine below_set ?_ GE344.out) | exact HB.out)) hb); clear HO_31 HO_345001 HO_345002 BK977 BK340 BK344 HB; have HO_31 := n0_; have HO_345001 := n1_; have HO_345002 := n2_; have BK977 := n3_; have BK340 := n4_; have BK344 := n5_; have HB := n6_; clear n0_ n1_ n2_ n3_ n4_ n5_ n6_; (try clear hb); (try clear hb2); (try clear hk); (try clear hi); have hcz70_0 : w69.cell? ⟨gb344, 0, none⟩ = some (.int .i64 t347) := (blk_cell BK344.out 0).trans rfl; have hcz70_1 : w69.cell? ⟨gb344, 1, none⟩ = some (.slice Ao67 x345001_1.length co67) := (blk_cell BK344.out 1).trans rfl; have hcz70_2 : w69.cell? ⟨gb344, 2, none⟩ = some (.slice Ao68 x345002_1.length co68) := (blk_cell BK344.out 2).trans rfl; have hfz70_0 := blk_frozen BK344.out 0; have hfz70_1 := blk_frozen BK344.out 1; have hfz70_2 := blk_frozen BK344.out 2; have hnb71 := NB340_977.out; have hnc71 := NB977_340.out; have hcz72_0 : w69.cell? ⟨gb340, 0, none⟩ = some (.int .i64 0) := (blk_cell BK340.out 0).trans rfl; have hcz72_1 : w69.cell? ⟨gb340, 1, none⟩ = some (.slice none 0 0) := (blk_cell BK340.out 1).trans rfl; have hcz72_2 : w69.cell? ⟨gb340, 2, none⟩ = some (.slice none 0 0) := (blk_cell BK340.out 2).trans rfl; have hfz72_0 := blk_frozen BK340.out 0; have hfz72_1 := blk_frozen BK340.out 1; have hfz72_2 := blk_frozen BK340.out 2))
 refine bodyPost_ret (results_ct rfl _ _ gb340 39 #[.int .i64 t347, .slice Ao67 x345001_1.length co67, .slice Ao68 x345002_1.length co68] (0, 0) _ rfl (by (with_reducible repeat (first | refine blk_drewN ?_ _ | refine blk_drew ?_ | refine blk_alloc ?_ _)); refine blk_put (cs := #[.int .i64 t347, .slice Ao67 x345001_1.length co67, .slice none 0 0]) ?_ 2 _ rfl; (with_reducible repeat (first | refine blk_drewN ?_ _ | refine blk_drew ?_ | refine blk_alloc ?_ _)); refine blk_put (cs := #[.int .i64 t347, .slice none 0 0, .slice none 0 0]) ?_ 1 _ rfl; (with_reducible repeat (first | refine blk_drewN ?_ _ | refine blk_drew ?_ | refine blk_alloc ?_ _)); refine blk_put (cs := #[.int .i64 0, .slice none 0 0, .slice none 0 0]) ?_ 0 _ rfl; (with_reducible repeat (first | refine blk_drewN ?_ _ | refine blk_drew ?_ | refine blk_alloc ?_ _)); exact BK340.out) Tryd.underlying39 rfl (by kernel_rfl)) rfl ?_
 exact ⟨_, _, by first | rfl | (simp [errW_none, errW_some] <;> rfl) | (simp [*, errW_none, errW_some] <;> rfl), by (with_reducible repeat (first | apply Kd.R_alloc | apply Kd.R_drewN | apply Kd.R_drew)); exact Kd.R_mono (Kd.R_far (p := ⟨gb340, 2, none⟩) (Kd.R_far (p := ⟨gb340, 1, none⟩) (Kd.R_far (p := ⟨gb340, 0, none⟩) (Kd.R_types HO_345001.out BK340.out (by decide)) (fun _ hk => hk.2) (.int .i64 t347)) (fun _ hk => hk.2) (.slice Ao67 x345001_1.length co67)) (fun _ hk => hk.2) (.slice Ao68 x345002_1.length co68)) (fun _ hk => trivial), by (with_reducible repeat (first | apply Kd.R_alloc | apply Kd.R_drewN | apply Kd.R_drew)); exact Kd.R_mono (Kd.R_far (p := ⟨gb340, 2, none⟩) (Kd.R_far (p := ⟨gb340, 1, none⟩) (Kd.R_far (p := ⟨gb340, 0, none⟩) (Kd.R_types HO_345002.out BK340.out (by decide)) (fun _ hk => hk.2) (.int .i64 t347)) (fun _ hk => hk.2) (.slice Ao67 x345001_1.length co67)) (fun _ hk => hk.2) (.slice Ao68 x345002_1.length co68)) (fun _ hk => trivial), by repeat (first | (with_reducible first | exact HB.out | apply below_alloc | apply pw_below_drewN | apply below_drew1 | refine below_set ?_ GE977.out | refine below_set ?_ GE340.out | refine below_set ?_ GE344.out) | exact HB.out)⟩
 }
 {
 rw [if_neg c63] at H
 have c63b0 : (t352.toList == a0.toList) = false := beq_eq_false_iff_ne.mpr c63
 have c63b1 : (t352.toList != a0.toList) = true := bne_iff_ne.mpr c63
 simp only [Option.some.injEq, Prod.mk.injEq] at H
 obtain ⟨rfl, rfl, rfl, rfl⟩ := H
 have hnb73 := NB344_977.out
 have hnc73 := NB977_344.out
 have hnb74 := NB344_340.out
 have hnc74 := NB340_344.out
 have hcz75_0 : wr.cell? ⟨gb344, 0, none⟩ = some (.int .i64 t347) := (blk_cell BK344.out 0).trans rfl
 have hcz75_1 : wr.cell? ⟨gb344, 1, none⟩ = some (u345001) := (blk_cell BK344.out 1).trans rfl
 have hcz75_2 : wr.cell? ⟨gb344, 2, none⟩ = some (u345002) := (blk_cell BK344.out 2).trans rfl
 have hfz75_0 := blk_frozen BK344.out 0
 have hfz75_1 := blk_frozen BK344.out 1
 have hfz75_2 := blk_frozen BK344.out 2
 obtain ⟨Ao76, co76, eo76⟩ := Kd.R_slice HO_345001.out
 subst eo76
 obtain ⟨Ao77, co77, eo77⟩ := Kd.R_slice HO_345002.out
 subst eo77
 go_wp2_with (first | (go_at_call 37; (with_reducible refine (impl_LogText.calls k1 t347 _ _ x345001_1 _ _ x345002_1  t352 _ ?side1 ?side2 ?side3 ?side4 ?side5 A62.out).mono ?_); (case side1 => exact zC (Kd.R_reads' HO_345001.out).2.2); (case side2 => exact (Kd.R_reads' HO_345001.out).2.1); (case side3 => exact zC (Kd.R_reads' HO_345002.out).2.2); (case side4 => exact (Kd.R_reads' HO_345002.out).2.1); (case side5 => exact Go.Proofs.YtchnklikeimpiaaDoor.H.tab10_below HGT.out (by repeat (first | (with_reducible first | exact HB.out | apply below_alloc | apply pw_below_drewN | apply below_drew1 | refine below_set ?_ GE977.out | refine below_set ?_ GE340.out | refine below_set ?_ GE344.out) | exact HB.out))); rintro e w78 ⟨rfl, hb⟩; have n0_ := ak (Kd.Q_below (by (with_reducible repeat (first | apply Kd.Q_alloc | apply Kd.Q_drewN | apply Kd.Q_drew)); exact HO_31.out) hb); have n1_ := ak (Kd.R_below (zR HO_345001.out) hb); have n2_ := ak (Kd.R_below (zR HO_345002.out) hb); have n3_ := ak (blk_below (g := 0) (o := .cells #[.int .i64 a977_0] 3 (0, 0)) (zK BK977.out) hb); have n4_ := ak (blk_below (g := gb340) (o := .cells #[.int .i64 0, .slice none 0 0, .slice none 0 0] 39 (0, 0)) (zK BK340.out) hb); have n5_ := ak (blk_below (g := gb344) (o := .cells #[.int .i64 t347, .slice Ao76 x345001_1.length co76, .slice Ao77 x345002_1.length co77] 39 (0, 0)) (zK BK344.out) hb); have n6_ := ak (below_step (by repeat (first | (with_reducible first | exact HB.out | apply below_alloc | apply pw_below_drewN | apply below_drew1 | refine below_set ?_ GE977.out | refine below_set ?_ GE340.out | refine below_set ?_ GE344.out) | exact HB.out)) hb); clear HO_31 HO_345001 HO_345002 BK977 BK340 BK344 HB; have HO_31 := n0_; have HO_345001 := n1_; have HO_345002 := n2_; have BK977 := n3_; have BK340 := n4_; have BK344 := n5_; have HB := n6_; clear n0_ n1_ n2_ n3_ n4_ n5_ n6_; (try clear hb); (try clear hb2); (try clear hk); (try clear hi); have hnb79 := NB340_977.out; have hnc79 := NB977_340.out; have hcz80_0 : w78.cell? ⟨gb340, 0, none⟩ = some (.int .i64 0) := (blk_cell BK340.out 0).trans rfl; have hcz80_1 : w78.cell? ⟨gb340, 1, none⟩ = some (.slice none 0 0) := (blk_cell BK340.out 1).trans rfl; have hcz80_2 : w78.cell? ⟨gb340, 2, none⟩ = some (.slice none 0 0) := (blk_cell BK340.out 2).trans rfl; have hfz80_0 := blk_frozen BK340.out 0; have hfz80_1 := blk_frozen BK340.out 1; have hfz80_2 := blk_frozen BK340.out 2))
 refine bodyPost_ret (results_ct rfl _ _ gb340 39 #[.int .i64 0, .slice none 0 0, .slice none 0 0] (0, 0) _ rfl (by (with_reducible repeat (first | refine blk_drewN ?_ _ | refine blk_drew ?_ | refine blk_alloc ?_ _)); refine blk_put (cs := #[.int .i64 0, .slice none 0 0, .slice none 0 0]) ?_ 2 _ rfl; (with_reducible repeat (first | refine blk_drewN ?_ _ | refine blk_drew ?_ | refine blk_alloc ?_ _)); refine blk_put (cs := #[.int .i64 0, .slice none 0 0, .slice none 0 0]) ?_ 1 _ rfl; (with_reducible repeat (first | refine blk_drewN ?_ _ | refine blk_drew ?_ | refine blk_alloc ?_ _)); refine blk_put (cs := #[.int .i64 0, .slice none 0 0, .slice none 0 0]) ?_ 0 _ rfl; (with_reducible repeat (first | refine blk_drewN ?_ _ | refine blk_drew ?_ | refine blk_alloc ?_ _)); exact BK340.out) Tryd.underlying39 rfl (by kernel_rfl)) rfl ?_
 exact ⟨_, _, by first | rfl | (simp [errW_none, errW_some] <;> rfl) | (simp [*, errW_none, errW_some] <;> rfl), by first | exact Kd.R_nil _ _ _ _ _ | exact Kd.N_nil _ _ _ _ _ | exact Kd.V_nil _ _ _ _ _ | exact Kd.Q_nil _ _ _ _ _ | exact Kd.S_nil _ _ _ _ _, by first | exact Kd.R_nil _ _ _ _ _ | exact Kd.N_nil _ _ _ _ _ | exact Kd.V_nil _ _ _ _ _ | exact Kd.Q_nil _ _ _ _ _ | exact Kd.S_nil _ _ _ _ _, by repeat (first | (with_reducible first | exact HB.out | apply below_alloc | apply pw_below_drewN | apply below_drew1 | refine below_set ?_ GE977.out | refine below_set ?_ GE340.out | refine below_set ?_ GE344.out) | exact HB.out)⟩
 }
 }
 }
 )
 )
 }
 · rw [if_neg c8] at H; exact absurd H (by simp)
 }
 · rw [if_neg c5] at H; exact absurd H (by simp)
end Go.Proofs.YtchnklikeimpiaaDoor.P
