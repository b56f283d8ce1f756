-- Printed by wip/print (my turned copy of the kit's print) out of the translation; Lean checks it.
import Derived.Test.YtchnklikeimpiaaDoorP0
import Derived.Test.YtchnklikeimpiaaDoorP1
import Derived.Test.YtchnklikeimpiaaDoorP2
import Derived.Test.YtchnklikeimpiaaDoorP8
namespace Go.Proofs.YtchnklikeimpiaaDoor.P
open Go.RowKit Go.Proofs.YtchnklikeimpiaaDoorW.PrintWords Go.Proofs.YtchnklikeimpiaaDoorW.PrintLast Go.Proofs.YtchnklikeimpiaaDoorW.PrintMore
attribute [local go_sem] max2_int min2_int max_two min_two max_three min_three max_four min_four   -- for this text's walks alone
set_option linter.unusedVariables false
set_option linter.unusedSimpArgs false

/-! ### spec_ReadLog: function 14 -/
mutual
def spec_ReadLog.j0 : Nat → List ByteArray → Int → Bool → Option (Int × List Int × List Int × Int)
  | 0, _, _, _ => none
  | k + 1, x4, x5, x29 => if x29 = true then (some (0, ([] : List Int), ([] : List Int), 5)) else (if 0 < (x4.length : Int) then (if 0 ≤ x5 then (if x5 ≤ ((rdOf ByteArray.empty x4 0).size : Int) then ((spec_l01Number.f k ((rdOf ByteArray.empty x4 0).extract 0 (x5 : Int).toNat)).bind fun bt283 => (if bt283.2 = true then (spec_ReadLog.l0 k x4 1 bt283.1 ([] : List Int) ([] : List Int)) else (some (0, ([] : List Int), ([] : List Int), 5)))) else (none)) else (none)) else (none))
def spec_ReadLog.l0 : Nat → List ByteArray → Int → Int → List Int → List Int → Option (Int × List Int × List Int × Int)
  | 0, _, _, _, _, _ => none
  | k + 1, x4, x9, x286000, x286001, x286002 => if x9 < (x4.length : Int) then (if 0 ≤ x9 then ((spec_l05Read.f k (rdOf ByteArray.empty x4 x9)).bind fun bt287 => (if bt287.2.2 = true then (if x286001.length < 70368744177664 then (if x286002.length < 70368744177664 then (spec_ReadLog.l0 k x4 (wrap64 (x9 + 1)) x286000 (x286001 ++ [bt287.2.1]) (x286002 ++ [IntKind.i16.wrap (bt287.1)])) else (none)) else (none)) else (some (0, ([] : List Int), ([] : List Int), 5)))) else (none)) else ((spec_l05Ok.f k x286000 x286001 x286002).bind fun t296 => (if t296 = true then (some (x286000, x286001, x286002, 0)) else (some (0, ([] : List Int), ([] : List Int), 5))))
end
def spec_ReadLog.f (k : Nat) (a0 : ByteArray) : Option (Int × List Int × List Int × Int) := (spec_l01Split.f k a0 32).bind fun t277 => (if 0 < (t277.length : Int) then (if (wrap64 (((rdOf ByteArray.empty t277 0).size : Int) - 1)) < 0 then (spec_ReadLog.j0 k t277 (wrap64 (((rdOf ByteArray.empty t277 0).size : Int) - 1)) true) else (if 0 ≤ (wrap64 (((rdOf ByteArray.empty t277 0).size : Int) - 1)) then (if (wrap64 (((rdOf ByteArray.empty t277 0).size : Int) - 1)) < ((rdOf ByteArray.empty t277 0).size : Int) then (spec_ReadLog.j0 k t277 (wrap64 (((rdOf ByteArray.empty t277 0).size : Int) - 1)) ((bt (rdOf ByteArray.empty t277 0) (wrap64 (((rdOf ByteArray.empty t277 0).size : Int) - 1))) != 58)) else (none)) else (none))) else (none))
theorem spec_ReadLog.mono_l : ∀ k, (∀ y0 y1 y2, LeO (spec_ReadLog.j0 k y0 y1 y2) (spec_ReadLog.j0 (k + 1) y0 y1 y2)) ∧ (∀ y0 y1 y2 y3 y4, LeO (spec_ReadLog.l0 k y0 y1 y2 y3 y4) (spec_ReadLog.l0 (k + 1) y0 y1 y2 y3 y4))
  | 0 => ⟨fun _ _ _ r h => by simp [spec_ReadLog.j0] at h, fun _ _ _ _ _ r h => by simp [spec_ReadLog.l0] at h⟩
  | k + 1 => by
    obtain ⟨ih0, ih1⟩ := spec_ReadLog.mono_l k
    refine ⟨?_, ?_⟩
    · intro y0 y1 y2
      unfold spec_ReadLog.j0
      repeat' first
      | (with_reducible exact ih0 _ _ _)
      | (with_reducible exact ih1 _ _ _ _ _)
      | (with_reducible exact spec_l01Number.mono _ _)
      | (with_reducible exact spec_l01Split.mono _ _ _)
      | (with_reducible exact spec_l05Ok.mono _ _ _ _)
      | (with_reducible exact spec_l05Read.mono _ _)
      | (with_reducible exact LeO.refl _)
      | (with_reducible exact LeO.none _)
      | (with_reducible refine LeO.ite ?_ ?_)
      | (with_reducible refine LeO.bind ?_ (fun _ => ?_))
      | exact ih0 _ _ _
      | exact ih1 _ _ _ _ _
      | exact spec_l01Number.mono _ _
      | exact spec_l01Split.mono _ _ _
      | exact spec_l05Ok.mono _ _ _ _
      | exact spec_l05Read.mono _ _
      | exact LeO.none _
      | refine LeO.ite ?_ ?_
      | refine LeO.bind ?_ (fun _ => ?_)
    · intro y0 y1 y2 y3 y4
      unfold spec_ReadLog.l0
      repeat' first
      | (with_reducible exact ih0 _ _ _)
      | (with_reducible exact ih1 _ _ _ _ _)
      | (with_reducible exact spec_l01Number.mono _ _)
      | (with_reducible exact spec_l01Split.mono _ _ _)
      | (with_reducible exact spec_l05Ok.mono _ _ _ _)
      | (with_reducible exact spec_l05Read.mono _ _)
      | (with_reducible exact LeO.refl _)
      | (with_reducible exact LeO.none _)
      | (with_reducible refine LeO.ite ?_ ?_)
      | (with_reducible refine LeO.bind ?_ (fun _ => ?_))
      | exact ih0 _ _ _
      | exact ih1 _ _ _ _ _
      | exact spec_l01Number.mono _ _
      | exact spec_l01Split.mono _ _ _
      | exact spec_l05Ok.mono _ _ _ _
      | exact spec_l05Read.mono _ _
      | exact LeO.none _
      | refine LeO.ite ?_ ?_
      | refine LeO.bind ?_ (fun _ => ?_)
theorem spec_ReadLog.mono : ∀ a0 k, LeO (spec_ReadLog.f k a0) (spec_ReadLog.f (k + 1) a0) := by
  intro a0 k
  obtain ⟨ih0, ih1⟩ := spec_ReadLog.mono_l k
  unfold spec_ReadLog.f
  repeat' first
      | (with_reducible exact ih0 _ _ _)
      | (with_reducible exact ih1 _ _ _ _ _)
      | (with_reducible exact spec_l01Number.mono _ _)
      | (with_reducible exact spec_l01Split.mono _ _ _)
      | (with_reducible exact spec_l05Ok.mono _ _ _ _)
      | (with_reducible exact spec_l05Read.mono _ _)
      | (with_reducible exact LeO.refl _)
      | (with_reducible exact LeO.none _)
      | (with_reducible refine LeO.ite ?_ ?_)
      | (with_reducible refine LeO.bind ?_ (fun _ => ?_))
      | exact ih0 _ _ _
      | exact ih1 _ _ _ _ _
      | exact spec_l01Number.mono _ _
      | exact spec_l01Split.mono _ _ _
      | exact spec_l05Ok.mono _ _ _ _
      | exact spec_l05Read.mono _ _
      | exact LeO.none _
      | refine LeO.ite ?_ ?_
      | refine LeO.bind ?_ (fun _ => ?_)
set_option maxHeartbeats 8000000 in
set_option maxRecDepth 100000 in
theorem spec_ReadLog.calls (k : Nat) (a0 : ByteArray) (r1 : Int) (r2 : List Int) (r3 : List Int) (r4 : Int) (w : World) (h : spec_ReadLog.f k a0 = some (r1, r2, r3, r4)) :
    Calls Tryd.prog 14 #[.string a0] w fun e w' => ∃ v1_ v2_ : Value, e = .returned (.tuple #[.agg #[.int .i64 r1, v1_, v2_], .int .i64 r4]) ∧ Kd.R (Kd.int .u16) 62 w' w.heap.size (fun _ => True) v1_ r2 ∧ Kd.R (Kd.int .i16) 29 w' w.heap.size (fun _ => True) v2_ r3 ∧ Below w.heap.size w w' := by
 have hu39 := Tryd.underlying39
 have HB := ak (Below.refl w.heap.size w)
 have H : ((spec_l01Split.f k a0 32).bind fun t277 => (if 0 < (t277.length : Int) then (if (wrap64 (((rdOf ByteArray.empty t277 0).size : Int) - 1)) < 0 then (spec_ReadLog.j0 k t277 (wrap64 (((rdOf ByteArray.empty t277 0).size : Int) - 1)) true) else (if 0 ≤ (wrap64 (((rdOf ByteArray.empty t277 0).size : Int) - 1)) then (if (wrap64 (((rdOf ByteArray.empty t277 0).size : Int) - 1)) < ((rdOf ByteArray.empty t277 0).size : Int) then (spec_ReadLog.j0 k t277 (wrap64 (((rdOf ByteArray.empty t277 0).size : Int) - 1)) ((bt (rdOf ByteArray.empty t277 0) (wrap64 (((rdOf ByteArray.empty t277 0).size : Int) - 1))) != 58)) else (none)) else (none))) else (none))) = some (r1, r2, r3, r4) := h
 clear h
 replace H := Option.bind_eq_some_iff.mp H
 obtain ⟨t277, A20, H⟩ := H
 replace H : (if 0 < (t277.length : Int) then (if (wrap64 (((rdOf ByteArray.empty t277 0).size : Int) - 1)) < 0 then (spec_ReadLog.j0 k t277 (wrap64 (((rdOf ByteArray.empty t277 0).size : Int) - 1)) true) else (if 0 ≤ (wrap64 (((rdOf ByteArray.empty t277 0).size : Int) - 1)) then (if (wrap64 (((rdOf ByteArray.empty t277 0).size : Int) - 1)) < ((rdOf ByteArray.empty t277 0).size : Int) then (spec_ReadLog.j0 k t277 (wrap64 (((rdOf ByteArray.empty t277 0).size : Int) - 1)) ((bt (rdOf ByteArray.empty t277 0) (wrap64 (((rdOf ByteArray.empty t277 0).size : Int) - 1))) != 58)) else (none)) else (none))) else (none)) = some (r1, r2, r3, r4) := H
 have A2 := ak A20
 clear A20
 by_cases c3 : 0 < (t277.length : Int)
 {
 rw [if_pos c3] at H
 have c3b0 : decide (0 < (t277.length : Int)) = true := decide_eq_true c3
 have c3b1 : decide (0 < t277.length) = true := decide_eq_true (by omega)
 clear c3
 have HC4 := ak H
 clear H
 go_enter Tryd.func14, Tryd.ntmps14
 go_upto_region 3 with (first | ((with_reducible refine gate_dst (N := 2) rfl ?_); refine box_event ?hg (N := 2) ?hd (cs := #[.int .i64 0, .slice none 0 0, .slice none 0 0]) (t := 39) ?hr ?_; (case hd => rfl); (case hg => rfl); (case hr => first | (go_simp; done) | (go_simp; rfl)); intro gb276 hg w5 hbox hb; have n0_ := ak (below_step (zB HB.out) hb); have n1_ := ak (hbox); have n2_ := ak ((by rw [hg]; exact (below_size (zB HB.out)) : w.heap.size ≤ gb276)); have n3_ := ak ((by rw [hg]; exact (below_size (zB HB.out)) : w.heap.size ≤ gb276)); clear HB; have HB := n0_; have BK276 := n1_; have GW276 := n2_; have GE276 := n3_; clear n0_ n1_ n2_ n3_; clear hb hbox hg) | ((with_reducible refine gate_callee (f := 19) rfl ?_); refine goesL_ (some 14) rfl rfl Tryd.func19 (by kernel_rfl) rfl #[.string a0, .int .u8 32] rfl (by (try simp only [List.map_toArray, List.map_cons, List.map_nil]); first | done | rfl | (simp only [List.length_drop, List.length_take]; rfl)) ?_; (with_reducible refine (spec_l01Split.calls k a0 32 t277 _ A2.out).mono ?_); rintro e w6 ⟨v278, rfl, ho0, hb⟩; refine ⟨_, rfl, ?_⟩; have n0_ := ak (Kd.R_lower ho0 (below_size (zBG HB.out GE276.out))); have n1_ := ak (blk_below (g := gb276) (o := .cells #[.int .i64 0, .slice none 0 0, .slice none 0 0] 39 (0, 0)) (zK BK276.out) hb); have n2_ := ak (below_step (zBG HB.out GE276.out) hb); clear BK276 HB; have HO279 := n0_; have BK276 := n1_; have HB := n2_; clear n0_ n1_ n2_; (try clear hb); (try clear hb2); (try clear hk); (try clear hi); (try clear ho0); obtain ⟨Ao7, co7, eo7⟩ := Kd.R_slice HO279.out; subst eo7; have p280 : 0 ≤ (0 : Int) := (by omega); have q280 : 0 < (t277.length : Int) := of_decide_eq_true (by first | (with_reducible assumption) | assumption); obtain ⟨ad280, e280, hx280_0⟩ := Kd.at_string (Kd.R_reads' HO279.out).2.2 0 p280 q280; cases e280; have qi280 : (0 < t277.length) = True := eq_true (by omega); (try rw [show ((0 : Int)).toNat = 0 from rfl] at hx280_0); (try rw [Addr.add_zero'] at hx280_0); replace p280 := eq_true p280; replace q280 := eq_true q280))
 (try simp only [Act.put, zs, zz, zk])
 go_cut [29] (fun v29 wc => ∃ (kq : Nat) (x29_3 : Bool), v29 = .bool x29_3 ∧ Aside0 (spec_ReadLog.j0 kq t277 (wrap64 (((rdOf ByteArray.empty t277 0).size : Int) - 1)) x29_3 = some (r1, r2, r3, r4)) ∧ Aside0 (kq ≤ k) ∧ Aside0 (Kd.R Kd.string 9 wc w.heap.size (fun _ => True) (.slice (some ad280) t277.length co7) t277) ∧ Aside0 (wc.heap[gb276]? = some (.cells #[.int .i64 0, (.slice none 0 0), (.slice none 0 0)] 39 (0, 0))) ∧ Aside0 (Below w.heap.size w wc))
 case first => (
 have H := HC4.out
 clear HC4
 by_cases c8 : (wrap64 (((rdOf ByteArray.empty t277 0).size : Int) - 1)) < 0
 {
 rw [if_pos c8] at H
 have c8b0 : decide ((wrap64 (((rdOf ByteArray.empty t277 0).size : Int) - 1)) < 0) = true := decide_eq_true c8
 (try (have c8b1 : decide ((IntKind.i64.wrap (((rdOf ByteArray.empty t277 0).size : Int) - 1)) < 0) = true := by first | simpa only [i64_w, i32_w] using (show decide ((wrap64 (((rdOf ByteArray.empty t277 0).size : Int) - 1)) < 0) = true from decide_eq_true c8) | simpa only [i64_w] using (show decide ((wrap64 (((rdOf ByteArray.empty t277 0).size : Int) - 1)) < 0) = true from decide_eq_true c8)))
 clear c8
 (first | rw [c8b0] | (simp only [i64_w, i32_w]; rw [c8b0]) | skip)
 have H' := ak H
 clear H
 go_wp2
 go_meet
 case rel => exact ⟨_, (true), (by first | rfl | (simp; done) | (simp [*]; done)), H', ⟨by first | omega | exact Nat.le_refl _⟩, ⟨by (with_reducible repeat (first | apply Kd.R_alloc | apply Kd.R_drewN | apply Kd.R_drew)); exact HO279.out⟩, ⟨by (with_reducible repeat (first | refine blk_drewN ?_ _ | refine blk_drew ?_ | refine blk_alloc ?_ _)); exact BK276.out⟩, ⟨by repeat (first | (with_reducible first | exact HB.out | apply below_alloc | apply pw_below_drewN | apply below_drew1 | refine below_set ?_ GE276.out) | exact HB.out)⟩⟩
 }
 {
 rw [if_neg c8] at H
 have c8b0 : decide ((wrap64 (((rdOf ByteArray.empty t277 0).size : Int) - 1)) < 0) = false := decide_eq_false c8
 (try (have c8b1 : decide ((IntKind.i64.wrap (((rdOf ByteArray.empty t277 0).size : Int) - 1)) < 0) = false := by first | simpa only [i64_w, i32_w] using (show decide ((wrap64 (((rdOf ByteArray.empty t277 0).size : Int) - 1)) < 0) = false from decide_eq_false c8) | simpa only [i64_w] using (show decide ((wrap64 (((rdOf ByteArray.empty t277 0).size : Int) - 1)) < 0) = false from decide_eq_false c8)))
 clear c8
 (first | rw [c8b0] | (simp only [i64_w, i32_w]; rw [c8b0]) | skip)
 obtain ⟨ji9, hji9⟩ : ∃ j_ : Int, (wrap64 (((rdOf ByteArray.empty t277 0).size : Int) - 1)) = j_ := ⟨_, rfl⟩
 replace H : (if 0 ≤ (ji9) then (if (ji9) < ((rdOf ByteArray.empty t277 0).size : Int) then (spec_ReadLog.j0 k t277 ji9 ((bt (rdOf ByteArray.empty t277 0) (ji9)) != 58)) else (none)) else (none)) = some (r1, r2, r3, r4) := by first | (rw [hji9] at H; exact H) | (simp only [hji9] at H ⊢; exact H)
 (try rw [hji9] at c8b0)
 (try rw [hji9] at c8b1)
 have hji9w : (IntKind.i64.wrap (((rdOf ByteArray.empty t277 0).size : Int) - 1)) = ji9 := (i64_w _).trans hji9
 by_cases c10 : 0 ≤ (ji9)
 {
 rw [if_pos c10] at H
 have c10b0 : decide (0 ≤ (ji9)) = true := decide_eq_true c10
 clear c10
 by_cases c11 : (ji9) < ((rdOf ByteArray.empty t277 0).size : Int)
 {
 rw [if_pos c11] at H
 have c11b0 : decide ((ji9) < ((rdOf ByteArray.empty t277 0).size : Int)) = true := decide_eq_true c11
 clear c11
 have H' := ak H
 clear H
 have p281 : 0 ≤ (0 : Int) := (by omega)
 have q281 : 0 < (t277.length : Int) := of_decide_eq_true (by first | (with_reducible assumption) | assumption)
 obtain ⟨ad281, e281, hx281_0⟩ := Kd.at_string (Kd.R_reads' HO279.out).2.2 0 p281 q281
 obtain rfl : ad280 = ad281 := (by injection e281)
 have qi281 : (0 < t277.length) = True := eq_true (by omega)
 (try rw [show ((0 : Int)).toNat = 0 from rfl] at hx281_0)
 (try rw [Addr.add_zero'] at hx281_0)
 replace p281 := eq_true p281
 replace q281 := eq_true q281
 have p12 : 0 ≤ ((ji9) : Int) := of_decide_eq_true (by first | (with_reducible assumption) | assumption)
 have q12 : (ji9) < ((rdOf ByteArray.empty t277 0).size : Int) := of_decide_eq_true (by first | (with_reducible assumption) | assumption)
 have hx12 := bt_at (rdOf ByteArray.empty t277 0) (ji9)
 replace p12 := eq_true p12
 replace q12 := eq_true q12
 go_wp2
 subst hji9
 go_meet
 case rel => exact ⟨_, (((bt (rdOf ByteArray.empty t277 0) ((wrap64 (((rdOf ByteArray.empty t277 0).size : Int) - 1)))) != 58)), (by first | rfl | (simp; done) | (simp only [← hji9] <;> (first | rfl | simp)) | (simp [*]; done)), H', ⟨by first | omega | exact Nat.le_refl _⟩, ⟨by (with_reducible repeat (first | apply Kd.R_alloc | apply Kd.R_drewN | apply Kd.R_drew)); exact HO279.out⟩, ⟨by (with_reducible repeat (first | refine blk_drewN ?_ _ | refine blk_drew ?_ | refine blk_alloc ?_ _)); exact BK276.out⟩, ⟨by repeat (first | (with_reducible first | exact HB.out | apply below_alloc | apply pw_below_drewN | apply below_drew1 | refine below_set ?_ GE276.out) | exact HB.out)⟩⟩
 }
 · rw [if_neg c11] at H; exact absurd H (by simp)
 }
 · rw [if_neg c10] at H; exact absurd H (by simp)
 }
 )
 case rest => (
 clear HC4
 try clear c1
 try clear p1
 try clear q1
 try clear hx1
 try clear p2
 try clear q2
 try clear hx2
 try clear qi2
 try clear c3
 try clear c3b0
 try clear c3b1
 try clear p6
 try clear c8
 try clear c8b0
 try clear c8b1
 try clear c10
 try clear c10b0
 try clear c11
 try clear c11b0
 try clear p12
 try clear q12
 try clear hx12
 try clear hx280_0
 try clear hx281_0
 try clear p12
 try clear p280
 try clear p281
 try clear q12
 try clear q280
 try clear q281
 obtain ⟨kq, x29_3, rfl, HA, HJ3, HO_4, BK276, HB⟩ := hcut
 cases kq with
 | zero => exact absurd HA.out (by simp [spec_ReadLog.j0])
 | succ kj3 => (
 have H := HA.out
 clear HA
 simp only [spec_ReadLog.j0] at H
 by_cases c13 : x29_3 = true
 {
 subst c13
 have H1 : (some (0, ([] : List Int), ([] : List Int), 5)) = some (r1, r2, r3, r4) := by rw [if_pos rfl] at H; exact H
 clear H
 have H := H1
 clear H1
 simp only [Option.some.injEq, Prod.mk.injEq] at H
 obtain ⟨rfl, rfl, rfl, rfl⟩ := H
 have hcz14_0 : wc.cell? ⟨gb276, 0, none⟩ = some (.int .i64 0) := (blk_cell BK276.out 0).trans rfl
 have hcz14_1 : wc.cell? ⟨gb276, 1, none⟩ = some (.slice none 0 0) := (blk_cell BK276.out 1).trans rfl
 have hcz14_2 : wc.cell? ⟨gb276, 2, none⟩ = some (.slice none 0 0) := (blk_cell BK276.out 2).trans rfl
 have hfz14_0 := blk_frozen BK276.out 0
 have hfz14_1 := blk_frozen BK276.out 1
 have hfz14_2 := blk_frozen BK276.out 2
 go_wp2
 refine bodyPost_ret (results_ct rfl _ _ gb276 39 #[.int .i64 0, .slice none 0 0, .slice none 0 0] (0, 0) _ rfl (by (with_reducible repeat (first | refine blk_drewN ?_ _ | refine blk_drew ?_ | refine blk_alloc ?_ _)); refine blk_put (cs := #[.int .i64 0, .slice none 0 0, .slice none 0 0]) ?_ 2 _ rfl; (with_reducible repeat (first | refine blk_drewN ?_ _ | refine blk_drew ?_ | refine blk_alloc ?_ _)); refine blk_put (cs := #[.int .i64 0, .slice none 0 0, .slice none 0 0]) ?_ 1 _ rfl; (with_reducible repeat (first | refine blk_drewN ?_ _ | refine blk_drew ?_ | refine blk_alloc ?_ _)); refine blk_put (cs := #[.int .i64 0, .slice none 0 0, .slice none 0 0]) ?_ 0 _ rfl; (with_reducible repeat (first | refine blk_drewN ?_ _ | refine blk_drew ?_ | refine blk_alloc ?_ _)); exact BK276.out) Tryd.underlying39 rfl (by kernel_rfl)) rfl ?_
 exact ⟨_, _, by first | rfl | (simp [errW_none, errW_some] <;> rfl) | (simp [*, errW_none, errW_some] <;> rfl), by first | exact Kd.R_nil _ _ _ _ _ | exact Kd.N_nil _ _ _ _ _ | exact Kd.V_nil _ _ _ _ _ | exact Kd.Q_nil _ _ _ _ _ | exact Kd.S_nil _ _ _ _ _, by first | exact Kd.R_nil _ _ _ _ _ | exact Kd.N_nil _ _ _ _ _ | exact Kd.V_nil _ _ _ _ _ | exact Kd.Q_nil _ _ _ _ _ | exact Kd.S_nil _ _ _ _ _, by repeat (first | (with_reducible first | exact HB.out | apply below_alloc | apply pw_below_drewN | apply below_drew1 | refine below_set ?_ GE276.out) | exact HB.out)⟩
 }
 {
 replace c13 := Bool.eq_false_iff.mpr c13
 subst c13
 have H1 : (if 0 < (t277.length : Int) then (if 0 ≤ (wrap64 (((rdOf ByteArray.empty t277 0).size : Int) - 1)) then (if (wrap64 (((rdOf ByteArray.empty t277 0).size : Int) - 1)) ≤ ((rdOf ByteArray.empty t277 0).size : Int) then ((spec_l01Number.f kj3 ((rdOf ByteArray.empty t277 0).extract 0 ((wrap64 (((rdOf ByteArray.empty t277 0).size : Int) - 1)) : Int).toNat)).bind fun bt283 => (if bt283.2 = true then (spec_ReadLog.l0 kj3 t277 1 bt283.1 ([] : List Int) ([] : List Int)) else (some (0, ([] : List Int), ([] : List Int), 5)))) else (none)) else (none)) else (none)) = some (r1, r2, r3, r4) := by rw [if_neg (show ¬ (false = true) by decide)] at H; exact H
 clear H
 have H := H1
 clear H1
 by_cases c15 : 0 < (t277.length : Int)
 {
 rw [if_pos c15] at H
 have c15b0 : decide (0 < (t277.length : Int)) = true := decide_eq_true c15
 have c15b1 : decide (0 < t277.length) = true := decide_eq_true (by omega)
 clear c15
 obtain ⟨ji16, hji16⟩ : ∃ j_ : Int, (wrap64 (((rdOf ByteArray.empty t277 0).size : Int) - 1)) = j_ := ⟨_, rfl⟩
 replace H : (if 0 ≤ (ji16) then (if (ji16) ≤ ((rdOf ByteArray.empty t277 0).size : Int) then ((spec_l01Number.f kj3 ((rdOf ByteArray.empty t277 0).extract 0 ((ji16) : Int).toNat)).bind fun bt283 => (if bt283.2 = true then (spec_ReadLog.l0 kj3 t277 1 bt283.1 ([] : List Int) ([] : List Int)) else (some (0, ([] : List Int), ([] : List Int), 5)))) else (none)) else (none)) = some (r1, r2, r3, r4) := by first | (rw [hji16] at H; exact H) | (simp only [hji16] at H ⊢; exact H)
 have hji16w : (IntKind.i64.wrap (((rdOf ByteArray.empty t277 0).size : Int) - 1)) = ji16 := (i64_w _).trans hji16
 by_cases c17 : 0 ≤ (ji16)
 {
 rw [if_pos c17] at H
 have c17b0 := eq_true c17
 have c17b1 : decide (0 ≤ (ji16)) = true := decide_eq_true c17
 clear c17
 by_cases c18 : (ji16) ≤ ((rdOf ByteArray.empty t277 0).size : Int)
 {
 rw [if_pos c18] at H
 have c18b0 := eq_true c18
 have c18b1 : decide ((ji16) ≤ ((rdOf ByteArray.empty t277 0).size : Int)) = true := decide_eq_true c18
 clear c18
 replace H := Option.bind_eq_some_iff.mp H
 obtain ⟨⟨t283, t284⟩, A190, H⟩ := H
 replace H : (if t284 = true then (spec_ReadLog.l0 kj3 t277 1 t283 ([] : List Int) ([] : List Int)) else (some (0, ([] : List Int), ([] : List Int), 5))) = some (r1, r2, r3, r4) := H
 have A19 := ak A190
 clear A190
 by_cases c20 : t284 = true
 {
 subst c20
 have H1 : (spec_ReadLog.l0 kj3 t277 1 t283 ([] : List Int) ([] : List Int)) = some (r1, r2, r3, r4) := by rw [if_pos rfl] at H; exact H
 clear H
 have H := H1
 clear H1
 have H' := ak H
 clear H
 have p282 : 0 ≤ (0 : Int) := (by omega)
 have q282 : 0 < (t277.length : Int) := of_decide_eq_true (by first | (with_reducible assumption) | assumption)
 obtain ⟨ad282, e282, hx282_0⟩ := Kd.at_string (Kd.R_reads' HO_4.out).2.2 0 p282 q282
 obtain rfl : ad280 = ad282 := (by injection e282)
 have qi282 : (0 < t277.length) = True := eq_true (by omega)
 (try rw [show ((0 : Int)).toNat = 0 from rfl] at hx282_0)
 (try rw [Addr.add_zero'] at hx282_0)
 replace p282 := eq_true p282
 replace q282 := eq_true q282
 go_wp2_with (first | ((with_reducible refine gate_callee (f := 26) rfl ?_); refine goesL_ (some 37) rfl rfl Tryd.func26 (by kernel_rfl) rfl #[.string ((rdOf ByteArray.empty t277 0).extract 0 ((ji16) : Int).toNat)] rfl (by (try simp only [List.map_toArray, List.map_cons, List.map_nil]); first | done | (simp only [hji16]; rfl) | rfl | (simp only [List.length_drop, List.length_take]; rfl)) ?_; (with_reducible refine (spec_l01Number.calls kj3 ((rdOf ByteArray.empty t277 0).extract 0 ((ji16) : Int).toNat) t283 true _ A19.out).mono ?_); rintro e w' ⟨rfl, ⟨nd, rfl⟩⟩; refine ⟨_, rfl, ?_⟩; (try (rw [drewN_self wc]; generalize hq_ : World.drewN wc _ = wc; have n0_ : Aside0 (Kd.R Kd.string 9 wc w.heap.size (fun _ => True) (.slice (some ad280) t277.length co7) t277) := ⟨by rw [← hq_]; exact (zR HO_4.out)⟩; have n1_ : Aside0 (wc.heap[gb276]? = some (.cells #[.int .i64 0, .slice none 0 0, .slice none 0 0] 39 (0, 0))) := ⟨by rw [← hq_]; exact (zK BK276.out)⟩; have n2_ : Aside0 (Below w.heap.size w wc) := ⟨by rw [← hq_]; exact (zBG HB.out GE276.out)⟩; clear HO_4 BK276 HB hq_; have HO_4 := n0_; have BK276 := n1_; have HB := n2_; clear n0_ n1_ n2_))) | ((with_reducible refine gate_dst (N := 8) rfl ?_); refine box_event ?hg (N := 8) ?hd (cs := #[.int .i64 0, .slice none 0 0, .slice none 0 0]) (t := 39) ?hr ?_; (case hd => rfl); (case hg => rfl); (case hr => first | (go_simp; done) | (go_simp; rfl)); intro gb285 hg w21 hbox hb; have n0_ := ak (Kd.R_below (zR HO_4.out) hb); have n1_ := ak (blk_below (g := gb276) (o := .cells #[.int .i64 0, .slice none 0 0, .slice none 0 0] 39 (0, 0)) (zK BK276.out) hb); have n2_ := ak (below_step (zBG HB.out GE276.out) hb); have n3_ := ak (hbox); have n4_ := ak ((by rw [hg]; exact (below_size (zBG HB.out GE276.out)) : w.heap.size ≤ gb285)); have n5_ := ak ((by rw [hg]; exact (below_size (zBG HB.out GE276.out)) : w.heap.size ≤ gb285)); have n6_ := ak ((by rw [hg]; exact Nat.ne_of_lt (blk_lt (g := gb276) (o := .cells #[.int .i64 0, .slice none 0 0, .slice none 0 0] 39 (0, 0)) (zK BK276.out)) : gb276 ≠ gb285)); have n7_ := ak ((by rw [hg]; exact Nat.ne_of_gt (blk_lt (g := gb276) (o := .cells #[.int .i64 0, .slice none 0 0, .slice none 0 0] 39 (0, 0)) (zK BK276.out)) : gb285 ≠ gb276)); clear HO_4 BK276 HB; have HO_4 := n0_; have BK276 := n1_; have HB := n2_; have BK285 := n3_; have GW285 := n4_; have GE285 := n5_; have NB276_285 := n6_; have NB285_276 := n7_; clear n0_ n1_ n2_ n3_ n4_ n5_ n6_ n7_; clear hb hbox hg; have hnb22 := NB285_276.out; have hnc22 := NB276_285.out; have hcz23_0 : w21.cell? ⟨gb285, 0, none⟩ = some (.int .i64 0) := (blk_cell BK285.out 0).trans rfl; have hcz23_1 : w21.cell? ⟨gb285, 1, none⟩ = some (.slice none 0 0) := (blk_cell BK285.out 1).trans rfl; have hcz23_2 : w21.cell? ⟨gb285, 2, none⟩ = some (.slice none 0 0) := (blk_cell BK285.out 2).trans rfl; have hfz23_0 := blk_frozen BK285.out 0; have hfz23_1 := blk_frozen BK285.out 1; have hfz23_2 := blk_frozen BK285.out 2))
 go_loopg [9] kj3 (fun kq v9 w' => ∃ (x9_2 : Int) (x277000_2 : Int) (x286001_2 : List Int) (x286002_2 : List Int) (u286001 : Value) (u286002 : Value), v9 = .int .i64 x9_2 ∧ Aside0 (spec_ReadLog.l0 kq t277 x9_2 t283 x286001_2 x286002_2 = some (r1, r2, r3, r4)) ∧ Aside0 (kq ≤ kj3) ∧ Aside0 (Kd.R Kd.string 9 w' w.heap.size (fun _ => True) (.slice (some ad280) t277.length co7) t277) ∧ Aside0 (Kd.R (Kd.int .u16) 62 w' w.heap.size (fun _ => True) u286001 x286001_2) ∧ Aside0 (Kd.R (Kd.int .i16) 29 w' w.heap.size (fun _ => True) u286002 x286002_2) ∧ Aside0 (w'.heap[gb276]? = some (.cells #[.int .i64 x277000_2, (.slice none 0 0), (.slice none 0 0)] 39 (0, 0))) ∧ Aside0 (w'.heap[gb285]? = some (.cells #[.int .i64 t283, u286001, u286002] 39 (0, 0))) ∧ Aside0 (Below w.heap.size w w'))
 case atStart => exact ⟨(1), (0), (([] : List Int)), (([] : List Int)), (.slice none 0 0), (.slice none 0 0), (by first | rfl | (simp; done) | (simp [*]; done)), H', ⟨Nat.le_refl _⟩, ⟨by (with_reducible repeat (first | apply Kd.R_alloc | apply Kd.R_drewN | apply Kd.R_drew)); exact Kd.R_mono (Kd.R_far (p := ⟨gb285, 2, none⟩) (Kd.R_far (p := ⟨gb285, 1, none⟩) (Kd.R_far (p := ⟨gb285, 0, none⟩) (Kd.R_types HO_4.out BK285.out (by decide)) (fun _ hk => hk.2) (.int .i64 t283)) (fun _ hk => hk.2) (.slice none 0 0)) (fun _ hk => hk.2) (.slice none 0 0)) (fun _ hk => trivial)⟩, ⟨by first | exact Kd.R_nil _ _ _ _ _ | exact Kd.N_nil _ _ _ _ _ | exact Kd.V_nil _ _ _ _ _ | exact Kd.Q_nil _ _ _ _ _ | exact Kd.S_nil _ _ _ _ _⟩, ⟨by first | exact Kd.R_nil _ _ _ _ _ | exact Kd.N_nil _ _ _ _ _ | exact Kd.V_nil _ _ _ _ _ | exact Kd.Q_nil _ _ _ _ _ | exact Kd.S_nil _ _ _ _ _⟩, ⟨by (with_reducible repeat (first | refine blk_drewN ?_ _ | refine blk_drew ?_ | refine blk_alloc ?_ _)); refine blk_far ?_ NB276_285.out _; (with_reducible repeat (first | refine blk_drewN ?_ _ | refine blk_drew ?_ | refine blk_alloc ?_ _)); refine blk_far ?_ NB276_285.out _; (with_reducible repeat (first | refine blk_drewN ?_ _ | refine blk_drew ?_ | refine blk_alloc ?_ _)); refine blk_far ?_ NB276_285.out _; (with_reducible repeat (first | refine blk_drewN ?_ _ | refine blk_drew ?_ | refine blk_alloc ?_ _)); exact BK276.out⟩, ⟨by (with_reducible repeat (first | refine blk_drewN ?_ _ | refine blk_drew ?_ | refine blk_alloc ?_ _)); refine blk_put (cs := #[.int .i64 t283, .slice none 0 0, .slice none 0 0]) ?_ 2 _ rfl; (with_reducible repeat (first | refine blk_drewN ?_ _ | refine blk_drew ?_ | refine blk_alloc ?_ _)); refine blk_put (cs := #[.int .i64 t283, .slice none 0 0, .slice none 0 0]) ?_ 1 _ rfl; (with_reducible repeat (first | refine blk_drewN ?_ _ | refine blk_drew ?_ | refine blk_alloc ?_ _)); refine blk_put (cs := #[.int .i64 0, .slice none 0 0, .slice none 0 0]) ?_ 0 _ rfl; (with_reducible repeat (first | refine blk_drewN ?_ _ | refine blk_drew ?_ | refine blk_alloc ?_ _)); exact BK285.out⟩, ⟨by repeat (first | (with_reducible first | exact HB.out | apply below_alloc | apply pw_below_drewN | apply below_drew1 | refine below_set ?_ GE276.out | refine below_set ?_ GE285.out) | exact HB.out)⟩⟩
 case round => (
 clear H'
 try clear c1
 try clear p1
 try clear q1
 try clear hx1
 try clear c2
 try clear p2
 try clear q2
 try clear hx2
 try clear qi2
 try clear c3
 try clear c3b0
 try clear c3b1
 try clear p6
 try clear c8
 try clear c8b0
 try clear c8b1
 try clear c10
 try clear c10b0
 try clear c11
 try clear c11b0
 try clear p12
 try clear q12
 try clear hx12
 try clear c13
 try clear c14
 try clear c15
 try clear c15b0
 try clear c15b1
 try clear c17
 try clear c17b0
 try clear c17b1
 try clear c18
 try clear c18b0
 try clear c18b1
 try clear c19
 try clear c20
 try clear c22
 try clear hcz14_0
 try clear hcz14_1
 try clear hcz14_2
 try clear hcz23_0
 try clear hcz23_1
 try clear hcz23_2
 try clear hfz14_0
 try clear hfz14_1
 try clear hfz14_2
 try clear hfz23_0
 try clear hfz23_1
 try clear hfz23_2
 try clear hx280_0
 try clear hx281_0
 try clear hx282_0
 try clear p1
 try clear p12
 try clear p2
 try clear p280
 try clear p281
 try clear p282
 try clear p6
 try clear q1
 try clear q12
 try clear q2
 try clear q280
 try clear q281
 try clear q282
 obtain ⟨x9_2, x277000_2, x286001_2, x286002_2, u286001, u286002, rfl, HA, HK2, HO_4, HO_286001, HO_286002, BK276, BK285, HB⟩ := hrel
 cases gk with
 | zero => exact absurd HA.out (by simp [spec_ReadLog.l0])
 | succ k2 => (
 have H := HA.out
 clear HA
 simp only [spec_ReadLog.l0] at H
 by_cases c24 : x9_2 < (t277.length : Int)
 {
 rw [if_pos c24] at H
 have c24b0 : decide (x9_2 < (t277.length : Int)) = true := decide_eq_true c24
 clear c24
 by_cases c25 : 0 ≤ x9_2
 {
 rw [if_pos c25] at H
 have c25b0 : decide (0 ≤ x9_2) = true := decide_eq_true c25
 clear c25
 replace H := Option.bind_eq_some_iff.mp H
 obtain ⟨⟨t287, t288, t289⟩, A260, H⟩ := H
 replace H : (if t289 = true then (if x286001_2.length < 70368744177664 then (if x286002_2.length < 70368744177664 then (spec_ReadLog.l0 k2 t277 (wrap64 (x9_2 + 1)) t283 (x286001_2 ++ [t288]) (x286002_2 ++ [IntKind.i16.wrap (t287)])) else (none)) else (none)) else (some (0, ([] : List Int), ([] : List Int), 5))) = some (r1, r2, r3, r4) := H
 have A26 := ak A260
 clear A260
 by_cases c27 : t289 = true
 {
 subst c27
 have H1 : (if x286001_2.length < 70368744177664 then (if x286002_2.length < 70368744177664 then (spec_ReadLog.l0 k2 t277 (wrap64 (x9_2 + 1)) t283 (x286001_2 ++ [t288]) (x286002_2 ++ [IntKind.i16.wrap (t287)])) else (none)) else (none)) = some (r1, r2, r3, r4) := by rw [if_pos rfl] at H; exact H
 clear H
 have H := H1
 clear H1
 by_cases c28 : x286001_2.length < 70368744177664
 {
 rw [if_pos c28] at H
 have LMc28 := ak c28
 clear c28
 obtain ⟨y290, hy290⟩ : ∃ y_ : List Int, y_ = (x286001_2 ++ [t288]) := ⟨_, rfl⟩
 replace H : (if x286002_2.length < 70368744177664 then (spec_ReadLog.l0 k2 t277 (wrap64 (x9_2 + 1)) t283 y290 (x286002_2 ++ [IntKind.i16.wrap (t287)])) else (none)) = some (r1, r2, r3, r4) := by first | (rw [hy290]; with_reducible exact H) | (have H2_ := (Option.bind_some _ _).symm.trans H; rw [hy290]; with_reducible exact H2_) | (have H2_ := (Option.bind_some _ _).symm.trans H; with_reducible exact H2_) | with_reducible exact H | (rw [hy290]; exact H) | exact H
 have Ny290 := ak hy290
 clear hy290
 by_cases c29 : x286002_2.length < 70368744177664
 {
 rw [if_pos c29] at H
 have LMc29 := ak c29
 clear c29
 obtain ⟨y293, hy293⟩ : ∃ y_ : List Int, y_ = (x286002_2 ++ [IntKind.i16.wrap (t287)]) := ⟨_, rfl⟩
 replace H : (spec_ReadLog.l0 k2 t277 (wrap64 (x9_2 + 1)) t283 y290 y293) = some (r1, r2, r3, r4) := by first | (rw [hy293]; with_reducible exact H) | (have H2_ := (Option.bind_some _ _).symm.trans H; rw [hy293]; with_reducible exact H2_) | (have H2_ := (Option.bind_some _ _).symm.trans H; with_reducible exact H2_) | with_reducible exact H | (rw [hy293]; exact H) | exact H
 have Ny293 := ak hy293
 clear hy293
 have H' := ak H
 clear H
 have p286 : 0 ≤ (x9_2 : Int) := of_decide_eq_true (by first | (with_reducible assumption) | assumption)
 have q286 : x9_2 < (t277.length : Int) := of_decide_eq_true (by first | (with_reducible assumption) | assumption)
 obtain ⟨ad286, e286, hx286_0⟩ := Kd.at_string (Kd.R_reads' HO_4.out).2.2 x9_2 p286 q286
 obtain rfl : ad280 = ad286 := (by injection e286)
 replace p286 := eq_true p286
 replace q286 := eq_true q286
 go_wp2_with (first | ((with_reducible refine gate_callee (f := 33) rfl ?_); refine goesL_ (some 56) rfl rfl Tryd.func33 (by kernel_rfl) rfl #[.string (rdOf ByteArray.empty t277 x9_2)] rfl (by (try simp only [List.map_toArray, List.map_cons, List.map_nil]); first | done | rfl | (simp only [List.length_drop, List.length_take]; rfl)) ?_; (with_reducible refine (spec_l05Read.calls k2 (rdOf ByteArray.empty t277 x9_2) t287 t288 true _ A26.out).mono ?_); rintro e w30 ⟨rfl, hb⟩; refine ⟨_, rfl, ?_⟩; have n0_ := ak (Kd.R_below (zR HO_4.out) hb); have n1_ := ak (Kd.R_below (zR HO_286001.out) hb); have n2_ := ak (Kd.R_below (zR HO_286002.out) hb); have n3_ := ak (blk_below (g := gb276) (o := .cells #[.int .i64 x277000_2, .slice none 0 0, .slice none 0 0] 39 (0, 0)) (zK BK276.out) hb); have n4_ := ak (blk_below (g := gb285) (o := .cells #[.int .i64 t283, u286001, u286002] 39 (0, 0)) (zK BK285.out) hb); have n5_ := ak (below_step (by repeat (first | (with_reducible first | exact HB.out | apply below_alloc | apply pw_below_drewN | apply below_drew1 | refine below_set ?_ GE276.out | refine below_set ?_ GE285.out) | exact HB.out)) hb); clear HO_4 HO_286001 HO_286002 BK276 BK285 HB; have HO_4 := n0_; have HO_286001 := n1_; have HO_286002 := n2_; have BK276 := n3_; have BK285 := n4_; have HB := n5_; clear n0_ n1_ n2_ n3_ n4_ n5_; (try clear hb); (try clear hb2); (try clear hk); (try clear hi); have hnb31 := NB285_276.out; have hnc31 := NB276_285.out; have hcz32_0 : w30.cell? ⟨gb285, 0, none⟩ = some (.int .i64 t283) := (blk_cell BK285.out 0).trans rfl; have hcz32_1 : w30.cell? ⟨gb285, 1, none⟩ = some (u286001) := (blk_cell BK285.out 1).trans rfl; have hcz32_2 : w30.cell? ⟨gb285, 2, none⟩ = some (u286002) := (blk_cell BK285.out 2).trans rfl; have hfz32_0 := blk_frozen BK285.out 0; have hfz32_1 := blk_frozen BK285.out 1; have hfz32_2 := blk_frozen BK285.out 2) | ((with_reducible refine gate_builtin (b := .append) (xs := #[.tmp 64, .tmp 66]) rfl ?_); at_builtin; refine Kd.R_append (Kd.int .u16) (w0 := w) w.heap.size rfl (.tmp 64) (.tmp 66) 37 62 (.int .u16 0) 2 rfl Tryd.underlying37 info62 rfl (by decide) (by omega) u286001 x286001_2 t288 [.int .u16 t288] (fun _ => True) (fun _ => False) rfl rfl ?aP (fun _ hk => hk.elim) ?aF ?aO ?aB ?aS ?aL ?_; (case aP => exact rfl); (case aB => exact (by repeat (first | (with_reducible first | exact HB.out | apply below_alloc | apply pw_below_drewN | apply below_drew1 | refine below_set ?_ GE276.out | refine below_set ?_ GE285.out) | exact HB.out))); (case aF => exact (fun _ _ => trivial)); (case aO => exact (zR HO_286001.out)); (case aS => exact (below_size (by repeat (first | (with_reducible first | exact HB.out | apply below_alloc | apply pw_below_drewN | apply below_drew1 | refine below_set ?_ GE276.out | refine below_set ?_ GE285.out) | exact HB.out)))); (case aL => have := LMc28.out; omega); intro v291 w33 ho hb hg hat; rw [← Ny290.out] at ho; have n0_ := ak (Kd.R_over' (zR HO_4.out) (Kd.R_typed (zR HO_286001.out)) (by decide) hg); have n1_ := ak (Kd.R_over' (zR HO_286002.out) (Kd.R_typed (zR HO_286001.out)) (by decide) hg); have n2_ := ak (blk_grown (g := gb276) (o := .cells #[.int .i64 x277000_2, .slice none 0 0, .slice none 0 0] 39 (0, 0)) (zK BK276.out) hg (Kd.R_ne HO_286001.out BK276.out (by decide))); have n3_ := ak (blk_grown (g := gb285) (o := .cells #[.int .i64 t283, u286001, u286002] 39 (0, 0)) (zK BK285.out) hg (Kd.R_ne HO_286001.out BK285.out (by decide))); have n4_ := ak (hb); have n5_ := ak (ho); clear HO_4 HO_286002 BK276 BK285 HB HO_286001; have HO_4 := n0_; have HO_286002 := n1_; have BK276 := n2_; have BK285 := n3_; have HB := n4_; have HO292 := n5_; clear n0_ n1_ n2_ n3_ n4_ n5_; clear ho hb hg hat; obtain ⟨Ao34, co34, eo34⟩ := Kd.R_slice HO292.out; subst eo34; have hcz35_0 : w33.cell? ⟨gb285, 0, none⟩ = some (.int .i64 t283) := (blk_cell BK285.out 0).trans rfl; have hcz35_1 : w33.cell? ⟨gb285, 1, none⟩ = some (u286001) := (blk_cell BK285.out 1).trans rfl; have hcz35_2 : w33.cell? ⟨gb285, 2, none⟩ = some (u286002) := (blk_cell BK285.out 2).trans rfl; have hfz35_0 := blk_frozen BK285.out 0; have hfz35_1 := blk_frozen BK285.out 1; have hfz35_2 := blk_frozen BK285.out 2) | ((with_reducible refine gate_builtin (b := .append) (xs := #[.tmp 70, .tmp 73]) rfl ?_); at_builtin; refine Kd.R_append (Kd.int .i16) (w0 := w) w.heap.size rfl (.tmp 70) (.tmp 73) 30 29 (.int .i16 0) 2 rfl Tryd.underlying30 info29 rfl (by decide) (by omega) u286002 x286002_2 (IntKind.i16.wrap (t287)) [.int .i16 (IntKind.i16.wrap (t287))] (fun _ => True) (fun _ => False) rfl (by first | (go_simp; done) | (go_simp; rfl)) ?aP (fun _ hk => hk.elim) ?aF ?aO ?aB ?aS ?aL ?_; (case aP => exact rfl); (case aB => exact (by repeat (first | (with_reducible first | exact HB.out | apply below_alloc | apply pw_below_drewN | apply below_drew1 | refine below_set ?_ GE276.out | refine below_set ?_ GE285.out) | exact HB.out))); (case aF => exact (fun _ _ => trivial)); (case aO => exact (by (with_reducible repeat (first | apply Kd.R_alloc | apply Kd.R_drewN | apply Kd.R_drew)); exact Kd.R_mono (Kd.R_far (p := ⟨gb285, 1, none⟩) (Kd.R_types HO_286002.out BK285.out (by decide)) (fun _ hk => hk.2) (.slice Ao34 y290.length co34)) (fun _ hk => trivial))); (case aS => exact (below_size (by repeat (first | (with_reducible first | exact HB.out | apply below_alloc | apply pw_below_drewN | apply below_drew1 | refine below_set ?_ GE276.out | refine below_set ?_ GE285.out) | exact HB.out)))); (case aL => have := LMc29.out; omega); intro v294 w36 ho hb hg hat; rw [← Ny293.out] at ho; have n0_ := ak (Kd.R_over' (by (with_reducible repeat (first | apply Kd.R_alloc | apply Kd.R_drewN | apply Kd.R_drew)); exact (Kd.R_mono (Kd.R_far (p := ⟨gb285, 1, none⟩) (Kd.R_types HO_4.out BK285.out (by decide)) (fun _ hk => hk.2) (.slice Ao34 y290.length co34)) (fun _ h_ => h_.1))) (Kd.R_typed (by (with_reducible repeat (first | apply Kd.R_alloc | apply Kd.R_drewN | apply Kd.R_drew)); exact (Kd.R_mono (Kd.R_far (p := ⟨gb285, 1, none⟩) (Kd.R_types HO_286002.out BK285.out (by decide)) (fun _ hk => hk.2) (.slice Ao34 y290.length co34)) (fun _ h_ => h_.1)))) (by decide) hg); have n1_ := ak (blk_grown (g := gb276) (o := .cells #[.int .i64 x277000_2, .slice none 0 0, .slice none 0 0] 39 (0, 0)) (by (with_reducible repeat (first | refine blk_drewN ?_ _ | refine blk_drew ?_ | refine blk_alloc ?_ _)); refine blk_far ?_ NB276_285.out _; (with_reducible repeat (first | refine blk_drewN ?_ _ | refine blk_drew ?_ | refine blk_alloc ?_ _)); exact BK276.out) hg (Kd.R_ne HO_286002.out BK276.out (by decide))); have n2_ := ak (blk_grown (g := gb285) (o := .cells #[.int .i64 t283, .slice Ao34 y290.length co34, u286002] 39 (0, 0)) (by (with_reducible repeat (first | refine blk_drewN ?_ _ | refine blk_drew ?_ | refine blk_alloc ?_ _)); refine blk_put (cs := #[.int .i64 t283, u286001, u286002]) ?_ 1 _ rfl; (with_reducible repeat (first | refine blk_drewN ?_ _ | refine blk_drew ?_ | refine blk_alloc ?_ _)); exact BK285.out) hg (Kd.R_ne HO_286002.out BK285.out (by decide))); have n3_ := ak (Kd.R_over' (by (with_reducible repeat (first | apply Kd.R_alloc | apply Kd.R_drewN | apply Kd.R_drew)); exact (Kd.R_mono (Kd.R_far (p := ⟨gb285, 1, none⟩) (Kd.R_types HO292.out BK285.out (by decide)) (fun _ hk => hk.2) (.slice Ao34 y290.length co34)) (fun _ h_ => h_.1))) (Kd.R_typed (by (with_reducible repeat (first | apply Kd.R_alloc | apply Kd.R_drewN | apply Kd.R_drew)); exact (Kd.R_mono (Kd.R_far (p := ⟨gb285, 1, none⟩) (Kd.R_types HO_286002.out BK285.out (by decide)) (fun _ hk => hk.2) (.slice Ao34 y290.length co34)) (fun _ h_ => h_.1)))) (by decide) hg); have n4_ := ak (hb); have n5_ := ak (ho); clear HO_4 BK276 BK285 HO292 HB HO_286002; have HO_4 := n0_; have BK276 := n1_; have BK285 := n2_; have HO292 := n3_; have HB := n4_; have HO295 := n5_; clear n0_ n1_ n2_ n3_ n4_ n5_; clear ho hb hg hat; obtain ⟨Ao37, co37, eo37⟩ := Kd.R_slice HO295.out; subst eo37; have hcz38_0 : w36.cell? ⟨gb285, 0, none⟩ = some (.int .i64 t283) := (blk_cell BK285.out 0).trans rfl; have hcz38_1 : w36.cell? ⟨gb285, 1, none⟩ = some (.slice Ao34 y290.length co34) := (blk_cell BK285.out 1).trans rfl; have hcz38_2 : w36.cell? ⟨gb285, 2, none⟩ = some (u286002) := (blk_cell BK285.out 2).trans rfl; have hfz38_0 := blk_frozen BK285.out 0; have hfz38_1 := blk_frozen BK285.out 1; have hfz38_2 := blk_frozen BK285.out 2))
 go_roundg k2
 case measure => have := HJ3.out; have := HK2.out; omega
 case rel => exact ⟨(wrap64 (x9_2 + 1)), (x277000_2), (y290), (y293), (.slice Ao34 y290.length co34), (.slice Ao37 y293.length co37), (by first | rfl | (simp; done) | (simp [*]; done)), H', ⟨by have := HJ3.out; have := HK2.out; omega⟩, ⟨by (with_reducible repeat (first | apply Kd.R_alloc | apply Kd.R_drewN | apply Kd.R_drew)); exact Kd.R_mono (Kd.R_far (p := ⟨gb285, 2, none⟩) (Kd.R_types HO_4.out BK285.out (by decide)) (fun _ hk => hk.2) (.slice Ao37 y293.length co37)) (fun _ hk => trivial)⟩, ⟨by (with_reducible repeat (first | apply Kd.R_alloc | apply Kd.R_drewN | apply Kd.R_drew)); exact Kd.R_mono (Kd.R_far (p := ⟨gb285, 2, none⟩) (Kd.R_types HO292.out BK285.out (by decide)) (fun _ hk => hk.2) (.slice Ao37 y293.length co37)) (fun _ hk => trivial)⟩, ⟨by (with_reducible repeat (first | apply Kd.R_alloc | apply Kd.R_drewN | apply Kd.R_drew)); exact Kd.R_mono (Kd.R_far (p := ⟨gb285, 2, none⟩) (Kd.R_types HO295.out BK285.out (by decide)) (fun _ hk => hk.2) (.slice Ao37 y293.length co37)) (fun _ hk => trivial)⟩, ⟨by (with_reducible repeat (first | refine blk_drewN ?_ _ | refine blk_drew ?_ | refine blk_alloc ?_ _)); refine blk_far ?_ NB276_285.out _; (with_reducible repeat (first | refine blk_drewN ?_ _ | refine blk_drew ?_ | refine blk_alloc ?_ _)); exact BK276.out⟩, ⟨by (with_reducible repeat (first | refine blk_drewN ?_ _ | refine blk_drew ?_ | refine blk_alloc ?_ _)); refine blk_put (cs := #[.int .i64 t283, .slice Ao34 y290.length co34, u286002]) ?_ 2 _ rfl; (with_reducible repeat (first | refine blk_drewN ?_ _ | refine blk_drew ?_ | refine blk_alloc ?_ _)); exact BK285.out⟩, ⟨by repeat (first | (with_reducible first | exact HB.out | apply below_alloc | apply pw_below_drewN | apply below_drew1 | refine below_set ?_ GE276.out | refine below_set ?_ GE285.out) | exact HB.out)⟩⟩
 }
 · rw [if_neg c29] at H; exact absurd H (by simp)
 }
 · rw [if_neg c28] at H; exact absurd H (by simp)
 }
 {
 replace c27 := Bool.eq_false_iff.mpr c27
 subst c27
 have H1 : (some (0, ([] : List Int), ([] : List Int), 5)) = some (r1, r2, r3, r4) := by rw [if_neg (show ¬ (false = true) by decide)] at H; exact H
 clear H
 have H := H1
 clear H1
 simp only [Option.some.injEq, Prod.mk.injEq] at H
 obtain ⟨rfl, rfl, rfl, rfl⟩ := H
 have p286 : 0 ≤ (x9_2 : Int) := of_decide_eq_true (by first | (with_reducible assumption) | assumption)
 have q286 : x9_2 < (t277.length : Int) := of_decide_eq_true (by first | (with_reducible assumption) | assumption)
 obtain ⟨ad286, e286, hx286_0⟩ := Kd.at_string (Kd.R_reads' HO_4.out).2.2 x9_2 p286 q286
 obtain rfl : ad280 = ad286 := (by injection e286)
 replace p286 := eq_true p286
 replace q286 := eq_true q286
 go_wp2_with (first | ((with_reducible refine gate_callee (f := 33) rfl ?_); refine goesL_ (some 56) rfl rfl Tryd.func33 (by kernel_rfl) rfl #[.string (rdOf ByteArray.empty t277 x9_2)] rfl (by (try simp only [List.map_toArray, List.map_cons, List.map_nil]); first | done | rfl | (simp only [List.length_drop, List.length_take]; rfl)) ?_; (with_reducible refine (spec_l05Read.calls k2 (rdOf ByteArray.empty t277 x9_2) t287 t288 false _ A26.out).mono ?_); rintro e w39 ⟨rfl, hb⟩; refine ⟨_, rfl, ?_⟩; have n0_ := ak (Kd.R_below (zR HO_4.out) hb); have n1_ := ak (Kd.R_below (zR HO_286001.out) hb); have n2_ := ak (Kd.R_below (zR HO_286002.out) hb); have n3_ := ak (blk_below (g := gb276) (o := .cells #[.int .i64 x277000_2, .slice none 0 0, .slice none 0 0] 39 (0, 0)) (zK BK276.out) hb); have n4_ := ak (blk_below (g := gb285) (o := .cells #[.int .i64 t283, u286001, u286002] 39 (0, 0)) (zK BK285.out) hb); have n5_ := ak (below_step (by repeat (first | (with_reducible first | exact HB.out | apply below_alloc | apply pw_below_drewN | apply below_drew1 | refine below_set ?_ GE276.out | refine below_set ?_ GE285.out) | exact HB.out)) hb); clear HO_4 HO_286001 HO_286002 BK276 BK285 HB; have HO_4 := n0_; have HO_286001 := n1_; have HO_286002 := n2_; have BK276 := n3_; have BK285 := n4_; have HB := n5_; clear n0_ n1_ n2_ n3_ n4_ n5_; (try clear hb); (try clear hb2); (try clear hk); (try clear hi); have hnb40 := NB276_285.out; have hnc40 := NB285_276.out; have hcz41_0 : w39.cell? ⟨gb276, 0, none⟩ = some (.int .i64 x277000_2) := (blk_cell BK276.out 0).trans rfl; have hcz41_1 : w39.cell? ⟨gb276, 1, none⟩ = some (.slice none 0 0) := (blk_cell BK276.out 1).trans rfl; have hcz41_2 : w39.cell? ⟨gb276, 2, none⟩ = some (.slice none 0 0) := (blk_cell BK276.out 2).trans rfl; have hfz41_0 := blk_frozen BK276.out 0; have hfz41_1 := blk_frozen BK276.out 1; have hfz41_2 := blk_frozen BK276.out 2))
 refine bodyPost_ret (results_ct rfl _ _ gb276 39 #[.int .i64 0, .slice none 0 0, .slice none 0 0] (0, 0) _ rfl (by (with_reducible repeat (first | refine blk_drewN ?_ _ | refine blk_drew ?_ | refine blk_alloc ?_ _)); refine blk_put (cs := #[.int .i64 0, .slice none 0 0, .slice none 0 0]) ?_ 2 _ rfl; (with_reducible repeat (first | refine blk_drewN ?_ _ | refine blk_drew ?_ | refine blk_alloc ?_ _)); refine blk_put (cs := #[.int .i64 0, .slice none 0 0, .slice none 0 0]) ?_ 1 _ rfl; (with_reducible repeat (first | refine blk_drewN ?_ _ | refine blk_drew ?_ | refine blk_alloc ?_ _)); refine blk_put (cs := #[.int .i64 x277000_2, .slice none 0 0, .slice none 0 0]) ?_ 0 _ rfl; (with_reducible repeat (first | refine blk_drewN ?_ _ | refine blk_drew ?_ | refine blk_alloc ?_ _)); exact BK276.out) Tryd.underlying39 rfl (by kernel_rfl)) rfl ?_
 exact ⟨_, _, by first | rfl | (simp [errW_none, errW_some] <;> rfl) | (simp only [← hji16]; first | rfl | (simp [errW_none, errW_some] <;> rfl)) | (simp [*, errW_none, errW_some] <;> rfl), by first | exact Kd.R_nil _ _ _ _ _ | exact Kd.N_nil _ _ _ _ _ | exact Kd.V_nil _ _ _ _ _ | exact Kd.Q_nil _ _ _ _ _ | exact Kd.S_nil _ _ _ _ _, by first | exact Kd.R_nil _ _ _ _ _ | exact Kd.N_nil _ _ _ _ _ | exact Kd.V_nil _ _ _ _ _ | exact Kd.Q_nil _ _ _ _ _ | exact Kd.S_nil _ _ _ _ _, by repeat (first | (with_reducible first | exact HB.out | apply below_alloc | apply pw_below_drewN | apply below_drew1 | refine below_set ?_ GE276.out | refine below_set ?_ GE285.out) | exact HB.out)⟩
 }
 }
 · rw [if_neg c25] at H; exact absurd H (by simp)
 }
 {
 rw [if_neg c24] at H
 have c24b0 : decide (x9_2 < (t277.length : Int)) = false := decide_eq_false c24
 clear c24
 replace H := Option.bind_eq_some_iff.mp H
 obtain ⟨t296, A420, H⟩ := H
 replace H : (if t296 = true then (some (t283, x286001_2, x286002_2, 0)) else (some (0, ([] : List Int), ([] : List Int), 5))) = some (r1, r2, r3, r4) := H
 have A42 := ak A420
 clear A420
 by_cases c43 : t296 = true
 {
 subst c43
 have H1 : (some (t283, x286001_2, x286002_2, 0)) = some (r1, r2, r3, r4) := by rw [if_pos rfl] at H; exact H
 clear H
 have H := H1
 clear H1
 simp only [Option.some.injEq, Prod.mk.injEq] at H
 obtain ⟨rfl, rfl, rfl, rfl⟩ := H
 obtain ⟨Ao44, co44, eo44⟩ := Kd.R_slice HO_286001.out
 subst eo44
 obtain ⟨Ao45, co45, eo45⟩ := Kd.R_slice HO_286002.out
 subst eo45
 go_wp2_with (first | ((with_reducible refine gate_callee (f := 34) rfl ?_); refine goesL_ (some 76) rfl rfl Tryd.func34 (by kernel_rfl) rfl #[.pointer (some ⟨gb285, 0, none⟩)] rfl (by (try simp only [List.map_toArray, List.map_cons, List.map_nil]); first | done | rfl | (simp only [List.length_drop, List.length_take]; rfl)) ?_; (with_reducible refine (spec_l05Ok.calls k2 gb285 t283 Ao44 co44 x286001_2 Ao45 co45 x286002_2 true _ ?side1 ?side2 ?side3 ?side4 ?side5 A42.out).mono ?_); (case side1 => exact zC (Kd.R_reads' HO_286001.out).2.2); (case side2 => exact (Kd.R_reads' HO_286001.out).2.1); (case side3 => exact zC (Kd.R_reads' HO_286002.out).2.2); (case side4 => exact (Kd.R_reads' HO_286002.out).2.1); (case side5 => exact (by first | exact BK285.out | ((with_reducible repeat (first | refine blk_drewN ?_ _ | refine blk_drew ?_ | refine blk_alloc ?_ _)); exact BK285.out))); rintro e w' ⟨rfl, ⟨nd, rfl⟩⟩; refine ⟨_, rfl, ?_⟩; (try (rw [drewN_self wr]; generalize hq_ : World.drewN wr _ = wr; have n0_ : Aside0 (Kd.R (Kd.int .u16) 62 wr w.heap.size (fun _ => True) (.slice Ao44 x286001_2.length co44) x286001_2) := ⟨by rw [← hq_]; exact (zR HO_286001.out)⟩; have n1_ : Aside0 (Kd.R (Kd.int .i16) 29 wr w.heap.size (fun _ => True) (.slice Ao45 x286002_2.length co45) x286002_2) := ⟨by rw [← hq_]; exact (zR HO_286002.out)⟩; have n2_ : Aside0 (Kd.R Kd.string 9 wr w.heap.size (fun _ => True) (.slice (some ad280) t277.length co7) t277) := ⟨by rw [← hq_]; exact (zR HO_4.out)⟩; have n3_ : Aside0 (wr.heap[gb276]? = some (.cells #[.int .i64 x277000_2, .slice none 0 0, .slice none 0 0] 39 (0, 0))) := ⟨by rw [← hq_]; exact (zK BK276.out)⟩; have n4_ : Aside0 (wr.heap[gb285]? = some (.cells #[.int .i64 t283, .slice Ao44 x286001_2.length co44, .slice Ao45 x286002_2.length co45] 39 (0, 0))) := ⟨by rw [← hq_]; exact (zK BK285.out)⟩; have n5_ : Aside0 (Below w.heap.size w wr) := ⟨by rw [← hq_]; exact (by repeat (first | (with_reducible first | exact HB.out | apply below_alloc | apply pw_below_drewN | apply below_drew1 | refine below_set ?_ GE276.out | refine below_set ?_ GE285.out) | exact HB.out))⟩; clear HO_286001 HO_286002 HO_4 BK276 BK285 HB hq_; have HO_286001 := n0_; have HO_286002 := n1_; have HO_4 := n2_; have BK276 := n3_; have BK285 := n4_; have HB := n5_; clear n0_ n1_ n2_ n3_ n4_ n5_)); have hnb46 := NB285_276.out; have hnc46 := NB276_285.out; have hcz47_0 : wr.cell? ⟨gb285, 0, none⟩ = some (.int .i64 t283) := (blk_cell BK285.out 0).trans rfl; have hcz47_1 : wr.cell? ⟨gb285, 1, none⟩ = some (.slice Ao44 x286001_2.length co44) := (blk_cell BK285.out 1).trans rfl; have hcz47_2 : wr.cell? ⟨gb285, 2, none⟩ = some (.slice Ao45 x286002_2.length co45) := (blk_cell BK285.out 2).trans rfl; have hfz47_0 := blk_frozen BK285.out 0; have hfz47_1 := blk_frozen BK285.out 1; have hfz47_2 := blk_frozen BK285.out 2; have hcz48_0 : wr.cell? ⟨gb276, 0, none⟩ = some (.int .i64 x277000_2) := (blk_cell BK276.out 0).trans rfl; have hcz48_1 : wr.cell? ⟨gb276, 1, none⟩ = some (.slice none 0 0) := (blk_cell BK276.out 1).trans rfl; have hcz48_2 : wr.cell? ⟨gb276, 2, none⟩ = some (.slice none 0 0) := (blk_cell BK276.out 2).trans rfl; have hfz48_0 := blk_frozen BK276.out 0; have hfz48_1 := blk_frozen BK276.out 1; have hfz48_2 := blk_frozen BK276.out 2))
 refine bodyPost_ret (results_ct rfl _ _ gb276 39 #[.int .i64 t283, .slice Ao44 x286001_2.length co44, .slice Ao45 x286002_2.length co45] (0, 0) _ rfl (by (with_reducible repeat (first | refine blk_drewN ?_ _ | refine blk_drew ?_ | refine blk_alloc ?_ _)); refine blk_put (cs := #[.int .i64 t283, .slice Ao44 x286001_2.length co44, .slice none 0 0]) ?_ 2 _ rfl; (with_reducible repeat (first | refine blk_drewN ?_ _ | refine blk_drew ?_ | refine blk_alloc ?_ _)); refine blk_put (cs := #[.int .i64 t283, .slice none 0 0, .slice none 0 0]) ?_ 1 _ rfl; (with_reducible repeat (first | refine blk_drewN ?_ _ | refine blk_drew ?_ | refine blk_alloc ?_ _)); refine blk_put (cs := #[.int .i64 x277000_2, .slice none 0 0, .slice none 0 0]) ?_ 0 _ rfl; (with_reducible repeat (first | refine blk_drewN ?_ _ | refine blk_drew ?_ | refine blk_alloc ?_ _)); exact BK276.out) Tryd.underlying39 rfl (by kernel_rfl)) rfl ?_
 exact ⟨_, _, by first | rfl | (simp [errW_none, errW_some] <;> rfl) | (simp only [← hji16]; first | rfl | (simp [errW_none, errW_some] <;> rfl)) | (simp [*, errW_none, errW_some] <;> rfl), by (with_reducible repeat (first | apply Kd.R_alloc | apply Kd.R_drewN | apply Kd.R_drew)); exact Kd.R_mono (Kd.R_far (p := ⟨gb276, 2, none⟩) (Kd.R_far (p := ⟨gb276, 1, none⟩) (Kd.R_far (p := ⟨gb276, 0, none⟩) (Kd.R_types HO_286001.out BK276.out (by decide)) (fun _ hk => hk.2) (.int .i64 t283)) (fun _ hk => hk.2) (.slice Ao44 x286001_2.length co44)) (fun _ hk => hk.2) (.slice Ao45 x286002_2.length co45)) (fun _ hk => trivial), by (with_reducible repeat (first | apply Kd.R_alloc | apply Kd.R_drewN | apply Kd.R_drew)); exact Kd.R_mono (Kd.R_far (p := ⟨gb276, 2, none⟩) (Kd.R_far (p := ⟨gb276, 1, none⟩) (Kd.R_far (p := ⟨gb276, 0, none⟩) (Kd.R_types HO_286002.out BK276.out (by decide)) (fun _ hk => hk.2) (.int .i64 t283)) (fun _ hk => hk.2) (.slice Ao44 x286001_2.length co44)) (fun _ hk => hk.2) (.slice Ao45 x286002_2.length co45)) (fun _ hk => trivial), by repeat (first | (with_reducible first | exact HB.out | apply below_alloc | apply pw_below_drewN | apply below_drew1 | refine below_set ?_ GE276.out | refine below_set ?_ GE285.out) | exact HB.out)⟩
 }
 {
 replace c43 := Bool.eq_false_iff.mpr c43
 subst c43
 have H1 : (some (0, ([] : List Int), ([] : List Int), 5)) = some (r1, r2, r3, r4) := by rw [if_neg (show ¬ (false = true) by decide)] at H; exact H
 clear H
 have H := H1
 clear H1
 simp only [Option.some.injEq, Prod.mk.injEq] at H
 obtain ⟨rfl, rfl, rfl, rfl⟩ := H
 obtain ⟨Ao49, co49, eo49⟩ := Kd.R_slice HO_286001.out
 subst eo49
 obtain ⟨Ao50, co50, eo50⟩ := Kd.R_slice HO_286002.out
 subst eo50
 go_wp2_with (first | ((with_reducible refine gate_callee (f := 34) rfl ?_); refine goesL_ (some 76) rfl rfl Tryd.func34 (by kernel_rfl) rfl #[.pointer (some ⟨gb285, 0, none⟩)] rfl (by (try simp only [List.map_toArray, List.map_cons, List.map_nil]); first | done | rfl | (simp only [List.length_drop, List.length_take]; rfl)) ?_; (with_reducible refine (spec_l05Ok.calls k2 gb285 t283 Ao49 co49 x286001_2 Ao50 co50 x286002_2 false _ ?side1 ?side2 ?side3 ?side4 ?side5 A42.out).mono ?_); (case side1 => exact zC (Kd.R_reads' HO_286001.out).2.2); (case side2 => exact (Kd.R_reads' HO_286001.out).2.1); (case side3 => exact zC (Kd.R_reads' HO_286002.out).2.2); (case side4 => exact (Kd.R_reads' HO_286002.out).2.1); (case side5 => exact (by first | exact BK285.out | ((with_reducible repeat (first | refine blk_drewN ?_ _ | refine blk_drew ?_ | refine blk_alloc ?_ _)); exact BK285.out))); rintro e w' ⟨rfl, ⟨nd, rfl⟩⟩; refine ⟨_, rfl, ?_⟩; (try (rw [drewN_self wr]; generalize hq_ : World.drewN wr _ = wr; have n0_ : Aside0 (Kd.R (Kd.int .u16) 62 wr w.heap.size (fun _ => True) (.slice Ao49 x286001_2.length co49) x286001_2) := ⟨by rw [← hq_]; exact (zR HO_286001.out)⟩; have n1_ : Aside0 (Kd.R (Kd.int .i16) 29 wr w.heap.size (fun _ => True) (.slice Ao50 x286002_2.length co50) x286002_2) := ⟨by rw [← hq_]; exact (zR HO_286002.out)⟩; have n2_ : Aside0 (Kd.R Kd.string 9 wr w.heap.size (fun _ => True) (.slice (some ad280) t277.length co7) t277) := ⟨by rw [← hq_]; exact (zR HO_4.out)⟩; have n3_ : Aside0 (wr.heap[gb276]? = some (.cells #[.int .i64 x277000_2, .slice none 0 0, .slice none 0 0] 39 (0, 0))) := ⟨by rw [← hq_]; exact (zK BK276.out)⟩; have n4_ : Aside0 (wr.heap[gb285]? = some (.cells #[.int .i64 t283, .slice Ao49 x286001_2.length co49, .slice Ao50 x286002_2.length co50] 39 (0, 0))) := ⟨by rw [← hq_]; exact (zK BK285.out)⟩; have n5_ : Aside0 (Below w.heap.size w wr) := ⟨by rw [← hq_]; exact (by repeat (first | (with_reducible first | exact HB.out | apply below_alloc | apply pw_below_drewN | apply below_drew1 | refine below_set ?_ GE276.out | refine below_set ?_ GE285.out) | exact HB.out))⟩; clear HO_286001 HO_286002 HO_4 BK276 BK285 HB hq_; have HO_286001 := n0_; have HO_286002 := n1_; have HO_4 := n2_; have BK276 := n3_; have BK285 := n4_; have HB := n5_; clear n0_ n1_ n2_ n3_ n4_ n5_)); have hnb51 := NB276_285.out; have hnc51 := NB285_276.out; have hcz52_0 : wr.cell? ⟨gb276, 0, none⟩ = some (.int .i64 x277000_2) := (blk_cell BK276.out 0).trans rfl; have hcz52_1 : wr.cell? ⟨gb276, 1, none⟩ = some (.slice none 0 0) := (blk_cell BK276.out 1).trans rfl; have hcz52_2 : wr.cell? ⟨gb276, 2, none⟩ = some (.slice none 0 0) := (blk_cell BK276.out 2).trans rfl; have hfz52_0 := blk_frozen BK276.out 0; have hfz52_1 := blk_frozen BK276.out 1; have hfz52_2 := blk_frozen BK276.out 2))
 refine bodyPost_ret (results_ct rfl _ _ gb276 39 #[.int .i64 0, .slice none 0 0, .slice none 0 0] (0, 0) _ rfl (by (with_reducible repeat (first | refine blk_drewN ?_ _ | refine blk_drew ?_ | refine blk_alloc ?_ _)); refine blk_put (cs := #[.int .i64 0, .slice none 0 0, .slice none 0 0]) ?_ 2 _ rfl; (with_reducible repeat (first | refine blk_drewN ?_ _ | refine blk_drew ?_ | refine blk_alloc ?_ _)); refine blk_put (cs := #[.int .i64 0, .slice none 0 0, .slice none 0 0]) ?_ 1 _ rfl; (with_reducible repeat (first | refine blk_drewN ?_ _ | refine blk_drew ?_ | refine blk_alloc ?_ _)); refine blk_put (cs := #[.int .i64 x277000_2, .slice none 0 0, .slice none 0 0]) ?_ 0 _ rfl; (with_reducible repeat (first | refine blk_drewN ?_ _ | refine blk_drew ?_ | refine blk_alloc ?_ _)); exact BK276.out) Tryd.underlying39 rfl (by kernel_rfl)) rfl ?_
 exact ⟨_, _, by first | rfl | (simp [errW_none, errW_some] <;> rfl) | (simp only [← hji16]; first | rfl | (simp [errW_none, errW_some] <;> rfl)) | (simp [*, errW_none, errW_some] <;> rfl), by first | exact Kd.R_nil _ _ _ _ _ | exact Kd.N_nil _ _ _ _ _ | exact Kd.V_nil _ _ _ _ _ | exact Kd.Q_nil _ _ _ _ _ | exact Kd.S_nil _ _ _ _ _, by first | exact Kd.R_nil _ _ _ _ _ | exact Kd.N_nil _ _ _ _ _ | exact Kd.V_nil _ _ _ _ _ | exact Kd.Q_nil _ _ _ _ _ | exact Kd.S_nil _ _ _ _ _, by repeat (first | (with_reducible first | exact HB.out | apply below_alloc | apply pw_below_drewN | apply below_drew1 | refine below_set ?_ GE276.out | refine below_set ?_ GE285.out) | exact HB.out)⟩
 }
 }
 )
 )
 }
 {
 replace c20 := Bool.eq_false_iff.mpr c20
 subst c20
 have H1 : (some (0, ([] : List Int), ([] : List Int), 5)) = some (r1, r2, r3, r4) := by rw [if_neg (show ¬ (false = true) by decide)] at H; exact H
 clear H
 have H := H1
 clear H1
 simp only [Option.some.injEq, Prod.mk.injEq] at H
 obtain ⟨rfl, rfl, rfl, rfl⟩ := H
 have p282 : 0 ≤ (0 : Int) := (by omega)
 have q282 : 0 < (t277.length : Int) := of_decide_eq_true (by first | (with_reducible assumption) | assumption)
 obtain ⟨ad282, e282, hx282_0⟩ := Kd.at_string (Kd.R_reads' HO_4.out).2.2 0 p282 q282
 obtain rfl : ad280 = ad282 := (by injection e282)
 have qi282 : (0 < t277.length) = True := eq_true (by omega)
 (try rw [show ((0 : Int)).toNat = 0 from rfl] at hx282_0)
 (try rw [Addr.add_zero'] at hx282_0)
 replace p282 := eq_true p282
 replace q282 := eq_true q282
 go_wp2_with (first | ((with_reducible refine gate_callee (f := 26) rfl ?_); refine goesL_ (some 37) rfl rfl Tryd.func26 (by kernel_rfl) rfl #[.string ((rdOf ByteArray.empty t277 0).extract 0 ((ji16) : Int).toNat)] rfl (by (try simp only [List.map_toArray, List.map_cons, List.map_nil]); first | done | (simp only [hji16]; rfl) | rfl | (simp only [List.length_drop, List.length_take]; rfl)) ?_; (with_reducible refine (spec_l01Number.calls kj3 ((rdOf ByteArray.empty t277 0).extract 0 ((ji16) : Int).toNat) t283 false _ A19.out).mono ?_); rintro e w' ⟨rfl, ⟨nd, rfl⟩⟩; refine ⟨_, rfl, ?_⟩; (try (rw [drewN_self wc]; generalize hq_ : World.drewN wc _ = wc; have n0_ : Aside0 (Kd.R Kd.string 9 wc w.heap.size (fun _ => True) (.slice (some ad280) t277.length co7) t277) := ⟨by rw [← hq_]; exact (zR HO_4.out)⟩; have n1_ : Aside0 (wc.heap[gb276]? = some (.cells #[.int .i64 0, .slice none 0 0, .slice none 0 0] 39 (0, 0))) := ⟨by rw [← hq_]; exact (zK BK276.out)⟩; have n2_ : Aside0 (Below w.heap.size w wc) := ⟨by rw [← hq_]; exact (zBG HB.out GE276.out)⟩; clear HO_4 BK276 HB hq_; have HO_4 := n0_; have BK276 := n1_; have HB := n2_; clear n0_ n1_ n2_)); have hcz53_0 : wc.cell? ⟨gb276, 0, none⟩ = some (.int .i64 0) := (blk_cell BK276.out 0).trans rfl; have hcz53_1 : wc.cell? ⟨gb276, 1, none⟩ = some (.slice none 0 0) := (blk_cell BK276.out 1).trans rfl; have hcz53_2 : wc.cell? ⟨gb276, 2, none⟩ = some (.slice none 0 0) := (blk_cell BK276.out 2).trans rfl; have hfz53_0 := blk_frozen BK276.out 0; have hfz53_1 := blk_frozen BK276.out 1; have hfz53_2 := blk_frozen BK276.out 2))
 refine bodyPost_ret (results_ct rfl _ _ gb276 39 #[.int .i64 0, .slice none 0 0, .slice none 0 0] (0, 0) _ rfl (by (with_reducible repeat (first | refine blk_drewN ?_ _ | refine blk_drew ?_ | refine blk_alloc ?_ _)); refine blk_put (cs := #[.int .i64 0, .slice none 0 0, .slice none 0 0]) ?_ 2 _ rfl; (with_reducible repeat (first | refine blk_drewN ?_ _ | refine blk_drew ?_ | refine blk_alloc ?_ _)); refine blk_put (cs := #[.int .i64 0, .slice none 0 0, .slice none 0 0]) ?_ 1 _ rfl; (with_reducible repeat (first | refine blk_drewN ?_ _ | refine blk_drew ?_ | refine blk_alloc ?_ _)); refine blk_put (cs := #[.int .i64 0, .slice none 0 0, .slice none 0 0]) ?_ 0 _ rfl; (with_reducible repeat (first | refine blk_drewN ?_ _ | refine blk_drew ?_ | refine blk_alloc ?_ _)); exact BK276.out) Tryd.underlying39 rfl (by kernel_rfl)) rfl ?_
 exact ⟨_, _, by first | rfl | (simp [errW_none, errW_some] <;> rfl) | (simp only [← hji16]; first | rfl | (simp [errW_none, errW_some] <;> rfl)) | (simp [*, errW_none, errW_some] <;> rfl), by first | exact Kd.R_nil _ _ _ _ _ | exact Kd.N_nil _ _ _ _ _ | exact Kd.V_nil _ _ _ _ _ | exact Kd.Q_nil _ _ _ _ _ | exact Kd.S_nil _ _ _ _ _, by first | exact Kd.R_nil _ _ _ _ _ | exact Kd.N_nil _ _ _ _ _ | exact Kd.V_nil _ _ _ _ _ | exact Kd.Q_nil _ _ _ _ _ | exact Kd.S_nil _ _ _ _ _, by repeat (first | (with_reducible first | exact HB.out | apply below_alloc | apply pw_below_drewN | apply below_drew1 | refine below_set ?_ GE276.out) | exact HB.out)⟩
 }
 }
 · rw [if_neg c18] at H; exact absurd H (by simp)
 }
 · rw [if_neg c17] at H; exact absurd H (by simp)
 }
 · rw [if_neg c15] at H; exact absurd H (by simp)
 }
 )
 )
 }
 · rw [if_neg c3] at H; exact absurd H (by simp)
/-! ### strings_TrimSuffix: function 35 -/
def strings_TrimSuffix.f (a0 a1 : ByteArray) : Option ByteArray := if a0.size ≤ 4294967280 then some ⟨(Lib.trimSuffix a0.data.toList a1.data.toList).toArray⟩ else none
theorem strings_TrimSuffix.calls (a0 a1 : ByteArray) (r : ByteArray) (w : World) (h : strings_TrimSuffix.f a0 a1 = some r) :
    Calls Tryd.prog 35 #[.string a0, .string a1] w fun e w' => e = .returned (.string r) ∧ Below w.heap.size w w' := by
 unfold strings_TrimSuffix.f at h
 by_cases c : a0.size ≤ 4294967280
 {
 rw [if_pos c] at h
 obtain rfl := Option.some.inj h
 refine (Tryd.strings_TrimSuffix a0 a1 w (by omega)).mono ?_
 rintro e w' ⟨rfl, rfl⟩
 exact ⟨rfl, Below.refl _ _⟩
 }
 · rw [if_neg c] at h; exact absurd h (by simp)
/-! ### strings_Cut: function 36 -/
def strings_Cut.f (a0 a1 : ByteArray) (a977_0 : Int) : Option (ByteArray × ByteArray × Bool) := if a0.size ≤ 4294967280 then some (⟨(Lib.cut a0.data.toList a1.data.toList).1.toArray⟩, ⟨(Lib.cut a0.data.toList a1.data.toList).2.1.toArray⟩, (Lib.cut a0.data.toList a1.data.toList).2.2) else none
theorem strings_Cut.calls (a0 a1 : ByteArray) (a977_0 : Int) (r1 r2 : ByteArray) (r3 : Bool) (w : World) (hx977 : w.heap[0]? = some (.cells #[.int .i64 a977_0] 3 (0, 0))) (h : strings_Cut.f a0 a1 a977_0 = some (r1, r2, r3)) :
    Calls Tryd.prog 36 #[.string a0, .string a1] w fun e w' => e = .returned (.tuple #[.string r1, .string r2, .bool r3]) ∧ Below w.heap.size w w' := by
 unfold strings_Cut.f at h
 by_cases c : a0.size ≤ 4294967280
 {
 rw [if_pos c] at h
 have h := Option.some.inj h
 obtain ⟨h1, h⟩ := Prod.mk.inj h
 obtain ⟨h2, h3⟩ := Prod.mk.inj h
 rw [← h1, ← h2, ← h3]
 have hm : w.cell? ⟨0, 0, none⟩ = some (.int .i64 a977_0) := by simp [World.cell?, hx977]
 refine (Tryd.strings_Cut a0 a1 a977_0 w (by omega) hm).mono ?_
 rintro e w' ⟨rfl, n, rfl⟩
 exact ⟨rfl, pw_below_drewN (Below.refl _ _) n⟩
 }
 · rw [if_neg c] at h; exact absurd h (by simp)
/-! ### impl_size_People: function 65 -/
def impl_size_People.f (l0 : List Int) : Option (Int) := some (l0.length : Int)
set_option maxHeartbeats 8000000 in
set_option maxRecDepth 100000 in
theorem impl_size_People.calls (A0 : Option Addr) (c0 : Nat) (l0 : List Int) (r : Int) (w : World) (hr0 : Kd.C (Kd.int .u16) w A0 l0.length l0) (hc0 : l0.length ≤ c0) (h : impl_size_People.f l0 = some r) :
    Calls Tryd.prog 65 #[.slice A0 l0.length c0] w fun e w' => e = .returned (.int .i64 r) ∧ Drawn0 w w' := by
 have HR0 := ak hr0
 have HC0 := ak hc0
 clear hr0 hc0
 have H : (some (l0.length : Int)) = some r := h
 clear h
 obtain rfl := Option.some.inj H
 go_enter Tryd.func65, Tryd.ntmps65
 go_wp2
 go_ret
 exact ⟨by first | rfl | (simp; done) | (simp [*]; done), by repeat (first | exact Drawn0.refl _ | apply Drawn0.step)⟩
/-! ### impl_everybody: function 86 -/
def impl_everybody.f (a0 : Int) : Option (Int) := if 0 ≤ a0 then (some (IntKind.u16.wrap ((shl .u16 1 a0) - 1))) else (none)
set_option maxHeartbeats 8000000 in
set_option maxRecDepth 100000 in
theorem impl_everybody.calls (a0 : Int) (r : Int) (w : World) (h : impl_everybody.f a0 = some r) :
    Calls Tryd.prog 86 #[.int .i64 a0] w fun e w' => e = .returned (.int .u16 r) ∧ Drawn0 w w' := by
 have H : (if 0 ≤ a0 then (some (IntKind.u16.wrap ((shl .u16 1 a0) - 1))) else (none)) = some r := h
 clear h
 by_cases c2 : 0 ≤ a0
 {
 rw [if_pos c2] at H
 have c2b0 := eq_true c2
 have c2b1 : decide (0 ≤ a0) = true := decide_eq_true c2
 clear c2
 obtain ⟨ji3, hji3⟩ : ∃ j_ : Int, (shl .u16 1 a0) = j_ := ⟨_, rfl⟩
 replace H : (some (IntKind.u16.wrap ((ji3) - 1))) = some r := by first | (rw [hji3] at H; exact H) | (simp only [hji3] at H ⊢; exact H)
 have hji3_ : (IntKind.u16.wrap (1 * 2 ^ min a0.toNat 16)) = ji3 := hji3
 have hji3z : a0 ≤ 16 → (IntKind.u16.wrap (1 * 2 ^ a0.toNat)) = ji3 := shl_small hji3
 have hji3u : (IntKind.u16.wrap (2 ^ min a0.toNat 16)) = ji3 := by have h_ := hji3_; rw [Int.one_mul] at h_; exact h_
 have hji3v : a0 ≤ 16 → (IntKind.u16.wrap (2 ^ a0.toNat)) = ji3 := fun hle_ => by have h_ := hji3z hle_; rw [Int.one_mul] at h_; exact h_
 obtain rfl := Option.some.inj H
 go_enter Tryd.func86, Tryd.ntmps86
 go_wp2
 go_ret
 exact ⟨by first | rfl | (simp; done) | (simp only [← hji3] <;> (first | rfl | simp)) | (simp [*]; done), by repeat (first | exact Drawn0.refl _ | apply Drawn0.step)⟩
 }
 · rw [if_neg c2] at H; exact absurd H (by simp)
/-! ### impl_Log_before: function 66 -/
def impl_Log_before.f (a0_0 : Int) (l0_1 : List Int) (l0_2 : List Int) (a1 : Int) : Option (Int) := if a1 = 0 then ((impl_everybody.f a0_0).bind fun t298 => (some t298)) else (if 0 ≤ (wrap64 (a1 - 1)) then (if (wrap64 (a1 - 1)) < (l0_1.length : Int) then (some (rd l0_1 (wrap64 (a1 - 1)))) else (none)) else (none))
set_option maxHeartbeats 8000000 in
set_option maxRecDepth 100000 in
theorem impl_Log_before.calls (a0_0 : Int) (A0_1 : Option Addr) (c0_1 : Nat) (l0_1 : List Int) (A0_2 : Option Addr) (c0_2 : Nat) (l0_2 : List Int) (a1 : Int) (r : Int) (w : World) (hr0_1 : Kd.C (Kd.int .u16) w A0_1 l0_1.length l0_1) (hc0_1 : l0_1.length ≤ c0_1) (hr0_2 : Kd.C (Kd.int .i16) w A0_2 l0_2.length l0_2) (hc0_2 : l0_2.length ≤ c0_2) (h : impl_Log_before.f a0_0 l0_1 l0_2 a1 = some r) :
    Calls Tryd.prog 66 #[.agg #[.int .i64 a0_0, .slice A0_1 l0_1.length c0_1, .slice A0_2 l0_2.length c0_2], .int .i64 a1] w fun e w' => e = .returned (.int .u16 r) ∧ Below w.heap.size w w' := by
 have hu39 := Tryd.underlying39
 have HR0_1 := ak hr0_1
 have HC0_1 := ak hc0_1
 clear hr0_1 hc0_1
 have HR0_2 := ak hr0_2
 have HC0_2 := ak hc0_2
 clear hr0_2 hc0_2
 have HB := ak (Below.refl w.heap.size w)
 have H : (if a1 = 0 then ((impl_everybody.f a0_0).bind fun t298 => (some t298)) else (if 0 ≤ (wrap64 (a1 - 1)) then (if (wrap64 (a1 - 1)) < (l0_1.length : Int) then (some (rd l0_1 (wrap64 (a1 - 1)))) else (none)) else (none))) = some r := h
 clear h
 by_cases c3 : a1 = 0
 {
 rw [if_pos c3] at H
 have c3b0 : (a1 == 0) = true := beq_iff_eq.mpr c3
 have c3b1 : (a1 != 0) = false := bne_eq_false_iff_eq.mpr c3
 clear c3
 replace H := Option.bind_eq_some_iff.mp H
 obtain ⟨t298, A40, H⟩ := H
 replace H : (some t298) = some r := H
 have A4 := ak A40
 clear A40
 obtain rfl := Option.some.inj H
 go_enter Tryd.func66, Tryd.ntmps66
 go_wp2_with (first | ((with_reducible refine gate_dst (N := 2) rfl ?_); refine box_event ?hg (N := 2) ?hd (cs := #[.int .i64 a0_0, .slice A0_1 l0_1.length c0_1, .slice A0_2 l0_2.length c0_2]) (t := 39) ?hr ?_; (case hd => rfl); (case hg => rfl); (case hr => first | (go_simp; done) | (go_simp; rfl)); intro gb297 hg w5 hbox hb; have n0_ := ak (below_step (zB HB.out) hb); have n1_ := ak (hbox); have n2_ := ak ((by rw [hg]; exact (below_size (zB HB.out)) : w.heap.size ≤ gb297)); have n3_ := ak ((by rw [hg]; exact (below_size (zB HB.out)) : w.heap.size ≤ gb297)); clear HB; have HB := n0_; have BK297 := n1_; have GW297 := n2_; have GE297 := n3_; clear n0_ n1_ n2_ n3_; clear hb hbox hg; have hcz6_0 : w5.cell? ⟨gb297, 0, none⟩ = some (.int .i64 a0_0) := (blk_cell BK297.out 0).trans rfl; have hcz6_1 : w5.cell? ⟨gb297, 1, none⟩ = some (.slice A0_1 l0_1.length c0_1) := (blk_cell BK297.out 1).trans rfl; have hcz6_2 : w5.cell? ⟨gb297, 2, none⟩ = some (.slice A0_2 l0_2.length c0_2) := (blk_cell BK297.out 2).trans rfl; have hfz6_0 := blk_frozen BK297.out 0; have hfz6_1 := blk_frozen BK297.out 1; have hfz6_2 := blk_frozen BK297.out 2) | ((with_reducible refine gate_callee (f := 86) rfl ?_); refine goesL_ (some 9) rfl rfl Tryd.func86 (by kernel_rfl) rfl #[.int .i64 a0_0] rfl (by (try simp only [List.map_toArray, List.map_cons, List.map_nil]); first | done | rfl | (simp only [List.length_drop, List.length_take]; rfl)) ?_; (with_reducible refine (impl_everybody.calls a0_0 t298 _ A4.out).mono ?_); rintro e w' ⟨rfl, ⟨nd, rfl⟩⟩; refine ⟨_, rfl, ?_⟩))
 go_ret
 exact ⟨by first | rfl | (simp [errW_none, errW_some] <;> rfl) | (simp [*, errW_none, errW_some] <;> rfl), by repeat (first | (with_reducible first | exact HB.out | apply below_alloc | apply pw_below_drewN | apply below_drew1 | refine below_set ?_ GE297.out) | exact HB.out)⟩
 }
 {
 rw [if_neg c3] at H
 have c3b0 : (a1 == 0) = false := beq_eq_false_iff_ne.mpr c3
 have c3b1 : (a1 != 0) = true := bne_iff_ne.mpr c3
 obtain ⟨ji7, hji7⟩ : ∃ j_ : Int, (wrap64 (a1 - 1)) = j_ := ⟨_, rfl⟩
 replace H : (if 0 ≤ (ji7) then (if (ji7) < (l0_1.length : Int) then (some (rd l0_1 (ji7))) else (none)) else (none)) = some r := by first | (rw [hji7] at H; exact H) | (simp only [hji7] at H ⊢; exact H)
 have hji7w : (IntKind.i64.wrap (a1 - 1)) = ji7 := (i64_w _).trans hji7
 by_cases c8 : 0 ≤ (ji7)
 {
 rw [if_pos c8] at H
 have c8b0 : decide (0 ≤ (ji7)) = true := decide_eq_true c8
 clear c8
 by_cases c9 : (ji7) < (l0_1.length : Int)
 {
 rw [if_pos c9] at H
 have c9b0 : decide ((ji7) < (l0_1.length : Int)) = true := decide_eq_true c9
 clear c9
 obtain rfl := Option.some.inj H
 go_enter Tryd.func66, Tryd.ntmps66
 go_wp2_with (first | ((with_reducible refine gate_dst (N := 2) rfl ?_); refine box_event ?hg (N := 2) ?hd (cs := #[.int .i64 a0_0, .slice A0_1 l0_1.length c0_1, .slice A0_2 l0_2.length c0_2]) (t := 39) ?hr ?_; (case hd => rfl); (case hg => rfl); (case hr => first | (go_simp; done) | (go_simp; rfl)); intro gb297 hg w10 hbox hb; have n0_ := ak (below_step (zB HB.out) hb); have n1_ := ak (hbox); have n2_ := ak ((by rw [hg]; exact (below_size (zB HB.out)) : w.heap.size ≤ gb297)); have n3_ := ak ((by rw [hg]; exact (below_size (zB HB.out)) : w.heap.size ≤ gb297)); clear HB; have HB := n0_; have BK297 := n1_; have GW297 := n2_; have GE297 := n3_; clear n0_ n1_ n2_ n3_; clear hb hbox hg; have hcz11_0 : w10.cell? ⟨gb297, 0, none⟩ = some (.int .i64 a0_0) := (blk_cell BK297.out 0).trans rfl; have hcz11_1 : w10.cell? ⟨gb297, 1, none⟩ = some (.slice A0_1 l0_1.length c0_1) := (blk_cell BK297.out 1).trans rfl; have hcz11_2 : w10.cell? ⟨gb297, 2, none⟩ = some (.slice A0_2 l0_2.length c0_2) := (blk_cell BK297.out 2).trans rfl; have hfz11_0 := blk_frozen BK297.out 0; have hfz11_1 := blk_frozen BK297.out 1; have hfz11_2 := blk_frozen BK297.out 2; have p299 : 0 ≤ ((ji7) : Int) := of_decide_eq_true (by first | (with_reducible assumption) | assumption); have q299 : (ji7) < (l0_1.length : Int) := of_decide_eq_true (by first | (with_reducible assumption) | assumption); obtain ⟨ad299, e299, hx299_0⟩ := Kd.at_int HR0_1.out (ji7) p299 q299; cases e299; replace hx299_0 := (HB.out.cell (World.block_lt_of_cell? w _ hx299_0)).trans hx299_0; replace p299 := eq_true p299; replace q299 := eq_true q299))
 go_ret
 exact ⟨by first | rfl | (simp [errW_none, errW_some] <;> rfl) | (simp only [← hji7]; first | rfl | (simp [errW_none, errW_some] <;> rfl)) | (simp [*, errW_none, errW_some] <;> rfl), by repeat (first | (with_reducible first | exact HB.out | apply below_alloc | apply pw_below_drewN | apply below_drew1 | refine below_set ?_ GE297.out) | exact HB.out)⟩
 }
 · rw [if_neg c9] at H; exact absurd H (by simp)
 }
 · rw [if_neg c8] at H; exact absurd H (by simp)
 }
end Go.Proofs.YtchnklikeimpiaaDoor.P
