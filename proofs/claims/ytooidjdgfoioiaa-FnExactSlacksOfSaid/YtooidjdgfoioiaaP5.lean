-- Printed by wip/print (my turned copy of the kit's print) out of the translation; Lean checks it.
import Derived.Test.YtooidjdgfoioiaaP0
import Derived.Test.YtooidjdgfoioiaaP3
import Derived.Test.YtooidjdgfoioiaaP4
namespace Go.Proofs.Ytooidjdgfoioiaa.P
open Go.RowKit Go.Proofs.YtooidjdgfoioiaaW.PrintWords Go.Proofs.YtooidjdgfoioiaaW.PrintLast Go.Proofs.YtooidjdgfoioiaaW.PrintMore
attribute [local go_sem] max2_int min2_int max_two min_two max_three min_three max_four min_four   -- for this text's walks alone
set_option linter.unusedVariables false
set_option linter.unusedSimpArgs false

/-! ### spec_l01Two: function 74 -/
def spec_l01Two.j0 : Nat → Int → Int → Int → Int → Int → Int → Int → Int → Int → Int → Int → Int → Int → Int → Int → Int → Int → Option (Int)
  | 0, _, _, _, _, _, _, _, _, _, _, _, _, _, _, _, _, _ => none
  | k + 1, x7, x1000, x1001, x1002, x1003, x1004, x1005, x1006, x1007, x1008, x1009, x1010, x1011, x140000, x140001, x141000, x141001 => if x7 = 0 then ((spec_l01Free.f x1000 x1001 x1002 x1003 x1004 x1005 x1006 x1007 x1008 x1009 x1010 x1011 x140000 x140001).bind fun t143 => (if t143 = true then ((spec_l01Free.f x1000 x1001 x1002 x1003 x1004 x1005 x1006 x1007 x1008 x1009 x1010 x1011 x141000 x141001).bind fun t144 => (if t144 = true then (some x7) else (some 4))) else (some 4))) else (some x7)
def spec_l01Two.f (k : Nat) (a0_0 : Int) (a0_1 : Int) (a0_2 : Int) (a0_3 : Int) (a0_4 : Int) (a0_5 : Int) (a0_6 : Int) (a0_7 : Int) (a0_8 : Int) (a0_9 : Int) (a0_10 : Int) (a0_11 : Int) (a1_0 : Int) (a1_1 : Int) (a2_0 : Int) (a2_1 : Int) : Option (Int) := (spec_l01Asked.f k a0_0 a0_1 a0_2 a0_3 a0_4 a0_5 a0_6 a0_7 a0_8 a0_9 a0_10 a0_11 a1_0 a1_1 true).bind fun t141 => (if t141 = 0 then ((spec_l01Asked.f k a0_0 a0_1 a0_2 a0_3 a0_4 a0_5 a0_6 a0_7 a0_8 a0_9 a0_10 a0_11 a2_0 a2_1 true).bind fun t142 => (spec_l01Two.j0 k t142 a0_0 a0_1 a0_2 a0_3 a0_4 a0_5 a0_6 a0_7 a0_8 a0_9 a0_10 a0_11 a1_0 a1_1 a2_0 a2_1)) else (spec_l01Two.j0 k t141 a0_0 a0_1 a0_2 a0_3 a0_4 a0_5 a0_6 a0_7 a0_8 a0_9 a0_10 a0_11 a1_0 a1_1 a2_0 a2_1))
theorem spec_l01Two.mono_l : ∀ k, (∀ y0 y1 y2 y3 y4 y5 y6 y7 y8 y9 y10 y11 y12 y13 y14 y15 y16, LeO (spec_l01Two.j0 k y0 y1 y2 y3 y4 y5 y6 y7 y8 y9 y10 y11 y12 y13 y14 y15 y16) (spec_l01Two.j0 (k + 1) y0 y1 y2 y3 y4 y5 y6 y7 y8 y9 y10 y11 y12 y13 y14 y15 y16))
  | 0 => fun _ _ _ _ _ _ _ _ _ _ _ _ _ _ _ _ _ r h => by simp [spec_l01Two.j0] at h
  | k + 1 => by
    have ih0 := spec_l01Two.mono_l k
    · intro y0 y1 y2 y3 y4 y5 y6 y7 y8 y9 y10 y11 y12 y13 y14 y15 y16
      unfold spec_l01Two.j0
      repeat' first
      | (with_reducible exact ih0 ..)
      | (with_reducible exact spec_l01Asked.mono ..)
      | (with_reducible exact LeO.refl ..)
      | (with_reducible exact LeO.none ..)
      | (with_reducible refine LeO.ite ?_ ?_)
      | (with_reducible refine LeO.bind ?_ (fun _ => ?_))
theorem spec_l01Two.mono : ∀ a0 a1 a2 a3 a4 a5 a6 a7 a8 a9 a10 a11 a12 a13 a14 a15 k, LeO (spec_l01Two.f k a0 a1 a2 a3 a4 a5 a6 a7 a8 a9 a10 a11 a12 a13 a14 a15) (spec_l01Two.f (k + 1) a0 a1 a2 a3 a4 a5 a6 a7 a8 a9 a10 a11 a12 a13 a14 a15) := by
  intro a0 a1 a2 a3 a4 a5 a6 a7 a8 a9 a10 a11 a12 a13 a14 a15 k
  have ih0 := spec_l01Two.mono_l k
  unfold spec_l01Two.f
  repeat' first
      | (with_reducible exact ih0 ..)
      | (with_reducible exact spec_l01Asked.mono ..)
      | (with_reducible exact LeO.refl ..)
      | (with_reducible exact LeO.none ..)
      | (with_reducible refine LeO.ite ?_ ?_)
      | (with_reducible refine LeO.bind ?_ (fun _ => ?_))
set_option maxHeartbeats 8000000 in
set_option maxRecDepth 100000 in
theorem spec_l01Two.calls (k : Nat) (b0 : Nat) (a0_0 : Int) (a0_1 : Int) (a0_2 : Int) (a0_3 : Int) (a0_4 : Int) (a0_5 : Int) (a0_6 : Int) (a0_7 : Int) (a0_8 : Int) (a0_9 : Int) (a0_10 : Int) (a0_11 : Int) (a1_0 : Int) (a1_1 : Int) (a2_0 : Int) (a2_1 : Int) (r : Int) (w : World) (hx0 : w.heap[b0]? = some (.cells #[.int .i8 a0_0, .int .i8 a0_1, .int .u16 a0_2, .int .u16 a0_3, .int .u16 a0_4, .int .u16 a0_5, .int .u16 a0_6, .int .u16 a0_7, .int .u16 a0_8, .int .u16 a0_9, .int .u16 a0_10, .int .u16 a0_11] 35 (0, 0))) (h : spec_l01Two.f k a0_0 a0_1 a0_2 a0_3 a0_4 a0_5 a0_6 a0_7 a0_8 a0_9 a0_10 a0_11 a1_0 a1_1 a2_0 a2_1 = some r) :
    Calls Try.prog 74 #[.pointer (some ⟨b0, 0, none⟩), .agg #[.int .i8 a1_0, .int .i8 a1_1], .agg #[.int .i8 a2_0, .int .i8 a2_1]] w fun e w' => e = .returned (.int .i64 r) ∧ Below w.heap.size w w' := by
 have hu62 := Try.underlying62
 have BK0 := ak hx0
 clear hx0
 have HB := ak (Below.refl w.heap.size w)
 have H := h
 unfold spec_l01Two.f at H
 clear h
 replace H := Option.bind_eq_some_iff.mp H
 obtain ⟨t141, A40, H⟩ := H
 have A4 := ak A40
 clear A40
 have HC5 := ak H
 clear H
 go_enter Try.func74, Try.ntmps74
 go_upto_if 12 with (first | ((with_reducible refine gate_dst (N := 4) rfl ?_); refine box_event ?hg (N := 4) ?hd (cs := #[.int .i8 a1_0, .int .i8 a1_1]) (t := 62) ?hr ?_; (case hd => rfl); (case hg => rfl); (case hr => first | (go_simp; done) | (go_simp; rfl)); intro gb139 hg w6 hbox hb; have n0_ := ak (blk_below (g := b0) (o := .cells #[.int .i8 a0_0, .int .i8 a0_1, .int .u16 a0_2, .int .u16 a0_3, .int .u16 a0_4, .int .u16 a0_5, .int .u16 a0_6, .int .u16 a0_7, .int .u16 a0_8, .int .u16 a0_9, .int .u16 a0_10, .int .u16 a0_11] 35 (0, 0)) (zK BK0.out) hb); have n1_ := ak (below_step (zB HB.out) hb); have n2_ := ak (hbox); have n3_ := gS HB hg; have n4_ := gS HB hg; have n5_ := nL BK0 hg; have n6_ := nG BK0 hg; clear BK0 HB; have BK0 := n0_; have HB := n1_; have BK139 := n2_; have GW139 := n3_; have GE139 := n4_; have NB0_139 := n5_; have NB139_0 := n6_; clear n0_ n1_ n2_ n3_ n4_ n5_ n6_; clear hb hbox hg) | ((with_reducible refine gate_dst (N := 5) rfl ?_); refine box_event ?hg (N := 5) ?hd (cs := #[.int .i8 a2_0, .int .i8 a2_1]) (t := 62) ?hr ?_; (case hd => rfl); (case hg => rfl); (case hr => first | (go_simp; done) | (go_simp; rfl)); intro gb140 hg w7 hbox hb; have n0_ := ak (blk_below (g := b0) (o := .cells #[.int .i8 a0_0, .int .i8 a0_1, .int .u16 a0_2, .int .u16 a0_3, .int .u16 a0_4, .int .u16 a0_5, .int .u16 a0_6, .int .u16 a0_7, .int .u16 a0_8, .int .u16 a0_9, .int .u16 a0_10, .int .u16 a0_11] 35 (0, 0)) (zK BK0.out) hb); have n1_ := ak (blk_below (g := gb139) (o := .cells #[.int .i8 a1_0, .int .i8 a1_1] 62 (0, 0)) (zK BK139.out) hb); have n2_ := ak (below_step (zBG HB.out GE139.out) hb); have n3_ := ak (hbox); have n4_ := gS1 HB GE139 hg; have n5_ := gS1 HB GE139 hg; have n6_ := nL BK0 hg; have n7_ := nG BK0 hg; have n8_ := nL BK139 hg; have n9_ := nG BK139 hg; clear BK0 BK139 HB; have BK0 := n0_; have BK139 := n1_; have HB := n2_; have BK140 := n3_; have GW140 := n4_; have GE140 := n5_; have NB0_140 := n6_; have NB140_0 := n7_; have NB139_140 := n8_; have NB140_139 := n9_; clear n0_ n1_ n2_ n3_ n4_ n5_ n6_ n7_ n8_ n9_; clear hb hbox hg; have hnb8 := NB139_0.out; have hnc8 := NB0_139.out; have hnb9 := NB139_140.out; have hnc9 := NB140_139.out; have hcz10_0 : w7.cell? ⟨gb139, 0, none⟩ = some (.int .i8 a1_0) := (blk_cell BK139.out 0).trans rfl; have hcz10_1 : w7.cell? ⟨gb139, 1, none⟩ = some (.int .i8 a1_1) := (blk_cell BK139.out 1).trans rfl; have hfz10_0 := blk_frozen BK139.out 0; have hfz10_1 := blk_frozen BK139.out 1) | ((with_reducible refine gate_callee (f := 89) rfl ?_); refine goesL_ (some 10) rfl rfl Try.func89 (by kernel_rfl) rfl #[.pointer (some ⟨b0, 0, none⟩), .agg #[.int .i8 a1_0, .int .i8 a1_1], .bool true] rfl gl_ ?_; (with_reducible refine (spec_l01Asked.calls k b0 a0_0 a0_1 a0_2 a0_3 a0_4 a0_5 a0_6 a0_7 a0_8 a0_9 a0_10 a0_11 a1_0 a1_1 true t141 _ ?side1 A4.out).mono ?_); (case side1 => exact (zK BK0.out)); rintro e w11 ⟨rfl, hb⟩; refine ⟨_, rfl, ?_⟩; have n0_ := ak (blk_below (g := b0) (o := .cells #[.int .i8 a0_0, .int .i8 a0_1, .int .u16 a0_2, .int .u16 a0_3, .int .u16 a0_4, .int .u16 a0_5, .int .u16 a0_6, .int .u16 a0_7, .int .u16 a0_8, .int .u16 a0_9, .int .u16 a0_10, .int .u16 a0_11] 35 (0, 0)) (zK BK0.out) hb); have n1_ := ak (blk_below (g := gb139) (o := .cells #[.int .i8 a1_0, .int .i8 a1_1] 62 (0, 0)) (zK BK139.out) hb); have n2_ := ak (blk_below (g := gb140) (o := .cells #[.int .i8 a2_0, .int .i8 a2_1] 62 (0, 0)) (zK BK140.out) hb); have n3_ := ak (below_step (zH2 HB GE139 GE140) hb); clear BK0 BK139 BK140 HB; have BK0 := n0_; have BK139 := n1_; have BK140 := n2_; have HB := n3_; clear n0_ n1_ n2_ n3_; (try clear hb); (try clear hb2); (try clear hk); (try clear hi)))
 (try simp only [Act.put, zs, zz, zk])
 go_cut [7] (fun v7 wc => ∃ (kq : Nat) (x7_4 : Int) (x1000_4 : Int) (x1001_4 : Int) (x1002_4 : Int) (x1003_4 : Int) (x1004_4 : Int) (x1005_4 : Int) (x1006_4 : Int) (x1007_4 : Int) (x1008_4 : Int) (x1009_4 : Int) (x1010_4 : Int) (x1011_4 : Int), v7 = .int .i64 x7_4 ∧ Aside0 (spec_l01Two.j0 kq x7_4 x1000_4 x1001_4 x1002_4 x1003_4 x1004_4 x1005_4 x1006_4 x1007_4 x1008_4 x1009_4 x1010_4 x1011_4 a1_0 a1_1 a2_0 a2_1 = some r) ∧ Aside0 (kq ≤ k) ∧ Aside0 (wc.heap[b0]? = some (.cells #[.int .i8 x1000_4, .int .i8 x1001_4, .int .u16 x1002_4, .int .u16 x1003_4, .int .u16 x1004_4, .int .u16 x1005_4, .int .u16 x1006_4, .int .u16 x1007_4, .int .u16 x1008_4, .int .u16 x1009_4, .int .u16 x1010_4, .int .u16 x1011_4] 35 (0, 0))) ∧ Aside0 (wc.heap[gb139]? = some (.cells #[.int .i8 a1_0, .int .i8 a1_1] 62 (0, 0))) ∧ Aside0 (wc.heap[gb140]? = some (.cells #[.int .i8 a2_0, .int .i8 a2_1] 62 (0, 0))) ∧ Aside0 (Below w.heap.size w wc))
 case first => (
 have H := HC5.out
 clear HC5
 by_cases c12 : t141 = 0
 {
 rw [if_pos c12] at H
 have c12b0 : (t141 == 0) = true := beq_iff_eq.mpr c12
 have c12b1 : (t141 != 0) = false := bne_eq_false_iff_eq.mpr c12
 clear c12
 (first | rw [c12b0] | (simp only [i64_w, i32_w]; rw [c12b0]) | skip)
 replace H := Option.bind_eq_some_iff.mp H
 obtain ⟨t142, A130, H⟩ := H
 have A13 := ak A130
 clear A130
 have H' := ak H
 clear H
 have hnb14 := NB140_0.out
 have hnc14 := NB0_140.out
 have hnb15 := NB140_139.out
 have hnc15 := NB139_140.out
 have hcz16_0 : w11.cell? ⟨gb140, 0, none⟩ = some (.int .i8 a2_0) := (blk_cell BK140.out 0).trans rfl
 have hcz16_1 : w11.cell? ⟨gb140, 1, none⟩ = some (.int .i8 a2_1) := (blk_cell BK140.out 1).trans rfl
 have hfz16_0 := blk_frozen BK140.out 0
 have hfz16_1 := blk_frozen BK140.out 1
 go_wp2_with (first | ((with_reducible refine gate_callee (f := 89) rfl ?_); refine goesL_ (some 15) rfl rfl Try.func89 (by kernel_rfl) rfl #[.pointer (some ⟨b0, 0, none⟩), .agg #[.int .i8 a2_0, .int .i8 a2_1], .bool true] rfl gl_ ?_; (with_reducible refine (spec_l01Asked.calls k b0 a0_0 a0_1 a0_2 a0_3 a0_4 a0_5 a0_6 a0_7 a0_8 a0_9 a0_10 a0_11 a2_0 a2_1 true t142 _ ?side1 A13.out).mono ?_); (case side1 => exact (zK BK0.out)); rintro e w17 ⟨rfl, hb⟩; refine ⟨_, rfl, ?_⟩; replace BK0 := kK BK0 hb; replace BK139 := kK BK139 hb; replace BK140 := kK BK140 hb; replace HB := kB2 HB GE139 GE140 hb; (try clear hb)))
 go_meet
 case rel => exact ⟨_, (t142), (a0_0), (a0_1), (a0_2), (a0_3), (a0_4), (a0_5), (a0_6), (a0_7), (a0_8), (a0_9), (a0_10), (a0_11), (by first | rfl | (simp; done) | (simp [*]; done)), H', ⟨by first | omega | exact Nat.le_refl _⟩, ⟨(zK BK0.out)⟩, ⟨(zK BK139.out)⟩, ⟨(zK BK140.out)⟩, ⟨zH2 HB GE139 GE140⟩⟩
 }
 {
 rw [if_neg c12] at H
 have c12b0 : (t141 == 0) = false := beq_eq_false_iff_ne.mpr c12
 have c12b1 : (t141 != 0) = true := bne_iff_ne.mpr c12
 (first | rw [c12b0] | (simp only [i64_w, i32_w]; rw [c12b0]) | skip)
 have H' := ak H
 clear H
 go_wp2
 go_meet
 case rel => exact ⟨_, (t141), (a0_0), (a0_1), (a0_2), (a0_3), (a0_4), (a0_5), (a0_6), (a0_7), (a0_8), (a0_9), (a0_10), (a0_11), (by first | rfl | (simp; done) | (simp [*]; done)), H', ⟨by first | omega | exact Nat.le_refl _⟩, ⟨(zK BK0.out)⟩, ⟨(zK BK139.out)⟩, ⟨(zK BK140.out)⟩, ⟨zH2 HB GE139 GE140⟩⟩
 }
 )
 case rest => (
 clear HC5
 try clear hcz10_0
 try clear hcz10_1
 try clear hfz10_0
 try clear hfz10_1
 obtain ⟨kq, x7_4, x1000_4, x1001_4, x1002_4, x1003_4, x1004_4, x1005_4, x1006_4, x1007_4, x1008_4, x1009_4, x1010_4, x1011_4, rfl, HA, HJ4, BK0, BK139, BK140, HB⟩ := hcut
 cases kq with
 | zero => exact absurd HA.out (by simp [spec_l01Two.j0])
 | succ kj4 => (
 have H := HA.out
 clear HA
 simp only [spec_l01Two.j0] at H
 by_cases c18 : x7_4 = 0
 {
 rw [if_pos c18] at H
 have c18b0 : (x7_4 == 0) = true := beq_iff_eq.mpr c18
 have c18b1 : (x7_4 != 0) = false := bne_eq_false_iff_eq.mpr c18
 clear c18
 replace H := Option.bind_eq_some_iff.mp H
 obtain ⟨t143, A190, H⟩ := H
 have A19 := ak A190
 clear A190
 by_cases c20 : t143 = true
 {
 subst c20
 rw [if_pos rfl] at H
 replace H := Option.bind_eq_some_iff.mp H
 obtain ⟨t144, A210, H⟩ := H
 have A21 := ak A210
 clear A210
 by_cases c22 : t144 = true
 {
 subst c22
 rw [if_pos rfl] at H
 obtain rfl := Option.some.inj H
 have hnb23 := NB139_0.out
 have hnc23 := NB0_139.out
 have hnb24 := NB139_140.out
 have hnc24 := NB140_139.out
 have hcz25_0 : wc.cell? ⟨gb139, 0, none⟩ = some (.int .i8 a1_0) := (blk_cell BK139.out 0).trans rfl
 have hcz25_1 : wc.cell? ⟨gb139, 1, none⟩ = some (.int .i8 a1_1) := (blk_cell BK139.out 1).trans rfl
 have hfz25_0 := blk_frozen BK139.out 0
 have hfz25_1 := blk_frozen BK139.out 1
 go_wp2_with (first | (go_at_call 84; (with_reducible refine (spec_l01Free.calls b0 x1000_4 x1001_4 x1002_4 x1003_4 x1004_4 x1005_4 x1006_4 x1007_4 x1008_4 x1009_4 x1010_4 x1011_4 a1_0 a1_1 true _ ?side1 A19.out).mono ?_); (case side1 => exact (zK BK0.out)); rintro e w26 ⟨rfl, hb⟩; replace BK0 := kK BK0 hb; replace BK139 := kK BK139 hb; replace BK140 := kK BK140 hb; replace HB := kB2 HB GE139 GE140 hb; (try clear hb); have hnb27 := NB140_0.out; have hnc27 := NB0_140.out; obtain ⟨hcz28_0, hcz28_1, hfz28_0, hfz28_1⟩ := cz2 w26 BK140) | (go_at_call 84; (with_reducible refine (spec_l01Free.calls b0 x1000_4 x1001_4 x1002_4 x1003_4 x1004_4 x1005_4 x1006_4 x1007_4 x1008_4 x1009_4 x1010_4 x1011_4 a2_0 a2_1 true _ ?side1 A21.out).mono ?_); (case side1 => exact (zK BK0.out)); rintro e w29 ⟨rfl, hb⟩; replace BK0 := kK BK0 hb; replace BK139 := kK BK139 hb; replace BK140 := kK BK140 hb; replace HB := kB2 HB GE139 GE140 hb; (try clear hb)))
 go_ret
 exact ⟨by first | rfl | (simp [errW_none, errW_some] <;> rfl) | (simp [*, errW_none, errW_some] <;> rfl), zH2 HB GE139 GE140⟩
 }
 {
 replace c22 := Bool.eq_false_iff.mpr c22
 subst c22
 rw [if_neg (show ¬ (false = true) by decide)] at H
 obtain rfl := Option.some.inj H
 have hnb30 := NB139_0.out
 have hnc30 := NB0_139.out
 have hnb31 := NB139_140.out
 have hnc31 := NB140_139.out
 have hcz32_0 : wc.cell? ⟨gb139, 0, none⟩ = some (.int .i8 a1_0) := (blk_cell BK139.out 0).trans rfl
 have hcz32_1 : wc.cell? ⟨gb139, 1, none⟩ = some (.int .i8 a1_1) := (blk_cell BK139.out 1).trans rfl
 have hfz32_0 := blk_frozen BK139.out 0
 have hfz32_1 := blk_frozen BK139.out 1
 go_wp2_with (first | (go_at_call 84; (with_reducible refine (spec_l01Free.calls b0 x1000_4 x1001_4 x1002_4 x1003_4 x1004_4 x1005_4 x1006_4 x1007_4 x1008_4 x1009_4 x1010_4 x1011_4 a1_0 a1_1 true _ ?side1 A19.out).mono ?_); (case side1 => exact (zK BK0.out)); rintro e w33 ⟨rfl, hb⟩; replace BK0 := kK BK0 hb; replace BK139 := kK BK139 hb; replace BK140 := kK BK140 hb; replace HB := kB2 HB GE139 GE140 hb; (try clear hb); have hnb34 := NB140_0.out; have hnc34 := NB0_140.out; obtain ⟨hcz35_0, hcz35_1, hfz35_0, hfz35_1⟩ := cz2 w33 BK140) | (go_at_call 84; (with_reducible refine (spec_l01Free.calls b0 x1000_4 x1001_4 x1002_4 x1003_4 x1004_4 x1005_4 x1006_4 x1007_4 x1008_4 x1009_4 x1010_4 x1011_4 a2_0 a2_1 false _ ?side1 A21.out).mono ?_); (case side1 => exact (zK BK0.out)); rintro e w36 ⟨rfl, hb⟩; replace BK0 := kK BK0 hb; replace BK139 := kK BK139 hb; replace BK140 := kK BK140 hb; replace HB := kB2 HB GE139 GE140 hb; (try clear hb)))
 go_ret
 exact ⟨by first | rfl | (simp [errW_none, errW_some] <;> rfl) | (simp [*, errW_none, errW_some] <;> rfl), zH2 HB GE139 GE140⟩
 }
 }
 {
 replace c20 := Bool.eq_false_iff.mpr c20
 subst c20
 rw [if_neg (show ¬ (false = true) by decide)] at H
 obtain rfl := Option.some.inj H
 have hnb37 := NB139_0.out
 have hnc37 := NB0_139.out
 have hnb38 := NB139_140.out
 have hnc38 := NB140_139.out
 have hcz39_0 : wc.cell? ⟨gb139, 0, none⟩ = some (.int .i8 a1_0) := (blk_cell BK139.out 0).trans rfl
 have hcz39_1 : wc.cell? ⟨gb139, 1, none⟩ = some (.int .i8 a1_1) := (blk_cell BK139.out 1).trans rfl
 have hfz39_0 := blk_frozen BK139.out 0
 have hfz39_1 := blk_frozen BK139.out 1
 go_wp2_with (first | (go_at_call 84; (with_reducible refine (spec_l01Free.calls b0 x1000_4 x1001_4 x1002_4 x1003_4 x1004_4 x1005_4 x1006_4 x1007_4 x1008_4 x1009_4 x1010_4 x1011_4 a1_0 a1_1 false _ ?side1 A19.out).mono ?_); (case side1 => exact (zK BK0.out)); rintro e w40 ⟨rfl, hb⟩; replace BK0 := kK BK0 hb; replace BK139 := kK BK139 hb; replace BK140 := kK BK140 hb; replace HB := kB2 HB GE139 GE140 hb; (try clear hb)))
 go_ret
 exact ⟨by first | rfl | (simp [errW_none, errW_some] <;> rfl) | (simp [*, errW_none, errW_some] <;> rfl), zH2 HB GE139 GE140⟩
 }
 }
 {
 rw [if_neg c18] at H
 have c18b0 : (x7_4 == 0) = false := beq_eq_false_iff_ne.mpr c18
 have c18b1 : (x7_4 != 0) = true := bne_iff_ne.mpr c18
 obtain rfl := Option.some.inj H
 go_wp2
 go_ret
 exact ⟨by first | rfl | (simp [errW_none, errW_some] <;> rfl) | (simp [*, errW_none, errW_some] <;> rfl), zH2 HB GE139 GE140⟩
 }
 )
 )
/-! ### spec_l01Next: function 94 -/
def spec_l01Next.f (a0_0 : Int) (a0_1 : Int) (a1 : Int) : Option (Int × Int) := if a1 = 0 then (some (a0_0, IntKind.i8.wrap (a0_1 - 1))) else (if a1 = 1 then (some (IntKind.i8.wrap (a0_0 + 1), a0_1)) else (if a1 = 2 then (some (a0_0, IntKind.i8.wrap (a0_1 + 1))) else (if a1 = 3 then (some (IntKind.i8.wrap (a0_0 - 1), a0_1)) else (some (a0_0, a0_1)))))
set_option maxHeartbeats 8000000 in
set_option maxRecDepth 100000 in
theorem spec_l01Next.calls (a0_0 : Int) (a0_1 : Int) (a1 : Int) (r1 : Int) (r2 : Int) (w : World) (h : spec_l01Next.f a0_0 a0_1 a1 = some (r1, r2)) :
    Calls Try.prog 94 #[.agg #[.int .i8 a0_0, .int .i8 a0_1], .int .i64 a1] w fun e w' => e = .returned (.agg #[.int .i8 r1, .int .i8 r2]) ∧ Below w.heap.size w w' := by
 have hu62 := Try.underlying62
 have HB := ak (Below.refl w.heap.size w)
 have H := h
 unfold spec_l01Next.f at H
 clear h
 by_cases c3 : a1 = 0
 {
 rw [if_pos c3] at H
 have c3b0 : (a1 == 0) = true := beq_iff_eq.mpr c3
 have c3b1 : (a1 != 0) = false := bne_eq_false_iff_eq.mpr c3
 clear c3
 simp only [Option.some.injEq, Prod.mk.injEq] at H
 obtain ⟨rfl, rfl⟩ := H
 go_enter Try.func94, Try.ntmps94
 go_wp2_with (first | ((with_reducible refine gate_dst (N := 2) rfl ?_); refine box_event ?hg (N := 2) ?hd (cs := #[.int .i8 a0_0, .int .i8 a0_1]) (t := 62) ?hr ?_; (case hd => rfl); (case hg => rfl); (case hr => first | (go_simp; done) | (go_simp; rfl)); intro gb145 hg w4 hbox hb; have BK145 := ak (hbox); have GW145 := gS HB hg; have GE145 := gS HB hg; replace HB := kB HB hb; clear hb hbox hg) | ((with_reducible refine gate_dst (N := 4) rfl ?_); refine box_event ?hg (N := 4) ?hd (cs := #[.int .i8 0, .int .i8 0]) (t := 62) ?hr ?_; (case hd => rfl); (case hg => rfl); (case hr => first | (go_simp; done) | (go_simp; rfl)); intro gb146 hg w5 hbox hb; have BK146 := ak (hbox); have GW146 := gS1 HB GE145 hg; have GE146 := gS1 HB GE145 hg; have NB145_146 := nL BK145 hg; have NB146_145 := nG BK145 hg; replace BK145 := kK BK145 hb; replace HB := kB1 HB GE145 hb; clear hb hbox hg; have hnb6 := NB145_146.out; have hnc6 := NB146_145.out; obtain ⟨hcz7_0, hcz7_1, hfz7_0, hfz7_1⟩ := cz2 w5 BK145; obtain ⟨hcz8_0, hcz8_1, hfz8_0, hfz8_1⟩ := cz2 w5 BK146))
 refine bodyPost_ret (results_cell_row rfl _ _ gb146 62 #[.int .i8 a0_0, .int .i8 (IntKind.i8.wrap (a0_1 - 1))] (0, 0) _ rfl (by (with_reducible repeat (first | refine blk_drewN ?_ _ | refine blk_drew ?_ | refine blk_alloc ?_ _)); refine blk_put (cs := #[.int .i8 a0_0, .int .i8 0]) ?_ 1 _ rfl; (with_reducible repeat (first | refine blk_drewN ?_ _ | refine blk_drew ?_ | refine blk_alloc ?_ _)); refine blk_put (cs := #[.int .i8 0, .int .i8 0]) ?_ 0 _ rfl; (with_reducible repeat (first | refine blk_drewN ?_ _ | refine blk_drew ?_ | refine blk_alloc ?_ _)); refine blk_far ?_ NB146_145.out _; (with_reducible repeat (first | refine blk_drewN ?_ _ | refine blk_drew ?_ | refine blk_alloc ?_ _)); exact BK146.out) Try.underlying62 rfl (by kernel_rfl)) rfl ?_
 exact ⟨by first | rfl | (simp [errW_none, errW_some] <;> rfl) | (simp [*, errW_none, errW_some] <;> rfl), zH2 HB GE145 GE146⟩
 }
 {
 rw [if_neg c3] at H
 have c3b0 : (a1 == 0) = false := beq_eq_false_iff_ne.mpr c3
 have c3b1 : (a1 != 0) = true := bne_iff_ne.mpr c3
 by_cases c9 : a1 = 1
 {
 rw [if_pos c9] at H
 have c9b0 : (a1 == 1) = true := beq_iff_eq.mpr c9
 have c9b1 : (a1 != 1) = false := bne_eq_false_iff_eq.mpr c9
 clear c9
 simp only [Option.some.injEq, Prod.mk.injEq] at H
 obtain ⟨rfl, rfl⟩ := H
 go_enter Try.func94, Try.ntmps94
 go_wp2_with (first | ((with_reducible refine gate_dst (N := 2) rfl ?_); refine box_event ?hg (N := 2) ?hd (cs := #[.int .i8 a0_0, .int .i8 a0_1]) (t := 62) ?hr ?_; (case hd => rfl); (case hg => rfl); (case hr => first | (go_simp; done) | (go_simp; rfl)); intro gb145 hg w10 hbox hb; have BK145 := ak (hbox); have GW145 := gS HB hg; have GE145 := gS HB hg; replace HB := kB HB hb; clear hb hbox hg) | ((with_reducible refine gate_dst (N := 4) rfl ?_); refine box_event ?hg (N := 4) ?hd (cs := #[.int .i8 0, .int .i8 0]) (t := 62) ?hr ?_; (case hd => rfl); (case hg => rfl); (case hr => first | (go_simp; done) | (go_simp; rfl)); intro gb146 hg w11 hbox hb; have BK146 := ak (hbox); have GW146 := gS1 HB GE145 hg; have GE146 := gS1 HB GE145 hg; have NB145_146 := nL BK145 hg; have NB146_145 := nG BK145 hg; replace BK145 := kK BK145 hb; replace HB := kB1 HB GE145 hb; clear hb hbox hg; have hnb12 := NB145_146.out; have hnc12 := NB146_145.out; obtain ⟨hcz13_0, hcz13_1, hfz13_0, hfz13_1⟩ := cz2 w11 BK145; obtain ⟨hcz14_0, hcz14_1, hfz14_0, hfz14_1⟩ := cz2 w11 BK146))
 refine bodyPost_ret (results_cell_row rfl _ _ gb146 62 #[.int .i8 (IntKind.i8.wrap (a0_0 + 1)), .int .i8 a0_1] (0, 0) _ rfl (by (with_reducible repeat (first | refine blk_drewN ?_ _ | refine blk_drew ?_ | refine blk_alloc ?_ _)); refine blk_put (cs := #[.int .i8 (IntKind.i8.wrap (a0_0 + 1)), .int .i8 0]) ?_ 1 _ rfl; (with_reducible repeat (first | refine blk_drewN ?_ _ | refine blk_drew ?_ | refine blk_alloc ?_ _)); refine blk_put (cs := #[.int .i8 0, .int .i8 0]) ?_ 0 _ rfl; (with_reducible repeat (first | refine blk_drewN ?_ _ | refine blk_drew ?_ | refine blk_alloc ?_ _)); refine blk_far ?_ NB146_145.out _; (with_reducible repeat (first | refine blk_drewN ?_ _ | refine blk_drew ?_ | refine blk_alloc ?_ _)); exact BK146.out) Try.underlying62 rfl (by kernel_rfl)) rfl ?_
 exact ⟨by first | rfl | (simp [errW_none, errW_some] <;> rfl) | (simp [*, errW_none, errW_some] <;> rfl), zH2 HB GE145 GE146⟩
 }
 {
 rw [if_neg c9] at H
 have c9b0 : (a1 == 1) = false := beq_eq_false_iff_ne.mpr c9
 have c9b1 : (a1 != 1) = true := bne_iff_ne.mpr c9
 by_cases c15 : a1 = 2
 {
 rw [if_pos c15] at H
 have c15b0 : (a1 == 2) = true := beq_iff_eq.mpr c15
 have c15b1 : (a1 != 2) = false := bne_eq_false_iff_eq.mpr c15
 clear c15
 simp only [Option.some.injEq, Prod.mk.injEq] at H
 obtain ⟨rfl, rfl⟩ := H
 go_enter Try.func94, Try.ntmps94
 go_wp2_with (first | ((with_reducible refine gate_dst (N := 2) rfl ?_); refine box_event ?hg (N := 2) ?hd (cs := #[.int .i8 a0_0, .int .i8 a0_1]) (t := 62) ?hr ?_; (case hd => rfl); (case hg => rfl); (case hr => first | (go_simp; done) | (go_simp; rfl)); intro gb145 hg w16 hbox hb; have BK145 := ak (hbox); have GW145 := gS HB hg; have GE145 := gS HB hg; replace HB := kB HB hb; clear hb hbox hg) | ((with_reducible refine gate_dst (N := 4) rfl ?_); refine box_event ?hg (N := 4) ?hd (cs := #[.int .i8 0, .int .i8 0]) (t := 62) ?hr ?_; (case hd => rfl); (case hg => rfl); (case hr => first | (go_simp; done) | (go_simp; rfl)); intro gb146 hg w17 hbox hb; have BK146 := ak (hbox); have GW146 := gS1 HB GE145 hg; have GE146 := gS1 HB GE145 hg; have NB145_146 := nL BK145 hg; have NB146_145 := nG BK145 hg; replace BK145 := kK BK145 hb; replace HB := kB1 HB GE145 hb; clear hb hbox hg; have hnb18 := NB145_146.out; have hnc18 := NB146_145.out; obtain ⟨hcz19_0, hcz19_1, hfz19_0, hfz19_1⟩ := cz2 w17 BK145; obtain ⟨hcz20_0, hcz20_1, hfz20_0, hfz20_1⟩ := cz2 w17 BK146))
 refine bodyPost_ret (results_cell_row rfl _ _ gb146 62 #[.int .i8 a0_0, .int .i8 (IntKind.i8.wrap (a0_1 + 1))] (0, 0) _ rfl (by (with_reducible repeat (first | refine blk_drewN ?_ _ | refine blk_drew ?_ | refine blk_alloc ?_ _)); refine blk_put (cs := #[.int .i8 a0_0, .int .i8 0]) ?_ 1 _ rfl; (with_reducible repeat (first | refine blk_drewN ?_ _ | refine blk_drew ?_ | refine blk_alloc ?_ _)); refine blk_put (cs := #[.int .i8 0, .int .i8 0]) ?_ 0 _ rfl; (with_reducible repeat (first | refine blk_drewN ?_ _ | refine blk_drew ?_ | refine blk_alloc ?_ _)); refine blk_far ?_ NB146_145.out _; (with_reducible repeat (first | refine blk_drewN ?_ _ | refine blk_drew ?_ | refine blk_alloc ?_ _)); exact BK146.out) Try.underlying62 rfl (by kernel_rfl)) rfl ?_
 exact ⟨by first | rfl | (simp [errW_none, errW_some] <;> rfl) | (simp [*, errW_none, errW_some] <;> rfl), zH2 HB GE145 GE146⟩
 }
 {
 rw [if_neg c15] at H
 have c15b0 : (a1 == 2) = false := beq_eq_false_iff_ne.mpr c15
 have c15b1 : (a1 != 2) = true := bne_iff_ne.mpr c15
 by_cases c21 : a1 = 3
 {
 rw [if_pos c21] at H
 have c21b0 : (a1 == 3) = true := beq_iff_eq.mpr c21
 have c21b1 : (a1 != 3) = false := bne_eq_false_iff_eq.mpr c21
 clear c21
 simp only [Option.some.injEq, Prod.mk.injEq] at H
 obtain ⟨rfl, rfl⟩ := H
 go_enter Try.func94, Try.ntmps94
 go_wp2_with (first | ((with_reducible refine gate_dst (N := 2) rfl ?_); refine box_event ?hg (N := 2) ?hd (cs := #[.int .i8 a0_0, .int .i8 a0_1]) (t := 62) ?hr ?_; (case hd => rfl); (case hg => rfl); (case hr => first | (go_simp; done) | (go_simp; rfl)); intro gb145 hg w22 hbox hb; have BK145 := ak (hbox); have GW145 := gS HB hg; have GE145 := gS HB hg; replace HB := kB HB hb; clear hb hbox hg) | ((with_reducible refine gate_dst (N := 4) rfl ?_); refine box_event ?hg (N := 4) ?hd (cs := #[.int .i8 0, .int .i8 0]) (t := 62) ?hr ?_; (case hd => rfl); (case hg => rfl); (case hr => first | (go_simp; done) | (go_simp; rfl)); intro gb146 hg w23 hbox hb; have BK146 := ak (hbox); have GW146 := gS1 HB GE145 hg; have GE146 := gS1 HB GE145 hg; have NB145_146 := nL BK145 hg; have NB146_145 := nG BK145 hg; replace BK145 := kK BK145 hb; replace HB := kB1 HB GE145 hb; clear hb hbox hg; have hnb24 := NB145_146.out; have hnc24 := NB146_145.out; obtain ⟨hcz25_0, hcz25_1, hfz25_0, hfz25_1⟩ := cz2 w23 BK145; obtain ⟨hcz26_0, hcz26_1, hfz26_0, hfz26_1⟩ := cz2 w23 BK146))
 refine bodyPost_ret (results_cell_row rfl _ _ gb146 62 #[.int .i8 (IntKind.i8.wrap (a0_0 - 1)), .int .i8 a0_1] (0, 0) _ rfl (by (with_reducible repeat (first | refine blk_drewN ?_ _ | refine blk_drew ?_ | refine blk_alloc ?_ _)); refine blk_put (cs := #[.int .i8 (IntKind.i8.wrap (a0_0 - 1)), .int .i8 0]) ?_ 1 _ rfl; (with_reducible repeat (first | refine blk_drewN ?_ _ | refine blk_drew ?_ | refine blk_alloc ?_ _)); refine blk_put (cs := #[.int .i8 0, .int .i8 0]) ?_ 0 _ rfl; (with_reducible repeat (first | refine blk_drewN ?_ _ | refine blk_drew ?_ | refine blk_alloc ?_ _)); refine blk_far ?_ NB146_145.out _; (with_reducible repeat (first | refine blk_drewN ?_ _ | refine blk_drew ?_ | refine blk_alloc ?_ _)); exact BK146.out) Try.underlying62 rfl (by kernel_rfl)) rfl ?_
 exact ⟨by first | rfl | (simp [errW_none, errW_some] <;> rfl) | (simp [*, errW_none, errW_some] <;> rfl), zH2 HB GE145 GE146⟩
 }
 {
 rw [if_neg c21] at H
 have c21b0 : (a1 == 3) = false := beq_eq_false_iff_ne.mpr c21
 have c21b1 : (a1 != 3) = true := bne_iff_ne.mpr c21
 simp only [Option.some.injEq, Prod.mk.injEq] at H
 obtain ⟨rfl, rfl⟩ := H
 go_enter Try.func94, Try.ntmps94
 go_wp2_with (first | ((with_reducible refine gate_dst (N := 2) rfl ?_); refine box_event ?hg (N := 2) ?hd (cs := #[.int .i8 a0_0, .int .i8 a0_1]) (t := 62) ?hr ?_; (case hd => rfl); (case hg => rfl); (case hr => first | (go_simp; done) | (go_simp; rfl)); intro gb145 hg w27 hbox hb; have BK145 := ak (hbox); have GW145 := gS HB hg; have GE145 := gS HB hg; replace HB := kB HB hb; clear hb hbox hg) | ((with_reducible refine gate_dst (N := 4) rfl ?_); refine box_event ?hg (N := 4) ?hd (cs := #[.int .i8 0, .int .i8 0]) (t := 62) ?hr ?_; (case hd => rfl); (case hg => rfl); (case hr => first | (go_simp; done) | (go_simp; rfl)); intro gb146 hg w28 hbox hb; have BK146 := ak (hbox); have GW146 := gS1 HB GE145 hg; have GE146 := gS1 HB GE145 hg; have NB145_146 := nL BK145 hg; have NB146_145 := nG BK145 hg; replace BK145 := kK BK145 hb; replace HB := kB1 HB GE145 hb; clear hb hbox hg; have hnb29 := NB145_146.out; have hnc29 := NB146_145.out; obtain ⟨hcz30_0, hcz30_1, hfz30_0, hfz30_1⟩ := cz2 w28 BK145; obtain ⟨hcz31_0, hcz31_1, hfz31_0, hfz31_1⟩ := cz2 w28 BK146))
 refine bodyPost_ret (results_cell_row rfl _ _ gb146 62 #[.int .i8 a0_0, .int .i8 a0_1] (0, 0) _ rfl (by (with_reducible repeat (first | refine blk_drewN ?_ _ | refine blk_drew ?_ | refine blk_alloc ?_ _)); refine blk_put (cs := #[.int .i8 a0_0, .int .i8 0]) ?_ 1 _ rfl; (with_reducible repeat (first | refine blk_drewN ?_ _ | refine blk_drew ?_ | refine blk_alloc ?_ _)); refine blk_put (cs := #[.int .i8 0, .int .i8 0]) ?_ 0 _ rfl; (with_reducible repeat (first | refine blk_drewN ?_ _ | refine blk_drew ?_ | refine blk_alloc ?_ _)); exact BK146.out) Try.underlying62 rfl (by kernel_rfl)) rfl ?_
 exact ⟨by first | rfl | (simp [errW_none, errW_some] <;> rfl) | (simp [*, errW_none, errW_some] <;> rfl), zH2 HB GE145 GE146⟩
 }
 }
 }
 }
/-! ### spec_l01Beside: function 86 -/
def spec_l01Beside.l0 : Nat → List (S62) → Int → Int → Int → Int → Int → Int → Int → Int → Int → Int → Int → Int → Int → Int → Int → Option ((List (S62)))
  | 0, _, _, _, _, _, _, _, _, _, _, _, _, _, _, _, _ => none
  | k + 1, x5, x6, x1000, x1001, x1002, x1003, x1004, x1005, x1006, x1007, x1008, x1009, x1010, x1011, x148000, x148001 => if x6 < 4 then ((spec_l01Next.f x148000 x148001 x6).bind fun bt151 => ((spec_l01Free.f x1000 x1001 x1002 x1003 x1004 x1005 x1006 x1007 x1008 x1009 x1010 x1011 bt151.1 bt151.2).bind fun t154 => (if t154 = true then (if x5.length < 70368744177664 then (spec_l01Beside.l0 k (x5 ++ [(⟨bt151.1, bt151.2⟩ : S62)]) (wrap64 (x6 + 1)) x1000 x1001 x1002 x1003 x1004 x1005 x1006 x1007 x1008 x1009 x1010 x1011 x148000 x148001) else (none)) else (spec_l01Beside.l0 k x5 (wrap64 (x6 + 1)) x1000 x1001 x1002 x1003 x1004 x1005 x1006 x1007 x1008 x1009 x1010 x1011 x148000 x148001)))) else (some x5)
def spec_l01Beside.f (k : Nat) (a0_0 : Int) (a0_1 : Int) (a0_2 : Int) (a0_3 : Int) (a0_4 : Int) (a0_5 : Int) (a0_6 : Int) (a0_7 : Int) (a0_8 : Int) (a0_9 : Int) (a0_10 : Int) (a0_11 : Int) (a1_0 : Int) (a1_1 : Int) : Option ((List (S62))) := spec_l01Beside.l0 k (([] : List (S62))) 0 a0_0 a0_1 a0_2 a0_3 a0_4 a0_5 a0_6 a0_7 a0_8 a0_9 a0_10 a0_11 a1_0 a1_1
theorem spec_l01Beside.mono_l : ∀ k, (∀ y0 y1 y2 y3 y4 y5 y6 y7 y8 y9 y10 y11 y12 y13 y14 y15, LeO (spec_l01Beside.l0 k y0 y1 y2 y3 y4 y5 y6 y7 y8 y9 y10 y11 y12 y13 y14 y15) (spec_l01Beside.l0 (k + 1) y0 y1 y2 y3 y4 y5 y6 y7 y8 y9 y10 y11 y12 y13 y14 y15))
  | 0 => fun _ _ _ _ _ _ _ _ _ _ _ _ _ _ _ _ r h => by simp [spec_l01Beside.l0] at h
  | k + 1 => by
    have ih0 := spec_l01Beside.mono_l k
    · intro y0 y1 y2 y3 y4 y5 y6 y7 y8 y9 y10 y11 y12 y13 y14 y15
      unfold spec_l01Beside.l0
      repeat' first
      | (with_reducible exact ih0 ..)
      | (with_reducible exact LeO.refl ..)
      | (with_reducible exact LeO.none ..)
      | (with_reducible refine LeO.ite ?_ ?_)
      | (with_reducible refine LeO.bind ?_ (fun _ => ?_))
theorem spec_l01Beside.mono : ∀ a0 a1 a2 a3 a4 a5 a6 a7 a8 a9 a10 a11 a12 a13 k, LeO (spec_l01Beside.f k a0 a1 a2 a3 a4 a5 a6 a7 a8 a9 a10 a11 a12 a13) (spec_l01Beside.f (k + 1) a0 a1 a2 a3 a4 a5 a6 a7 a8 a9 a10 a11 a12 a13) := by
  intro a0 a1 a2 a3 a4 a5 a6 a7 a8 a9 a10 a11 a12 a13 k
  have ih0 := spec_l01Beside.mono_l k
  unfold spec_l01Beside.f
  repeat' first
      | (with_reducible exact ih0 ..)
      | (with_reducible exact LeO.refl ..)
      | (with_reducible exact LeO.none ..)
      | (with_reducible refine LeO.ite ?_ ?_)
      | (with_reducible refine LeO.bind ?_ (fun _ => ?_))
set_option maxHeartbeats 8000000 in
set_option maxRecDepth 100000 in
theorem spec_l01Beside.calls (k : Nat) (b0 : Nat) (a0_0 : Int) (a0_1 : Int) (a0_2 : Int) (a0_3 : Int) (a0_4 : Int) (a0_5 : Int) (a0_6 : Int) (a0_7 : Int) (a0_8 : Int) (a0_9 : Int) (a0_10 : Int) (a0_11 : Int) (a1_0 : Int) (a1_1 : Int) (r : List (S62)) (w : World) (hx0 : w.heap[b0]? = some (.cells #[.int .i8 a0_0, .int .i8 a0_1, .int .u16 a0_2, .int .u16 a0_3, .int .u16 a0_4, .int .u16 a0_5, .int .u16 a0_6, .int .u16 a0_7, .int .u16 a0_8, .int .u16 a0_9, .int .u16 a0_10, .int .u16 a0_11] 35 (0, 0))) (h : spec_l01Beside.f k a0_0 a0_1 a0_2 a0_3 a0_4 a0_5 a0_6 a0_7 a0_8 a0_9 a0_10 a0_11 a1_0 a1_1 = some r) :
    Calls Try.prog 86 #[.pointer (some ⟨b0, 0, none⟩), .agg #[.int .i8 a1_0, .int .i8 a1_1]] w fun e w' => ∃ v0_ : Value, e = .returned (v0_) ∧ Kd.R k62 62 w' w.heap.size (fun _ => True) v0_ r ∧ Below w.heap.size w w' := by
 have hu62 := Try.underlying62
 have BK0 := ak hx0
 clear hx0
 have HB := ak (Below.refl w.heap.size w)
 have H := h
 unfold spec_l01Beside.f at H
 clear h
 obtain ⟨y148, hy148⟩ : ∃ y_ : List (S62), y_ = (([] : List (S62))) := ⟨_, rfl⟩
 replace H : (spec_l01Beside.l0 k y148 0 a0_0 a0_1 a0_2 a0_3 a0_4 a0_5 a0_6 a0_7 a0_8 a0_9 a0_10 a0_11 a1_0 a1_1) = some r := by first | (rw [hy148]; with_reducible exact H) | (have H2_ := (Option.bind_some _ _).symm.trans H; rw [hy148]; with_reducible exact H2_) | (have H2_ := (Option.bind_some _ _).symm.trans H; with_reducible exact H2_) | with_reducible exact H | (rw [hy148]; exact H) | exact H
 have Ny148 := ak hy148
 clear hy148
 have H' := ak H
 clear H
 go_enter Try.func86, Try.ntmps86
 go_wp2_with (first | ((with_reducible refine gate_dst (N := 3) rfl ?_); refine box_event ?hg (N := 3) ?hd (cs := #[.int .i8 a1_0, .int .i8 a1_1]) (t := 62) ?hr ?_; (case hd => rfl); (case hg => rfl); (case hr => first | (go_simp; done) | (go_simp; rfl)); intro gb147 hg w3 hbox hb; have BK147 := ak (hbox); have GW147 := gS HB hg; have GE147 := gS HB hg; have NB0_147 := nL BK0 hg; have NB147_0 := nG BK0 hg; replace BK0 := kK BK0 hb; replace HB := kB HB hb; clear hb hbox hg) | ((with_reducible refine gate_dst (N := 8) rfl ?_); refine Kd.R_lit k62 _ 62 ?hg (N := 8) ?hd (xs := ([] : List (S62))) (inner := []) (ok := fun _ => True) (okp := fun _ => True) ?hr ?hp (fun _ hk => hk) trivial (Below.refl _ _) (Nat.le_refl _) (by simp) ?_; (case hd => rfl); (case hg => rfl); (case hr => first | (go_simp; done) | (go_simp; rfl)); (case hp => exact (Reps.none _ _)); intro v149 w4 ho5 hb hg_ hnew_; clear hg_ hnew_; (first | rw [← Ny148.out] at ho5 | (simp only [Int.reduceToNat] at ho5; rw [← Ny148.out] at ho5)); have HO150 := ak (Kd.R_lower (Kd.R_newB ho5 (g := gb147) (o := .cells #[.int .i8 a1_0, .int .i8 a1_1] 62 (0, 0)) (zK BK147.out)) (below_size (zBG HB.out GE147.out))); replace BK0 := kK BK0 hb; replace BK147 := kK BK147 hb; replace HB := kB1 HB GE147 hb; clear hb ho5))
 go_loopg [5, 6] k (fun kq v5 v6 w' => ∃ (x5_1 : List (S62)) (x6_1 : Int) (x1000_1 : Int) (x1001_1 : Int) (x1002_1 : Int) (x1003_1 : Int) (x1004_1 : Int) (x1005_1 : Int) (x1006_1 : Int) (x1007_1 : Int) (x1008_1 : Int) (x1009_1 : Int) (x1010_1 : Int) (x1011_1 : Int), v6 = .int .i64 x6_1 ∧ Aside0 (spec_l01Beside.l0 kq x5_1 x6_1 x1000_1 x1001_1 x1002_1 x1003_1 x1004_1 x1005_1 x1006_1 x1007_1 x1008_1 x1009_1 x1010_1 x1011_1 a1_0 a1_1 = some r) ∧ Aside0 (kq ≤ k) ∧ Aside0 (Kd.R k62 62 w' w.heap.size (fun k_ => k_ ≠ gb147) v5 x5_1) ∧ Aside0 (w'.heap[b0]? = some (.cells #[.int .i8 x1000_1, .int .i8 x1001_1, .int .u16 x1002_1, .int .u16 x1003_1, .int .u16 x1004_1, .int .u16 x1005_1, .int .u16 x1006_1, .int .u16 x1007_1, .int .u16 x1008_1, .int .u16 x1009_1, .int .u16 x1010_1, .int .u16 x1011_1] 35 (0, 0))) ∧ Aside0 (w'.heap[gb147]? = some (.cells #[.int .i8 a1_0, .int .i8 a1_1] 62 (0, 0))) ∧ Aside0 (Below w.heap.size w w'))
 case atStart => exact ⟨(y148), (0), (a0_0), (a0_1), (a0_2), (a0_3), (a0_4), (a0_5), (a0_6), (a0_7), (a0_8), (a0_9), (a0_10), (a0_11), (by first | rfl | (simp; done) | (simp [*]; done)), H', ⟨Nat.le_refl _⟩, ⟨by (with_reducible repeat (first | apply Kd.R_alloc | apply Kd.R_drewN | apply Kd.R_drew)); exact Kd.R_mono HO150.out (fun _ hk => hk.2)⟩, ⟨(zK BK0.out)⟩, ⟨(zK BK147.out)⟩, ⟨zBG HB.out GE147.out⟩⟩
 case round => (
 clear H'
 obtain ⟨x5_1, x6_1, x1000_1, x1001_1, x1002_1, x1003_1, x1004_1, x1005_1, x1006_1, x1007_1, x1008_1, x1009_1, x1010_1, x1011_1, rfl, HA, HK1, HO_5, BK0, BK147, HB⟩ := hrel
 cases gk with
 | zero => exact absurd HA.out (by simp [spec_l01Beside.l0])
 | succ k1 => (
 have H := HA.out
 clear HA
 simp only [spec_l01Beside.l0] at H
 by_cases c6 : x6_1 < 4
 {
 rw [if_pos c6] at H
 have c6b0 : decide (x6_1 < 4) = true := decide_eq_true c6
 clear c6
 replace H := Option.bind_eq_some_iff.mp H
 obtain ⟨⟨t151, t152⟩, A70, H⟩ := H
 have A7 := ak A70
 clear A70
 replace H := Option.bind_eq_some_iff.mp H
 obtain ⟨t154, A80, H⟩ := H
 have A8 := ak A80
 clear A80
 by_cases c9 : t154 = true
 {
 subst c9
 rw [if_pos rfl] at H
 by_cases c10 : x5_1.length < 70368744177664
 {
 rw [if_pos c10] at H
 have LMc10 := ak c10
 clear c10
 obtain ⟨y155, hy155⟩ : ∃ y_ : List (S62), y_ = (x5_1 ++ [(⟨t151, t152⟩ : S62)]) := ⟨_, rfl⟩
 replace H : (spec_l01Beside.l0 k1 y155 (wrap64 (x6_1 + 1)) x1000_1 x1001_1 x1002_1 x1003_1 x1004_1 x1005_1 x1006_1 x1007_1 x1008_1 x1009_1 x1010_1 x1011_1 a1_0 a1_1) = some r := by first | (rw [hy155]; with_reducible exact H) | (have H2_ := (Option.bind_some _ _).symm.trans H; rw [hy155]; with_reducible exact H2_) | (have H2_ := (Option.bind_some _ _).symm.trans H; with_reducible exact H2_) | with_reducible exact H | (rw [hy155]; exact H) | exact H
 have Ny155 := ak hy155
 clear hy155
 have H' := ak H
 clear H
 have hnb11 := NB147_0.out
 have hnc11 := NB0_147.out
 have hcz12_0 : wr.cell? ⟨gb147, 0, none⟩ = some (.int .i8 a1_0) := (blk_cell BK147.out 0).trans rfl
 have hcz12_1 : wr.cell? ⟨gb147, 1, none⟩ = some (.int .i8 a1_1) := (blk_cell BK147.out 1).trans rfl
 have hfz12_0 := blk_frozen BK147.out 0
 have hfz12_1 := blk_frozen BK147.out 1
 go_wp2_with (first | ((with_reducible refine gate_callee (f := 94) rfl ?_); refine goesL_ (some 15) rfl rfl Try.func94 (by kernel_rfl) rfl #[.agg #[.int .i8 a1_0, .int .i8 a1_1], .int .i64 x6_1] rfl gl_ ?_; (with_reducible refine (spec_l01Next.calls a1_0 a1_1 x6_1 t151 t152 _ A7.out).mono ?_); rintro e w13 ⟨rfl, hb⟩; refine ⟨_, rfl, ?_⟩; replace HO_5 := kR HO_5 hb; replace BK0 := kK BK0 hb; replace BK147 := kK BK147 hb; replace HB := kB1 HB GE147 hb; (try clear hb)) | ((with_reducible refine gate_dst (N := 7) rfl ?_); refine box_event ?hg (N := 7) ?hd (cs := #[.int .i8 0, .int .i8 0]) (t := 62) ?hr ?_; (case hd => rfl); (case hg => rfl); (case hr => first | (go_simp; done) | (go_simp; rfl)); intro gb153 hg w14 hbox hb; have BK153 := ak (hbox); have GW153 := gS1 HB GE147 hg; have GE153 := gS1 HB GE147 hg; have NB0_153 := nL BK0 hg; have NB153_0 := nG BK0 hg; have NB147_153 := nL BK147 hg; have NB153_147 := nG BK147 hg; replace HO_5 := ak (Kd.R_below (Kd.R_elderB (zR HO_5.out) gb153 (Nat.le_of_eq hg.symm)) hb); replace BK0 := kK BK0 hb; replace BK147 := kK BK147 hb; replace HB := kB1 HB GE147 hb; clear hb hbox hg; have hnb15 := NB153_0.out; have hnc15 := NB0_153.out; have hnb16 := NB153_147.out; have hnc16 := NB147_153.out; obtain ⟨hcz17_0, hcz17_1, hfz17_0, hfz17_1⟩ := cz2 w14 BK153) | ((with_reducible refine gate_callee (f := 84) rfl ?_); refine goesL_ (some 18) rfl rfl Try.func84 (by kernel_rfl) rfl #[.pointer (some ⟨b0, 0, none⟩), .agg #[.int .i8 t151, .int .i8 t152]] rfl gl_ ?_; (with_reducible refine (spec_l01Free.calls b0 x1000_1 x1001_1 x1002_1 x1003_1 x1004_1 x1005_1 x1006_1 x1007_1 x1008_1 x1009_1 x1010_1 x1011_1 t151 t152 true _ ?side1 A8.out).mono ?_); (case side1 => exact (by first | exact BK0.out | ((with_reducible repeat (first | refine blk_drewN ?_ _ | refine blk_drew ?_ | refine blk_alloc ?_ _)); refine blk_far ?_ NB0_153.out _; (with_reducible repeat (first | refine blk_drewN ?_ _ | refine blk_drew ?_ | refine blk_alloc ?_ _)); refine blk_far ?_ NB0_153.out _; (with_reducible repeat (first | refine blk_drewN ?_ _ | refine blk_drew ?_ | refine blk_alloc ?_ _)); exact BK0.out))); rintro e w18 ⟨rfl, hb⟩; refine ⟨_, rfl, ?_⟩; replace HO_5 := ak (Kd.R_below (by (with_reducible repeat (first | apply Kd.R_alloc | apply Kd.R_drewN | apply Kd.R_drew)); exact (Kd.R_mono (Kd.R_far (p := ⟨gb153, 1, none⟩) (Kd.R_far (p := ⟨gb153, 0, none⟩) (Kd.R_mono HO_5.out (fun k_ hk => (⟨hk, hk.2⟩ : _ ∧ k_ ≠ gb153))) (fun _ hk => hk.2) (.int .i8 t151)) (fun _ hk => hk.2) (.int .i8 t152)) (fun _ h_ => h_.1))) hb); replace BK0 := ak (blk_below (g := b0) (o := .cells #[.int .i8 x1000_1, .int .i8 x1001_1, .int .u16 x1002_1, .int .u16 x1003_1, .int .u16 x1004_1, .int .u16 x1005_1, .int .u16 x1006_1, .int .u16 x1007_1, .int .u16 x1008_1, .int .u16 x1009_1, .int .u16 x1010_1, .int .u16 x1011_1] 35 (0, 0)) (by (with_reducible repeat (first | refine blk_drewN ?_ _ | refine blk_drew ?_ | refine blk_alloc ?_ _)); refine blk_far ?_ NB0_153.out _; (with_reducible repeat (first | refine blk_drewN ?_ _ | refine blk_drew ?_ | refine blk_alloc ?_ _)); refine blk_far ?_ NB0_153.out _; (with_reducible repeat (first | refine blk_drewN ?_ _ | refine blk_drew ?_ | refine blk_alloc ?_ _)); exact BK0.out) hb); replace BK147 := ak (blk_below (g := gb147) (o := .cells #[.int .i8 a1_0, .int .i8 a1_1] 62 (0, 0)) (by (with_reducible repeat (first | refine blk_drewN ?_ _ | refine blk_drew ?_ | refine blk_alloc ?_ _)); refine blk_far ?_ NB147_153.out _; (with_reducible repeat (first | refine blk_drewN ?_ _ | refine blk_drew ?_ | refine blk_alloc ?_ _)); refine blk_far ?_ NB147_153.out _; (with_reducible repeat (first | refine blk_drewN ?_ _ | refine blk_drew ?_ | refine blk_alloc ?_ _)); exact BK147.out) hb); replace BK153 := ak (blk_below (g := gb153) (o := .cells #[.int .i8 t151, .int .i8 t152] 62 (0, 0)) (by (with_reducible repeat (first | refine blk_drewN ?_ _ | refine blk_drew ?_ | refine blk_alloc ?_ _)); refine blk_put (cs := #[.int .i8 t151, .int .i8 0]) ?_ 1 _ rfl; (with_reducible repeat (first | refine blk_drewN ?_ _ | refine blk_drew ?_ | refine blk_alloc ?_ _)); refine blk_put (cs := #[.int .i8 0, .int .i8 0]) ?_ 0 _ rfl; (with_reducible repeat (first | refine blk_drewN ?_ _ | refine blk_drew ?_ | refine blk_alloc ?_ _)); exact BK153.out) hb); replace HB := kB2 HB GE147 GE153 hb; (try clear hb); (try clear hk); obtain ⟨hcz19_0, hcz19_1, hfz19_0, hfz19_1⟩ := cz2 w18 BK153) | ((with_reducible refine gate_builtin (b := .append) (xs := #[.tmp 19, .tmp 21]) rfl ?_); at_builtin; refine Kd.R_append k62 (w0 := w) w.heap.size rfl (.tmp 19) (.tmp 21) 37 62 (.agg #[(.int .i8 0), (.int .i8 0)]) 2 rfl Try.underlying37 info62 rfl (by decide) (by omega) u5 x5_1 (⟨t151, t152⟩ : S62) [.int .i8 t151, .int .i8 t152] (fun k_ => k_ ≠ gb147 ∧ k_ ≠ gb153) (fun _ => False) rfl rfl ?aP (fun _ hk => hk.elim) ?aF ?aO ?aB ?aS ?aL ?_; (case aP => exact k62_mkM _ _ _ (⟨t151, t152⟩ : S62)); (case aB => exact (zH2 HB GE147 GE153)); (case aF => exact (fun k_ hk => ⟨Kd.freshB (g := gb147) (o := .cells #[.int .i8 a1_0, .int .i8 a1_1] 62 (0, 0)) (zK BK147.out) k_ hk, Kd.freshB (g := gb153) (o := .cells #[.int .i8 t151, .int .i8 t152] 62 (0, 0)) (zK BK153.out) k_ hk⟩)); (case aO => exact (zR HO_5.out)); (case aS => exact (below_size (zH2 HB GE147 GE153))); (case aL => have := LMc10.out; omega); intro v156 w20 ho hb hg hat; rw [← Ny155.out] at ho; have HO157 := ak (ho); replace BK0 := ak (blk_grown (g := b0) (o := .cells #[.int .i8 x1000_1, .int .i8 x1001_1, .int .u16 x1002_1, .int .u16 x1003_1, .int .u16 x1004_1, .int .u16 x1005_1, .int .u16 x1006_1, .int .u16 x1007_1, .int .u16 x1008_1, .int .u16 x1009_1, .int .u16 x1010_1, .int .u16 x1011_1] 35 (0, 0)) (zK BK0.out) hg (Kd.R_ne HO_5.out BK0.out (by decide))); replace BK147 := ak (blk_grown (g := gb147) (o := .cells #[.int .i8 a1_0, .int .i8 a1_1] 62 (0, 0)) (zK BK147.out) hg (Kd.R_away HO_5.out (fun _ hk => hk.1))); replace BK153 := ak (blk_grown (g := gb153) (o := .cells #[.int .i8 t151, .int .i8 t152] 62 (0, 0)) (zK BK153.out) hg (Kd.R_away HO_5.out (fun _ hk => hk.2))); replace HB := ak (hb); clear HO_5 ho hb hg hat))
 go_roundg k1
 case measure => have := HK1.out; omega
 case rel => exact ⟨(y155), (wrap64 (x6_1 + 1)), (x1000_1), (x1001_1), (x1002_1), (x1003_1), (x1004_1), (x1005_1), (x1006_1), (x1007_1), (x1008_1), (x1009_1), (x1010_1), (x1011_1), (by first | rfl | (simp; done) | (simp [*]; done)), H', ⟨by have := HK1.out; omega⟩, ⟨by (with_reducible repeat (first | apply Kd.R_alloc | apply Kd.R_drewN | apply Kd.R_drew)); exact Kd.R_mono HO157.out (fun _ hk => hk.1)⟩, ⟨(zK BK0.out)⟩, ⟨(zK BK147.out)⟩, ⟨zH2 HB GE147 GE153⟩⟩
 }
 · rw [if_neg c10] at H; exact absurd H (by simp)
 }
 {
 replace c9 := Bool.eq_false_iff.mpr c9
 subst c9
 rw [if_neg (show ¬ (false = true) by decide)] at H
 have H' := ak H
 clear H
 have hnb21 := NB147_0.out
 have hnc21 := NB0_147.out
 have hcz22_0 : wr.cell? ⟨gb147, 0, none⟩ = some (.int .i8 a1_0) := (blk_cell BK147.out 0).trans rfl
 have hcz22_1 : wr.cell? ⟨gb147, 1, none⟩ = some (.int .i8 a1_1) := (blk_cell BK147.out 1).trans rfl
 have hfz22_0 := blk_frozen BK147.out 0
 have hfz22_1 := blk_frozen BK147.out 1
 go_wp2_with (first | ((with_reducible refine gate_callee (f := 94) rfl ?_); refine goesL_ (some 15) rfl rfl Try.func94 (by kernel_rfl) rfl #[.agg #[.int .i8 a1_0, .int .i8 a1_1], .int .i64 x6_1] rfl gl_ ?_; (with_reducible refine (spec_l01Next.calls a1_0 a1_1 x6_1 t151 t152 _ A7.out).mono ?_); rintro e w23 ⟨rfl, hb⟩; refine ⟨_, rfl, ?_⟩; replace HO_5 := kR HO_5 hb; replace BK0 := kK BK0 hb; replace BK147 := kK BK147 hb; replace HB := kB1 HB GE147 hb; (try clear hb)) | ((with_reducible refine gate_dst (N := 7) rfl ?_); refine box_event ?hg (N := 7) ?hd (cs := #[.int .i8 0, .int .i8 0]) (t := 62) ?hr ?_; (case hd => rfl); (case hg => rfl); (case hr => first | (go_simp; done) | (go_simp; rfl)); intro gb153 hg w24 hbox hb; have BK153 := ak (hbox); have GW153 := gS1 HB GE147 hg; have GE153 := gS1 HB GE147 hg; have NB0_153 := nL BK0 hg; have NB153_0 := nG BK0 hg; have NB147_153 := nL BK147 hg; have NB153_147 := nG BK147 hg; replace HO_5 := ak (Kd.R_below (Kd.R_elderB (zR HO_5.out) gb153 (Nat.le_of_eq hg.symm)) hb); replace BK0 := kK BK0 hb; replace BK147 := kK BK147 hb; replace HB := kB1 HB GE147 hb; clear hb hbox hg; have hnb25 := NB153_0.out; have hnc25 := NB0_153.out; have hnb26 := NB153_147.out; have hnc26 := NB147_153.out; obtain ⟨hcz27_0, hcz27_1, hfz27_0, hfz27_1⟩ := cz2 w24 BK153) | ((with_reducible refine gate_callee (f := 84) rfl ?_); refine goesL_ (some 18) rfl rfl Try.func84 (by kernel_rfl) rfl #[.pointer (some ⟨b0, 0, none⟩), .agg #[.int .i8 t151, .int .i8 t152]] rfl gl_ ?_; (with_reducible refine (spec_l01Free.calls b0 x1000_1 x1001_1 x1002_1 x1003_1 x1004_1 x1005_1 x1006_1 x1007_1 x1008_1 x1009_1 x1010_1 x1011_1 t151 t152 false _ ?side1 A8.out).mono ?_); (case side1 => exact (by first | exact BK0.out | ((with_reducible repeat (first | refine blk_drewN ?_ _ | refine blk_drew ?_ | refine blk_alloc ?_ _)); refine blk_far ?_ NB0_153.out _; (with_reducible repeat (first | refine blk_drewN ?_ _ | refine blk_drew ?_ | refine blk_alloc ?_ _)); refine blk_far ?_ NB0_153.out _; (with_reducible repeat (first | refine blk_drewN ?_ _ | refine blk_drew ?_ | refine blk_alloc ?_ _)); exact BK0.out))); rintro e w28 ⟨rfl, hb⟩; refine ⟨_, rfl, ?_⟩; replace HO_5 := ak (Kd.R_below (by (with_reducible repeat (first | apply Kd.R_alloc | apply Kd.R_drewN | apply Kd.R_drew)); exact (Kd.R_mono (Kd.R_far (p := ⟨gb153, 1, none⟩) (Kd.R_far (p := ⟨gb153, 0, none⟩) (Kd.R_mono HO_5.out (fun k_ hk => (⟨hk, hk.2⟩ : _ ∧ k_ ≠ gb153))) (fun _ hk => hk.2) (.int .i8 t151)) (fun _ hk => hk.2) (.int .i8 t152)) (fun _ h_ => h_.1))) hb); replace BK0 := ak (blk_below (g := b0) (o := .cells #[.int .i8 x1000_1, .int .i8 x1001_1, .int .u16 x1002_1, .int .u16 x1003_1, .int .u16 x1004_1, .int .u16 x1005_1, .int .u16 x1006_1, .int .u16 x1007_1, .int .u16 x1008_1, .int .u16 x1009_1, .int .u16 x1010_1, .int .u16 x1011_1] 35 (0, 0)) (by (with_reducible repeat (first | refine blk_drewN ?_ _ | refine blk_drew ?_ | refine blk_alloc ?_ _)); refine blk_far ?_ NB0_153.out _; (with_reducible repeat (first | refine blk_drewN ?_ _ | refine blk_drew ?_ | refine blk_alloc ?_ _)); refine blk_far ?_ NB0_153.out _; (with_reducible repeat (first | refine blk_drewN ?_ _ | refine blk_drew ?_ | refine blk_alloc ?_ _)); exact BK0.out) hb); replace BK147 := ak (blk_below (g := gb147) (o := .cells #[.int .i8 a1_0, .int .i8 a1_1] 62 (0, 0)) (by (with_reducible repeat (first | refine blk_drewN ?_ _ | refine blk_drew ?_ | refine blk_alloc ?_ _)); refine blk_far ?_ NB147_153.out _; (with_reducible repeat (first | refine blk_drewN ?_ _ | refine blk_drew ?_ | refine blk_alloc ?_ _)); refine blk_far ?_ NB147_153.out _; (with_reducible repeat (first | refine blk_drewN ?_ _ | refine blk_drew ?_ | refine blk_alloc ?_ _)); exact BK147.out) hb); replace BK153 := ak (blk_below (g := gb153) (o := .cells #[.int .i8 t151, .int .i8 t152] 62 (0, 0)) (by (with_reducible repeat (first | refine blk_drewN ?_ _ | refine blk_drew ?_ | refine blk_alloc ?_ _)); refine blk_put (cs := #[.int .i8 t151, .int .i8 0]) ?_ 1 _ rfl; (with_reducible repeat (first | refine blk_drewN ?_ _ | refine blk_drew ?_ | refine blk_alloc ?_ _)); refine blk_put (cs := #[.int .i8 0, .int .i8 0]) ?_ 0 _ rfl; (with_reducible repeat (first | refine blk_drewN ?_ _ | refine blk_drew ?_ | refine blk_alloc ?_ _)); exact BK153.out) hb); replace HB := kB2 HB GE147 GE153 hb; (try clear hb); (try clear hk)))
 go_roundg k1
 case measure => have := HK1.out; omega
 case rel => exact ⟨(x5_1), (wrap64 (x6_1 + 1)), (x1000_1), (x1001_1), (x1002_1), (x1003_1), (x1004_1), (x1005_1), (x1006_1), (x1007_1), (x1008_1), (x1009_1), (x1010_1), (x1011_1), (by first | rfl | (simp; done) | (simp [*]; done)), H', ⟨by have := HK1.out; omega⟩, ⟨by (with_reducible repeat (first | apply Kd.R_alloc | apply Kd.R_drewN | apply Kd.R_drew)); exact Kd.R_mono HO_5.out (fun _ hk => hk.1)⟩, ⟨(zK BK0.out)⟩, ⟨(zK BK147.out)⟩, ⟨zH2 HB GE147 GE153⟩⟩
 }
 }
 {
 rw [if_neg c6] at H
 have c6b0 : decide (x6_1 < 4) = false := decide_eq_false c6
 clear c6
 obtain rfl := Option.some.inj H
 go_wp2
 go_ret
 exact ⟨_, by first | rfl | (simp [errW_none, errW_some] <;> rfl) | (simp [*, errW_none, errW_some] <;> rfl), by (with_reducible repeat (first | apply Kd.R_alloc | apply Kd.R_drewN | apply Kd.R_drew)); exact Kd.R_mono HO_5.out (fun _ hk => trivial), zBG HB.out GE147.out⟩
 }
 )
 )
end Go.Proofs.Ytooidjdgfoioiaa.P
