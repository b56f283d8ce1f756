-- Printed by wip/print (my turned copy of the kit's print) out of the translation; Lean checks it.
import Derived.Test.YtgnnpgallnafcaaDoorP0
import Derived.Test.YtgnnpgallnafcaaDoorP1
import Derived.Test.YtgnnpgallnafcaaDoorP3
import Derived.Test.YtgnnpgallnafcaaDoorP4
import Derived.Test.YtgnnpgallnafcaaDoorP6
import Derived.Test.YtgnnpgallnafcaaDoorP7
namespace Go.Proofs.YtgnnpgallnafcaaDoor.P
open Go.RowKit Go.Proofs.YtgnnpgallnafcaaDoorW.PrintWords Go.Proofs.YtgnnpgallnafcaaDoorW.PrintLast Go.Proofs.YtgnnpgallnafcaaDoorW.PrintMore
attribute [local go_sem] max2_int min2_int max_two min_two max_three min_three max_four min_four   -- for this text's walks alone
set_option linter.unusedVariables false
set_option linter.unusedSimpArgs false

/-! ### spec_PastsOf: function 5 -/
def spec_PastsOf.f (k : Nat) (a0_0 : Int) (a0_1 : Int) (a0_2 : Int) (a1 : ByteArray) : Option (List ByteArray × Int) := (spec_l04Asked.f k (([(⟨a0_0, a0_1, a0_2⟩ : S28)] : List (S28))) (([a1] : List ByteArray))).bind fun t180 => (if t180 = 0 then ((spec_l04Pasts.f k a0_0 a0_1 a0_2 a1).bind fun bt181 => (if bt181.2 = true then (some (bt181.1, 0)) else (some ((([] : List ByteArray)), 3)))) else (some ((([] : List ByteArray)), t180)))
theorem spec_PastsOf.mono : ∀ a0 a1 a2 a3 k, LeO (spec_PastsOf.f k a0 a1 a2 a3) (spec_PastsOf.f (k + 1) a0 a1 a2 a3) := by
  intro a0 a1 a2 a3 k
  unfold spec_PastsOf.f
  repeat' first
      | (with_reducible exact spec_l04Asked.mono _ _ _)
      | (with_reducible exact spec_l04Pasts.mono _ _ _ _ _)
      | (with_reducible exact LeO.refl _)
      | (with_reducible exact LeO.none _)
      | (with_reducible refine LeO.ite ?_ ?_)
      | (with_reducible refine LeO.bind ?_ (fun _ => ?_))
      | exact spec_l04Asked.mono _ _ _
      | exact spec_l04Pasts.mono _ _ _ _ _
      | exact LeO.none _
      | refine LeO.ite ?_ ?_
      | refine LeO.bind ?_ (fun _ => ?_)
set_option maxHeartbeats 8000000 in
set_option maxRecDepth 100000 in
theorem spec_PastsOf.calls (k : Nat) (a0_0 : Int) (a0_1 : Int) (a0_2 : Int) (a1 : ByteArray) (r1 : List ByteArray) (r2 : Int) (w : World) (h : spec_PastsOf.f k a0_0 a0_1 a0_2 a1 = some (r1, r2)) :
    Calls Tryd.prog 5 #[.agg #[.int .i8 a0_0, .int .u8 a0_1, .int .u8 a0_2], .string a1] w fun e w' => ∃ v0_ : Value, e = .returned (.tuple #[v0_, .int .i64 r2]) ∧ Kd.R Kd.string 9 w' w.heap.size (fun _ => True) v0_ r1 ∧ Below w.heap.size w w' := by
 have hu28 := Tryd.underlying28
 have HB := ak (Below.refl w.heap.size w)
 have H : ((spec_l04Asked.f k (([(⟨a0_0, a0_1, a0_2⟩ : S28)] : List (S28))) (([a1] : List ByteArray))).bind fun t180 => (if t180 = 0 then ((spec_l04Pasts.f k a0_0 a0_1 a0_2 a1).bind fun bt181 => (if bt181.2 = true then (some (bt181.1, 0)) else (some ((([] : List ByteArray)), 3)))) else (some ((([] : List ByteArray)), t180)))) = some (r1, r2) := h
 clear h
 obtain ⟨y174, hy174⟩ : ∃ y_ : List (S28), y_ = (([(⟨a0_0, a0_1, a0_2⟩ : S28)] : List (S28))) := ⟨_, rfl⟩
 replace H : ((spec_l04Asked.f k y174 (([a1] : List ByteArray))).bind fun t180 => (if t180 = 0 then ((spec_l04Pasts.f k a0_0 a0_1 a0_2 a1).bind fun bt181 => (if bt181.2 = true then (some (bt181.1, 0)) else (some ((([] : List ByteArray)), 3)))) else (some ((([] : List ByteArray)), t180)))) = some (r1, r2) := by first | (rw [hy174]; with_reducible exact H) | (have H2_ := (Option.bind_some _ _).symm.trans H; rw [hy174]; with_reducible exact H2_) | (have H2_ := (Option.bind_some _ _).symm.trans H; with_reducible exact H2_) | with_reducible exact H | (rw [hy174]; exact H) | exact H
 have Ny174 := ak hy174
 clear hy174
 obtain ⟨y177, hy177⟩ : ∃ y_ : List ByteArray, y_ = (([a1] : List ByteArray)) := ⟨_, rfl⟩
 replace H : ((spec_l04Asked.f k y174 y177).bind fun t180 => (if t180 = 0 then ((spec_l04Pasts.f k a0_0 a0_1 a0_2 a1).bind fun bt181 => (if bt181.2 = true then (some (bt181.1, 0)) else (some ((([] : List ByteArray)), 3)))) else (some ((([] : List ByteArray)), t180)))) = some (r1, r2) := by first | (rw [hy177]; with_reducible exact H) | (have H2_ := (Option.bind_some _ _).symm.trans H; rw [hy177]; with_reducible exact H2_) | (have H2_ := (Option.bind_some _ _).symm.trans H; with_reducible exact H2_) | with_reducible exact H | (rw [hy177]; exact H) | exact H
 have Ny177 := ak hy177
 clear hy177
 replace H := Option.bind_eq_some_iff.mp H
 obtain ⟨t180, A30, H⟩ := H
 replace H : (if t180 = 0 then ((spec_l04Pasts.f k a0_0 a0_1 a0_2 a1).bind fun bt181 => (if bt181.2 = true then (some (bt181.1, 0)) else (some ((([] : List ByteArray)), 3)))) else (some ((([] : List ByteArray)), t180))) = some (r1, r2) := H
 have A3 := ak A30
 clear A30
 by_cases c4 : t180 = 0
 {
 rw [if_pos c4] at H
 have c4b0 : (t180 == 0) = true := beq_iff_eq.mpr c4
 have c4b1 : (t180 != 0) = false := bne_eq_false_iff_eq.mpr c4
 clear c4
 replace H := Option.bind_eq_some_iff.mp H
 obtain ⟨⟨t181, t184⟩, A50, H⟩ := H
 replace H : (if t184 = true then (some (t181, 0)) else (some ((([] : List ByteArray)), 3))) = some (r1, r2) := H
 have A5 := ak A50
 clear A50
 by_cases c6 : t184 = true
 {
 subst c6
 have H1 : (some (t181, 0)) = some (r1, r2) := by rw [if_pos rfl] at H; exact H
 clear H
 have H := H1
 clear H1
 simp only [Option.some.injEq, Prod.mk.injEq] at H
 obtain ⟨rfl, rfl⟩ := H
 go_enter Tryd.func5, Tryd.ntmps5
 go_wp2_with (first | ((with_reducible refine gate_dst (N := 2) rfl ?_); refine box_event ?hg (N := 2) ?hd (cs := #[.int .i8 a0_0, .int .u8 a0_1, .int .u8 a0_2]) (t := 28) ?hr ?_; (case hd => rfl); (case hg => rfl); (case hr => first | (go_simp; done) | (go_simp; rfl)); intro gb173 hg w7 hbox hb; have n0_ := ak (below_step (zB HB.out) hb); have n1_ := ak (hbox); have n2_ := ak ((by rw [hg]; exact (below_size (zB HB.out)) : w.heap.size ≤ gb173)); have n3_ := ak ((by rw [hg]; exact (below_size (zB HB.out)) : w.heap.size ≤ gb173)); clear HB; have HB := n0_; have BK173 := n1_; have GW173 := n2_; have GE173 := n3_; clear n0_ n1_ n2_ n3_; clear hb hbox hg; have hcz8_0 : w7.cell? ⟨gb173, 0, none⟩ = some (.int .i8 a0_0) := (blk_cell BK173.out 0).trans rfl; have hcz8_1 : w7.cell? ⟨gb173, 1, none⟩ = some (.int .u8 a0_1) := (blk_cell BK173.out 1).trans rfl; have hcz8_2 : w7.cell? ⟨gb173, 2, none⟩ = some (.int .u8 a0_2) := (blk_cell BK173.out 2).trans rfl; have hfz8_0 := blk_frozen BK173.out 0; have hfz8_1 := blk_frozen BK173.out 1; have hfz8_2 := blk_frozen BK173.out 2) | ((with_reducible refine gate_dst (N := 10) rfl ?_); refine Kd.R_lit k28 _ 28 ?hg (N := 10) ?hd (xs := ([(⟨a0_0, a0_1, a0_2⟩ : S28)] : List (S28))) (inner := [.int .i8 a0_0, .int .u8 a0_1, .int .u8 a0_2]) (ok := fun _ => True) (okp := fun _ => True) ?hr ?hp (fun _ hk => hk) trivial (Below.refl _ _) (Nat.le_refl _) (by simp) ?_; (case hd => rfl); (case hg => rfl); (case hr => first | (go_simp; done) | (go_simp; rfl)); (case hp => exact (Reps.c3 (show Kd.M k28 _ _ _ (⟨a0_0, a0_1, a0_2⟩ : S28) [.int .i8 a0_0, .int .u8 a0_1, .int .u8 a0_2] from (k28_mkM _ _ _ (⟨a0_0, a0_1, a0_2⟩ : S28) )) (Reps.none _ _))); intro v175 w9 ho10 hb hg_ hnew_; clear hg_ hnew_; (first | rw [← Ny174.out] at ho10 | (simp only [Int.reduceToNat] at ho10; rw [← Ny174.out] at ho10)); have n0_ := ak (Kd.R_lower (Kd.R_newB ho10 (g := gb173) (o := .cells #[.int .i8 a0_0, .int .u8 a0_1, .int .u8 a0_2] 28 (0, 0)) (zK BK173.out)) (below_size (zBG HB.out GE173.out))); have n1_ := ak (blk_below (g := gb173) (o := .cells #[.int .i8 a0_0, .int .u8 a0_1, .int .u8 a0_2] 28 (0, 0)) (zK BK173.out) hb); have n2_ := ak (below_step (zBG HB.out GE173.out) hb); clear BK173 HB; have HO176 := n0_; have BK173 := n1_; have HB := n2_; clear n0_ n1_ n2_; clear hb ho10) | ((with_reducible refine gate_dst (N := 12) rfl ?_); refine Kd.R_lit Kd.string _ 9 ?hg (N := 12) ?hd (xs := ([a1] : List ByteArray)) (inner := [.string a1]) (ok := fun _ => True) (okp := fun _ => True) ?hr ?hp (fun _ hk => hk) trivial (Below.refl _ _) (Nat.le_refl _) (by simp) ?_; (case hd => rfl); (case hg => rfl); (case hr => first | (go_simp; done) | (go_simp; rfl)); (case hp => exact (Reps.one (show Kd.M Kd.string _ _ _ a1 [.string a1] from rfl) (Reps.none _ _))); intro v178 w11 ho12 hb hg_ hnew_; clear hg_ hnew_; (first | rw [← Ny177.out] at ho12 | (simp only [Int.reduceToNat] at ho12; rw [← Ny177.out] at ho12)); have n0_ := ak (Kd.R_below (zR HO176.out) hb); have n1_ := ak (Kd.R_lower ho12 (below_size (zBG HB.out GE173.out))); have n2_ := ak (blk_below (g := gb173) (o := .cells #[.int .i8 a0_0, .int .u8 a0_1, .int .u8 a0_2] 28 (0, 0)) (zK BK173.out) hb); have n3_ := ak (below_step (zBG HB.out GE173.out) hb); clear HO176 BK173 HB; have HO176 := n0_; have HO179 := n1_; have BK173 := n2_; have HB := n3_; clear n0_ n1_ n2_ n3_; clear hb ho12; obtain ⟨Ao13, co13, eo13⟩ := Kd.R_slice HO176.out; subst eo13; obtain ⟨Ao14, co14, eo14⟩ := Kd.R_slice HO179.out; subst eo14) | ((with_reducible refine gate_callee (f := 17) rfl ?_); refine goesL_ (some 13) rfl rfl Tryd.func17 (by kernel_rfl) rfl #[.slice Ao13 y174.length co13, .slice Ao14 y177.length co14] rfl (by (try simp only [List.map_toArray, List.map_cons, List.map_nil]); first | done | rfl | (simp only [List.length_drop, List.length_take]; rfl)) ?_; (with_reducible refine (spec_l04Asked.calls k _ _ y174 _ _ y177 t180 _ ?side1 ?side2 ?side3 ?side4 A3.out).mono ?_); (case side1 => exact zC (Kd.R_reads' HO176.out).2.2); (case side2 => exact (Kd.R_reads' HO176.out).2.1); (case side3 => exact zC (Kd.R_reads' HO179.out).2.2); (case side4 => exact (Kd.R_reads' HO179.out).2.1); rintro e w15 ⟨rfl, hb⟩; refine ⟨_, rfl, ?_⟩; have n0_ := ak (Kd.R_below (zR HO176.out) hb); have n1_ := ak (Kd.R_below (zR HO179.out) hb); have n2_ := ak (blk_below (g := gb173) (o := .cells #[.int .i8 a0_0, .int .u8 a0_1, .int .u8 a0_2] 28 (0, 0)) (zK BK173.out) hb); have n3_ := ak (below_step (zBG HB.out GE173.out) hb); clear HO176 HO179 BK173 HB; have HO176 := n0_; have HO179 := n1_; have BK173 := n2_; have HB := n3_; clear n0_ n1_ n2_ n3_; (try clear hb); (try clear hb2); (try clear hk); (try clear hi); have hcz16_0 : w15.cell? ⟨gb173, 0, none⟩ = some (.int .i8 a0_0) := (blk_cell BK173.out 0).trans rfl; have hcz16_1 : w15.cell? ⟨gb173, 1, none⟩ = some (.int .u8 a0_1) := (blk_cell BK173.out 1).trans rfl; have hcz16_2 : w15.cell? ⟨gb173, 2, none⟩ = some (.int .u8 a0_2) := (blk_cell BK173.out 2).trans rfl; have hfz16_0 := blk_frozen BK173.out 0; have hfz16_1 := blk_frozen BK173.out 1; have hfz16_2 := blk_frozen BK173.out 2) | ((with_reducible refine gate_callee (f := 18) rfl ?_); refine goesL_ (some 21) rfl rfl Tryd.func18 (by kernel_rfl) rfl #[.agg #[.int .i8 a0_0, .int .u8 a0_1, .int .u8 a0_2], .string a1] rfl (by (try simp only [List.map_toArray, List.map_cons, List.map_nil]); first | done | rfl | (simp only [List.length_drop, List.length_take]; rfl)) ?_; (with_reducible refine (spec_l04Pasts.calls k a0_0 a0_1 a0_2 a1 t181 true _ A5.out).mono ?_); rintro e w17 ⟨v182, rfl, ho0, hb⟩; refine ⟨_, rfl, ?_⟩; have n0_ := ak (Kd.R_below (zR HO176.out) hb); have n1_ := ak (Kd.R_elder' (zR HO179.out) (Kd.R_base ho0) hb); have n2_ := ak (Kd.R_lower (Kd.R_new' ho0 (Kd.R_lt (zR HO179.out))) (below_size (zBG HB.out GE173.out))); have n3_ := ak (blk_below (g := gb173) (o := .cells #[.int .i8 a0_0, .int .u8 a0_1, .int .u8 a0_2] 28 (0, 0)) (zK BK173.out) hb); have n4_ := ak (below_step (zBG HB.out GE173.out) hb); clear HO176 HO179 BK173 HB; have HO176 := n0_; have HO179 := n1_; have HO183 := n2_; have BK173 := n3_; have HB := n4_; clear n0_ n1_ n2_ n3_ n4_; (try clear hb); (try clear hb2); (try clear hk); (try clear hi); (try clear ho0)))
 go_ret2
 exact ⟨_, by first | rfl | (simp [errW_none, errW_some] <;> rfl) | (simp [*, errW_none, errW_some] <;> rfl), by (with_reducible repeat (first | apply Kd.R_alloc | apply Kd.R_drewN | apply Kd.R_drew)); exact Kd.R_mono HO183.out (fun _ hk => trivial), by repeat (first | (with_reducible first | exact HB.out | apply below_alloc | apply pw_below_drewN | apply below_drew1 | refine below_set ?_ GE173.out) | exact HB.out)⟩
 }
 {
 replace c6 := Bool.eq_false_iff.mpr c6
 subst c6
 have H1 : (some ((([] : List ByteArray)), 3)) = some (r1, r2) := by rw [if_neg (show ¬ (false = true) by decide)] at H; exact H
 clear H
 have H := H1
 clear H1
 obtain ⟨y185, hy185⟩ : ∃ y_ : List ByteArray, y_ = (([] : List ByteArray)) := ⟨_, rfl⟩
 replace H : (some (y185, 3)) = some (r1, r2) := by first | (rw [hy185]; with_reducible exact H) | (have H2_ := (Option.bind_some _ _).symm.trans H; rw [hy185]; with_reducible exact H2_) | (have H2_ := (Option.bind_some _ _).symm.trans H; with_reducible exact H2_) | with_reducible exact H | (rw [hy185]; exact H) | exact H
 have Ny185 := ak hy185
 clear hy185
 simp only [Option.some.injEq, Prod.mk.injEq] at H
 obtain ⟨rfl, rfl⟩ := H
 go_enter Tryd.func5, Tryd.ntmps5
 go_wp2_with (first | ((with_reducible refine gate_dst (N := 2) rfl ?_); refine box_event ?hg (N := 2) ?hd (cs := #[.int .i8 a0_0, .int .u8 a0_1, .int .u8 a0_2]) (t := 28) ?hr ?_; (case hd => rfl); (case hg => rfl); (case hr => first | (go_simp; done) | (go_simp; rfl)); intro gb173 hg w18 hbox hb; have n0_ := ak (below_step (zB HB.out) hb); have n1_ := ak (hbox); have n2_ := ak ((by rw [hg]; exact (below_size (zB HB.out)) : w.heap.size ≤ gb173)); have n3_ := ak ((by rw [hg]; exact (below_size (zB HB.out)) : w.heap.size ≤ gb173)); clear HB; have HB := n0_; have BK173 := n1_; have GW173 := n2_; have GE173 := n3_; clear n0_ n1_ n2_ n3_; clear hb hbox hg; have hcz19_0 : w18.cell? ⟨gb173, 0, none⟩ = some (.int .i8 a0_0) := (blk_cell BK173.out 0).trans rfl; have hcz19_1 : w18.cell? ⟨gb173, 1, none⟩ = some (.int .u8 a0_1) := (blk_cell BK173.out 1).trans rfl; have hcz19_2 : w18.cell? ⟨gb173, 2, none⟩ = some (.int .u8 a0_2) := (blk_cell BK173.out 2).trans rfl; have hfz19_0 := blk_frozen BK173.out 0; have hfz19_1 := blk_frozen BK173.out 1; have hfz19_2 := blk_frozen BK173.out 2) | ((with_reducible refine gate_dst (N := 10) rfl ?_); refine Kd.R_lit k28 _ 28 ?hg (N := 10) ?hd (xs := ([(⟨a0_0, a0_1, a0_2⟩ : S28)] : List (S28))) (inner := [.int .i8 a0_0, .int .u8 a0_1, .int .u8 a0_2]) (ok := fun _ => True) (okp := fun _ => True) ?hr ?hp (fun _ hk => hk) trivial (Below.refl _ _) (Nat.le_refl _) (by simp) ?_; (case hd => rfl); (case hg => rfl); (case hr => first | (go_simp; done) | (go_simp; rfl)); (case hp => exact (Reps.c3 (show Kd.M k28 _ _ _ (⟨a0_0, a0_1, a0_2⟩ : S28) [.int .i8 a0_0, .int .u8 a0_1, .int .u8 a0_2] from (k28_mkM _ _ _ (⟨a0_0, a0_1, a0_2⟩ : S28) )) (Reps.none _ _))); intro v175 w20 ho21 hb hg_ hnew_; clear hg_ hnew_; (first | rw [← Ny174.out] at ho21 | (simp only [Int.reduceToNat] at ho21; rw [← Ny174.out] at ho21)); have n0_ := ak (Kd.R_lower (Kd.R_newB ho21 (g := gb173) (o := .cells #[.int .i8 a0_0, .int .u8 a0_1, .int .u8 a0_2] 28 (0, 0)) (zK BK173.out)) (below_size (zBG HB.out GE173.out))); have n1_ := ak (blk_below (g := gb173) (o := .cells #[.int .i8 a0_0, .int .u8 a0_1, .int .u8 a0_2] 28 (0, 0)) (zK BK173.out) hb); have n2_ := ak (below_step (zBG HB.out GE173.out) hb); clear BK173 HB; have HO176 := n0_; have BK173 := n1_; have HB := n2_; clear n0_ n1_ n2_; clear hb ho21) | ((with_reducible refine gate_dst (N := 12) rfl ?_); refine Kd.R_lit Kd.string _ 9 ?hg (N := 12) ?hd (xs := ([a1] : List ByteArray)) (inner := [.string a1]) (ok := fun _ => True) (okp := fun _ => True) ?hr ?hp (fun _ hk => hk) trivial (Below.refl _ _) (Nat.le_refl _) (by simp) ?_; (case hd => rfl); (case hg => rfl); (case hr => first | (go_simp; done) | (go_simp; rfl)); (case hp => exact (Reps.one (show Kd.M Kd.string _ _ _ a1 [.string a1] from rfl) (Reps.none _ _))); intro v178 w22 ho23 hb hg_ hnew_; clear hg_ hnew_; (first | rw [← Ny177.out] at ho23 | (simp only [Int.reduceToNat] at ho23; rw [← Ny177.out] at ho23)); have n0_ := ak (Kd.R_below (zR HO176.out) hb); have n1_ := ak (Kd.R_lower ho23 (below_size (zBG HB.out GE173.out))); have n2_ := ak (blk_below (g := gb173) (o := .cells #[.int .i8 a0_0, .int .u8 a0_1, .int .u8 a0_2] 28 (0, 0)) (zK BK173.out) hb); have n3_ := ak (below_step (zBG HB.out GE173.out) hb); clear HO176 BK173 HB; have HO176 := n0_; have HO179 := n1_; have BK173 := n2_; have HB := n3_; clear n0_ n1_ n2_ n3_; clear hb ho23; obtain ⟨Ao24, co24, eo24⟩ := Kd.R_slice HO176.out; subst eo24; obtain ⟨Ao25, co25, eo25⟩ := Kd.R_slice HO179.out; subst eo25) | ((with_reducible refine gate_callee (f := 17) rfl ?_); refine goesL_ (some 13) rfl rfl Tryd.func17 (by kernel_rfl) rfl #[.slice Ao24 y174.length co24, .slice Ao25 y177.length co25] rfl (by (try simp only [List.map_toArray, List.map_cons, List.map_nil]); first | done | rfl | (simp only [List.length_drop, List.length_take]; rfl)) ?_; (with_reducible refine (spec_l04Asked.calls k _ _ y174 _ _ y177 t180 _ ?side1 ?side2 ?side3 ?side4 A3.out).mono ?_); (case side1 => exact zC (Kd.R_reads' HO176.out).2.2); (case side2 => exact (Kd.R_reads' HO176.out).2.1); (case side3 => exact zC (Kd.R_reads' HO179.out).2.2); (case side4 => exact (Kd.R_reads' HO179.out).2.1); rintro e w26 ⟨rfl, hb⟩; refine ⟨_, rfl, ?_⟩; have n0_ := ak (Kd.R_below (zR HO176.out) hb); have n1_ := ak (Kd.R_below (zR HO179.out) hb); have n2_ := ak (blk_below (g := gb173) (o := .cells #[.int .i8 a0_0, .int .u8 a0_1, .int .u8 a0_2] 28 (0, 0)) (zK BK173.out) hb); have n3_ := ak (below_step (zBG HB.out GE173.out) hb); clear HO176 HO179 BK173 HB; have HO176 := n0_; have HO179 := n1_; have BK173 := n2_; have HB := n3_; clear n0_ n1_ n2_ n3_; (try clear hb); (try clear hb2); (try clear hk); (try clear hi); have hcz27_0 : w26.cell? ⟨gb173, 0, none⟩ = some (.int .i8 a0_0) := (blk_cell BK173.out 0).trans rfl; have hcz27_1 : w26.cell? ⟨gb173, 1, none⟩ = some (.int .u8 a0_1) := (blk_cell BK173.out 1).trans rfl; have hcz27_2 : w26.cell? ⟨gb173, 2, none⟩ = some (.int .u8 a0_2) := (blk_cell BK173.out 2).trans rfl; have hfz27_0 := blk_frozen BK173.out 0; have hfz27_1 := blk_frozen BK173.out 1; have hfz27_2 := blk_frozen BK173.out 2) | ((with_reducible refine gate_callee (f := 18) rfl ?_); refine goesL_ (some 21) rfl rfl Tryd.func18 (by kernel_rfl) rfl #[.agg #[.int .i8 a0_0, .int .u8 a0_1, .int .u8 a0_2], .string a1] rfl (by (try simp only [List.map_toArray, List.map_cons, List.map_nil]); first | done | rfl | (simp only [List.length_drop, List.length_take]; rfl)) ?_; (with_reducible refine (spec_l04Pasts.calls k a0_0 a0_1 a0_2 a1 t181 false _ A5.out).mono ?_); rintro e w28 ⟨v182, rfl, ho0, hb⟩; refine ⟨_, rfl, ?_⟩; have n0_ := ak (Kd.R_below (zR HO176.out) hb); have n1_ := ak (Kd.R_elder' (zR HO179.out) (Kd.R_base ho0) hb); have n2_ := ak (Kd.R_lower (Kd.R_new' ho0 (Kd.R_lt (zR HO179.out))) (below_size (zBG HB.out GE173.out))); have n3_ := ak (blk_below (g := gb173) (o := .cells #[.int .i8 a0_0, .int .u8 a0_1, .int .u8 a0_2] 28 (0, 0)) (zK BK173.out) hb); have n4_ := ak (below_step (zBG HB.out GE173.out) hb); clear HO176 HO179 BK173 HB; have HO176 := n0_; have HO179 := n1_; have HO183 := n2_; have BK173 := n3_; have HB := n4_; clear n0_ n1_ n2_ n3_ n4_; (try clear hb); (try clear hb2); (try clear hk); (try clear hi); (try clear ho0)) | ((with_reducible refine gate_dst (N := 26) rfl ?_); refine Kd.R_lit Kd.string _ 9 ?hg (N := 26) ?hd (xs := ([] : List ByteArray)) (inner := []) (ok := fun _ => True) (okp := fun _ => True) ?hr ?hp (fun _ hk => hk) trivial (Below.refl _ _) (Nat.le_refl _) (by simp) ?_; (case hd => rfl); (case hg => rfl); (case hr => first | (go_simp; done) | (go_simp; rfl)); (case hp => exact (Reps.none _ _)); intro v186 w29 ho30 hb hg_ hnew_; clear hg_ hnew_; (first | rw [← Ny185.out] at ho30 | (simp only [Int.reduceToNat] at ho30; rw [← Ny185.out] at ho30)); have n0_ := ak (Kd.R_below (zR HO176.out) hb); have n1_ := ak (Kd.R_elder' (zR HO179.out) (Kd.R_base ho30) hb); have n2_ := ak (Kd.R_elder' (zR HO183.out) (Kd.R_base ho30) hb); have n3_ := ak (Kd.R_lower (Kd.R_new' (Kd.R_new' ho30 (Kd.R_lt (zR HO179.out))) (Kd.R_lt (zR HO183.out))) (below_size (zBG HB.out GE173.out))); have n4_ := ak (blk_below (g := gb173) (o := .cells #[.int .i8 a0_0, .int .u8 a0_1, .int .u8 a0_2] 28 (0, 0)) (zK BK173.out) hb); have n5_ := ak (below_step (zBG HB.out GE173.out) hb); clear HO176 HO179 HO183 BK173 HB; have HO176 := n0_; have HO179 := n1_; have HO183 := n2_; have HO187 := n3_; have BK173 := n4_; have HB := n5_; clear n0_ n1_ n2_ n3_ n4_ n5_; clear hb ho30))
 go_ret2
 exact ⟨_, by first | rfl | (simp [errW_none, errW_some] <;> rfl) | (simp [*, errW_none, errW_some] <;> rfl), by (with_reducible repeat (first | apply Kd.R_alloc | apply Kd.R_drewN | apply Kd.R_drew)); exact Kd.R_mono HO187.out (fun _ hk => trivial), by repeat (first | (with_reducible first | exact HB.out | apply below_alloc | apply pw_below_drewN | apply below_drew1 | refine below_set ?_ GE173.out) | exact HB.out)⟩
 }
 }
 {
 rw [if_neg c4] at H
 have c4b0 : (t180 == 0) = false := beq_eq_false_iff_ne.mpr c4
 have c4b1 : (t180 != 0) = true := bne_iff_ne.mpr c4
 obtain ⟨y188, hy188⟩ : ∃ y_ : List ByteArray, y_ = (([] : List ByteArray)) := ⟨_, rfl⟩
 replace H : (some (y188, t180)) = some (r1, r2) := by first | (rw [hy188]; with_reducible exact H) | (have H2_ := (Option.bind_some _ _).symm.trans H; rw [hy188]; with_reducible exact H2_) | (have H2_ := (Option.bind_some _ _).symm.trans H; with_reducible exact H2_) | with_reducible exact H | (rw [hy188]; exact H) | exact H
 have Ny188 := ak hy188
 clear hy188
 simp only [Option.some.injEq, Prod.mk.injEq] at H
 obtain ⟨rfl, rfl⟩ := H
 go_enter Tryd.func5, Tryd.ntmps5
 go_wp2_with (first | ((with_reducible refine gate_dst (N := 2) rfl ?_); refine box_event ?hg (N := 2) ?hd (cs := #[.int .i8 a0_0, .int .u8 a0_1, .int .u8 a0_2]) (t := 28) ?hr ?_; (case hd => rfl); (case hg => rfl); (case hr => first | (go_simp; done) | (go_simp; rfl)); intro gb173 hg w31 hbox hb; have n0_ := ak (below_step (zB HB.out) hb); have n1_ := ak (hbox); have n2_ := ak ((by rw [hg]; exact (below_size (zB HB.out)) : w.heap.size ≤ gb173)); have n3_ := ak ((by rw [hg]; exact (below_size (zB HB.out)) : w.heap.size ≤ gb173)); clear HB; have HB := n0_; have BK173 := n1_; have GW173 := n2_; have GE173 := n3_; clear n0_ n1_ n2_ n3_; clear hb hbox hg; have hcz32_0 : w31.cell? ⟨gb173, 0, none⟩ = some (.int .i8 a0_0) := (blk_cell BK173.out 0).trans rfl; have hcz32_1 : w31.cell? ⟨gb173, 1, none⟩ = some (.int .u8 a0_1) := (blk_cell BK173.out 1).trans rfl; have hcz32_2 : w31.cell? ⟨gb173, 2, none⟩ = some (.int .u8 a0_2) := (blk_cell BK173.out 2).trans rfl; have hfz32_0 := blk_frozen BK173.out 0; have hfz32_1 := blk_frozen BK173.out 1; have hfz32_2 := blk_frozen BK173.out 2) | ((with_reducible refine gate_dst (N := 10) rfl ?_); refine Kd.R_lit k28 _ 28 ?hg (N := 10) ?hd (xs := ([(⟨a0_0, a0_1, a0_2⟩ : S28)] : List (S28))) (inner := [.int .i8 a0_0, .int .u8 a0_1, .int .u8 a0_2]) (ok := fun _ => True) (okp := fun _ => True) ?hr ?hp (fun _ hk => hk) trivial (Below.refl _ _) (Nat.le_refl _) (by simp) ?_; (case hd => rfl); (case hg => rfl); (case hr => first | (go_simp; done) | (go_simp; rfl)); (case hp => exact (Reps.c3 (show Kd.M k28 _ _ _ (⟨a0_0, a0_1, a0_2⟩ : S28) [.int .i8 a0_0, .int .u8 a0_1, .int .u8 a0_2] from (k28_mkM _ _ _ (⟨a0_0, a0_1, a0_2⟩ : S28) )) (Reps.none _ _))); intro v175 w33 ho34 hb hg_ hnew_; clear hg_ hnew_; (first | rw [← Ny174.out] at ho34 | (simp only [Int.reduceToNat] at ho34; rw [← Ny174.out] at ho34)); have n0_ := ak (Kd.R_lower (Kd.R_newB ho34 (g := gb173) (o := .cells #[.int .i8 a0_0, .int .u8 a0_1, .int .u8 a0_2] 28 (0, 0)) (zK BK173.out)) (below_size (zBG HB.out GE173.out))); have n1_ := ak (blk_below (g := gb173) (o := .cells #[.int .i8 a0_0, .int .u8 a0_1, .int .u8 a0_2] 28 (0, 0)) (zK BK173.out) hb); have n2_ := ak (below_step (zBG HB.out GE173.out) hb); clear BK173 HB; have HO176 := n0_; have BK173 := n1_; have HB := n2_; clear n0_ n1_ n2_; clear hb ho34) | ((with_reducible refine gate_dst (N := 12) rfl ?_); refine Kd.R_lit Kd.string _ 9 ?hg (N := 12) ?hd (xs := ([a1] : List ByteArray)) (inner := [.string a1]) (ok := fun _ => True) (okp := fun _ => True) ?hr ?hp (fun _ hk => hk) trivial (Below.refl _ _) (Nat.le_refl _) (by simp) ?_; (case hd => rfl); (case hg => rfl); (case hr => first | (go_simp; done) | (go_simp; rfl)); (case hp => exact (Reps.one (show Kd.M Kd.string _ _ _ a1 [.string a1] from rfl) (Reps.none _ _))); intro v178 w35 ho36 hb hg_ hnew_; clear hg_ hnew_; (first | rw [← Ny177.out] at ho36 | (simp only [Int.reduceToNat] at ho36; rw [← Ny177.out] at ho36)); have n0_ := ak (Kd.R_below (zR HO176.out) hb); have n1_ := ak (Kd.R_lower ho36 (below_size (zBG HB.out GE173.out))); have n2_ := ak (blk_below (g := gb173) (o := .cells #[.int .i8 a0_0, .int .u8 a0_1, .int .u8 a0_2] 28 (0, 0)) (zK BK173.out) hb); have n3_ := ak (below_step (zBG HB.out GE173.out) hb); clear HO176 BK173 HB; have HO176 := n0_; have HO179 := n1_; have BK173 := n2_; have HB := n3_; clear n0_ n1_ n2_ n3_; clear hb ho36; obtain ⟨Ao37, co37, eo37⟩ := Kd.R_slice HO176.out; subst eo37; obtain ⟨Ao38, co38, eo38⟩ := Kd.R_slice HO179.out; subst eo38) | ((with_reducible refine gate_callee (f := 17) rfl ?_); refine goesL_ (some 13) rfl rfl Tryd.func17 (by kernel_rfl) rfl #[.slice Ao37 y174.length co37, .slice Ao38 y177.length co38] rfl (by (try simp only [List.map_toArray, List.map_cons, List.map_nil]); first | done | rfl | (simp only [List.length_drop, List.length_take]; rfl)) ?_; (with_reducible refine (spec_l04Asked.calls k _ _ y174 _ _ y177 t180 _ ?side1 ?side2 ?side3 ?side4 A3.out).mono ?_); (case side1 => exact zC (Kd.R_reads' HO176.out).2.2); (case side2 => exact (Kd.R_reads' HO176.out).2.1); (case side3 => exact zC (Kd.R_reads' HO179.out).2.2); (case side4 => exact (Kd.R_reads' HO179.out).2.1); rintro e w39 ⟨rfl, hb⟩; refine ⟨_, rfl, ?_⟩; have n0_ := ak (Kd.R_below (zR HO176.out) hb); have n1_ := ak (Kd.R_below (zR HO179.out) hb); have n2_ := ak (blk_below (g := gb173) (o := .cells #[.int .i8 a0_0, .int .u8 a0_1, .int .u8 a0_2] 28 (0, 0)) (zK BK173.out) hb); have n3_ := ak (below_step (zBG HB.out GE173.out) hb); clear HO176 HO179 BK173 HB; have HO176 := n0_; have HO179 := n1_; have BK173 := n2_; have HB := n3_; clear n0_ n1_ n2_ n3_; (try clear hb); (try clear hb2); (try clear hk); (try clear hi)) | ((with_reducible refine gate_dst (N := 16) rfl ?_); refine Kd.R_lit Kd.string _ 9 ?hg (N := 16) ?hd (xs := ([] : List ByteArray)) (inner := []) (ok := fun _ => True) (okp := fun _ => True) ?hr ?hp (fun _ hk => hk) trivial (Below.refl _ _) (Nat.le_refl _) (by simp) ?_; (case hd => rfl); (case hg => rfl); (case hr => first | (go_simp; done) | (go_simp; rfl)); (case hp => exact (Reps.none _ _)); intro v189 w40 ho41 hb hg_ hnew_; clear hg_ hnew_; (first | rw [← Ny188.out] at ho41 | (simp only [Int.reduceToNat] at ho41; rw [← Ny188.out] at ho41)); have n0_ := ak (Kd.R_below (zR HO176.out) hb); have n1_ := ak (Kd.R_elder' (zR HO179.out) (Kd.R_base ho41) hb); have n2_ := ak (Kd.R_lower (Kd.R_new' ho41 (Kd.R_lt (zR HO179.out))) (below_size (zBG HB.out GE173.out))); have n3_ := ak (blk_below (g := gb173) (o := .cells #[.int .i8 a0_0, .int .u8 a0_1, .int .u8 a0_2] 28 (0, 0)) (zK BK173.out) hb); have n4_ := ak (below_step (zBG HB.out GE173.out) hb); clear HO176 HO179 BK173 HB; have HO176 := n0_; have HO179 := n1_; have HO190 := n2_; have BK173 := n3_; have HB := n4_; clear n0_ n1_ n2_ n3_ n4_; clear hb ho41))
 go_ret2
 exact ⟨_, by first | rfl | (simp [errW_none, errW_some] <;> rfl) | (simp [*, errW_none, errW_some] <;> rfl), by (with_reducible repeat (first | apply Kd.R_alloc | apply Kd.R_drewN | apply Kd.R_drew)); exact Kd.R_mono HO190.out (fun _ hk => trivial), by repeat (first | (with_reducible first | exact HB.out | apply below_alloc | apply pw_below_drewN | apply below_drew1 | refine below_set ?_ GE173.out) | exact HB.out)⟩
 }
/-! ### impl_PastsOf: function 7 -/
def impl_PastsOf.j0 : Nat → ByteArray → Bool → Int → Int → Int → Int → Option (List ByteArray × Int)
  | 0, _, _, _, _, _, _ => none
  | k + 1, x1, x14, x243000, x243001, x243002, x978000 => if x14 = true then (some (([] : List ByteArray), 1)) else ((impl_Habit_pasts.f k x243000 x243001 x243002 x1 x978000).bind fun t245 => (if (t245.length : Int) > 300 then (some (([] : List ByteArray), 3)) else (some (t245, 0))))
def impl_PastsOf.f (k : Nat) (a0_0 : Int) (a0_1 : Int) (a0_2 : Int) (a1 : ByteArray) (a977_0 : Int) : Option (List ByteArray × Int) := (impl_ValidHabit.f a0_0 a0_1 a0_2).bind fun t243 => (if t243 = true then ((impl_IsWord.f k a1).bind fun t244 => (impl_PastsOf.j0 k a1 (!t244) a0_0 a0_1 a0_2 a977_0)) else (impl_PastsOf.j0 k a1 true a0_0 a0_1 a0_2 a977_0))
theorem impl_PastsOf.mono_l : ∀ k, (∀ y0 y1 y2 y3 y4 y5, LeO (impl_PastsOf.j0 k y0 y1 y2 y3 y4 y5) (impl_PastsOf.j0 (k + 1) y0 y1 y2 y3 y4 y5))
  | 0 => fun _ _ _ _ _ _ r h => by simp [impl_PastsOf.j0] at h
  | k + 1 => by
    have ih0 := impl_PastsOf.mono_l k
    · intro y0 y1 y2 y3 y4 y5
      unfold impl_PastsOf.j0
      repeat' first
      | (with_reducible exact ih0 _ _ _ _ _ _)
      | (with_reducible exact impl_Habit_pasts.mono _ _ _ _ _ _)
      | (with_reducible exact impl_IsWord.mono _ _)
      | (with_reducible exact LeO.refl _)
      | (with_reducible exact LeO.none _)
      | (with_reducible refine LeO.ite ?_ ?_)
      | (with_reducible refine LeO.bind ?_ (fun _ => ?_))
      | exact ih0 _ _ _ _ _ _
      | exact impl_Habit_pasts.mono _ _ _ _ _ _
      | exact impl_IsWord.mono _ _
      | exact LeO.none _
      | refine LeO.ite ?_ ?_
      | refine LeO.bind ?_ (fun _ => ?_)
theorem impl_PastsOf.mono : ∀ a0 a1 a2 a3 a4 k, LeO (impl_PastsOf.f k a0 a1 a2 a3 a4) (impl_PastsOf.f (k + 1) a0 a1 a2 a3 a4) := by
  intro a0 a1 a2 a3 a4 k
  have ih0 := impl_PastsOf.mono_l k
  unfold impl_PastsOf.f
  repeat' first
      | (with_reducible exact ih0 _ _ _ _ _ _)
      | (with_reducible exact impl_Habit_pasts.mono _ _ _ _ _ _)
      | (with_reducible exact impl_IsWord.mono _ _)
      | (with_reducible exact LeO.refl _)
      | (with_reducible exact LeO.none _)
      | (with_reducible refine LeO.ite ?_ ?_)
      | (with_reducible refine LeO.bind ?_ (fun _ => ?_))
      | exact ih0 _ _ _ _ _ _
      | exact impl_Habit_pasts.mono _ _ _ _ _ _
      | exact impl_IsWord.mono _ _
      | exact LeO.none _
      | refine LeO.ite ?_ ?_
      | refine LeO.bind ?_ (fun _ => ?_)
set_option maxHeartbeats 8000000 in
set_option maxRecDepth 100000 in
theorem impl_PastsOf.calls (k : Nat) (a0_0 : Int) (a0_1 : Int) (a0_2 : Int) (a1 : ByteArray) (a977_0 : Int) (r1 : List ByteArray) (r2 : Int) (w : World) (hx977 : w.heap[0]? = some (.cells #[.int .i64 a977_0] 3 (0, 0))) (h : impl_PastsOf.f k a0_0 a0_1 a0_2 a1 a977_0 = some (r1, r2)) :
    Calls Tryd.prog 7 #[.agg #[.int .i8 a0_0, .int .u8 a0_1, .int .u8 a0_2], .string a1] w fun e w' => ∃ v0_ : Value, e = .returned (.tuple #[v0_, .int .i64 r2]) ∧ Kd.R Kd.string 9 w' w.heap.size (fun _ => True) v0_ r1 ∧ Below w.heap.size w w' := by
 have hu28 := Tryd.underlying28
 have BK977 := ak hx977
 clear hx977
 have HB := ak (Below.refl w.heap.size w)
 have H : ((impl_ValidHabit.f a0_0 a0_1 a0_2).bind fun t243 => (if t243 = true then ((impl_IsWord.f k a1).bind fun t244 => (impl_PastsOf.j0 k a1 (!t244) a0_0 a0_1 a0_2 a977_0)) else (impl_PastsOf.j0 k a1 true a0_0 a0_1 a0_2 a977_0))) = some (r1, r2) := h
 clear h
 have HC4 := ak H
 clear H
 go_enter Tryd.func7, Tryd.ntmps7
 go_upto_region 1 with (first | ((with_reducible refine gate_dst (N := 2) rfl ?_); refine box_event ?hg (N := 2) ?hd (cs := #[.int .i8 a0_0, .int .u8 a0_1, .int .u8 a0_2]) (t := 28) ?hr ?_; (case hd => rfl); (case hg => rfl); (case hr => first | (go_simp; done) | (go_simp; rfl)); intro gb242 hg w5 hbox hb; have n0_ := ak (blk_below (g := 0) (o := .cells #[.int .i64 a977_0] 3 (0, 0)) (zK BK977.out) hb); have n1_ := ak (below_step (zB HB.out) hb); have n2_ := ak (hbox); have n3_ := ak ((by rw [hg]; exact (below_size (zB HB.out)) : w.heap.size ≤ gb242)); have n4_ := ak ((by rw [hg]; exact (below_size (zB HB.out)) : w.heap.size ≤ gb242)); have n5_ := ak ((by rw [hg]; exact Nat.ne_of_lt (blk_lt (g := 0) (o := .cells #[.int .i64 a977_0] 3 (0, 0)) (zK BK977.out)) : 0 ≠ gb242)); have n6_ := ak ((by rw [hg]; exact Nat.ne_of_gt (blk_lt (g := 0) (o := .cells #[.int .i64 a977_0] 3 (0, 0)) (zK BK977.out)) : gb242 ≠ 0)); clear BK977 HB; have BK977 := n0_; have HB := n1_; have BK242 := n2_; have GW242 := n3_; have GE242 := n4_; have NB977_242 := n5_; have NB242_977 := n6_; clear n0_ n1_ n2_ n3_ n4_ n5_ n6_; clear hb hbox hg))
 (try simp only [Act.put, zs, zz, zk])
 go_cut [14] (fun v14 wc => ∃ (kq : Nat) (x14_3 : Bool), v14 = .bool x14_3 ∧ Aside0 (impl_PastsOf.j0 kq a1 x14_3 a0_0 a0_1 a0_2 a977_0 = some (r1, r2)) ∧ Aside0 (kq ≤ k) ∧ Aside0 (wc.heap[0]? = some (.cells #[.int .i64 a977_0] 3 (0, 0))) ∧ Aside0 (wc.heap[gb242]? = some (.cells #[.int .i8 a0_0, .int .u8 a0_1, .int .u8 a0_2] 28 (0, 0))) ∧ Aside0 (Below w.heap.size w wc))
 case first => (
 have H := HC4.out
 clear HC4
 replace H := Option.bind_eq_some_iff.mp H
 obtain ⟨t243, A60, H⟩ := H
 replace H : (if t243 = true then ((impl_IsWord.f k a1).bind fun t244 => (impl_PastsOf.j0 k a1 (!t244) a0_0 a0_1 a0_2 a977_0)) else (impl_PastsOf.j0 k a1 true a0_0 a0_1 a0_2 a977_0)) = some (r1, r2) := H
 have A6 := ak A60
 clear A60
 by_cases c7 : t243 = true
 {
 subst c7
 have H1 : ((impl_IsWord.f k a1).bind fun t244 => (impl_PastsOf.j0 k a1 (!t244) a0_0 a0_1 a0_2 a977_0)) = some (r1, r2) := by rw [if_pos rfl] at H; exact H
 clear H
 have H := H1
 clear H1
 replace H := Option.bind_eq_some_iff.mp H
 obtain ⟨t244, A80, H⟩ := H
 replace H : (impl_PastsOf.j0 k a1 (!t244) a0_0 a0_1 a0_2 a977_0) = some (r1, r2) := H
 have A8 := ak A80
 clear A80
 have H' := ak H
 clear H
 have hnb9 := NB242_977.out
 have hnc9 := NB977_242.out
 have hcz10_0 : w5.cell? ⟨gb242, 0, none⟩ = some (.int .i8 a0_0) := (blk_cell BK242.out 0).trans rfl
 have hcz10_1 : w5.cell? ⟨gb242, 1, none⟩ = some (.int .u8 a0_1) := (blk_cell BK242.out 1).trans rfl
 have hcz10_2 : w5.cell? ⟨gb242, 2, none⟩ = some (.int .u8 a0_2) := (blk_cell BK242.out 2).trans rfl
 have hfz10_0 := blk_frozen BK242.out 0
 have hfz10_1 := blk_frozen BK242.out 1
 have hfz10_2 := blk_frozen BK242.out 2
 go_wp2_with (first | ((with_reducible refine gate_callee (f := 19) rfl ?_); refine goesL_ (some 8) rfl rfl Tryd.func19 (by kernel_rfl) rfl #[.agg #[.int .i8 a0_0, .int .u8 a0_1, .int .u8 a0_2]] rfl (by (try simp only [List.map_toArray, List.map_cons, List.map_nil]); first | done | rfl | (simp only [List.length_drop, List.length_take]; rfl)) ?_; (with_reducible refine (impl_ValidHabit.calls a0_0 a0_1 a0_2 true _ A6.out).mono ?_); rintro e w11 ⟨rfl, hb⟩; refine ⟨_, rfl, ?_⟩; have n0_ := ak (blk_below (g := 0) (o := .cells #[.int .i64 a977_0] 3 (0, 0)) (zK BK977.out) hb); have n1_ := ak (blk_below (g := gb242) (o := .cells #[.int .i8 a0_0, .int .u8 a0_1, .int .u8 a0_2] 28 (0, 0)) (zK BK242.out) hb); have n2_ := ak (below_step (by repeat (first | (with_reducible first | exact HB.out | apply below_alloc | apply pw_below_drewN | apply below_drew1 | refine below_set ?_ GE977.out | refine below_set ?_ GE242.out) | exact HB.out)) hb); clear BK977 BK242 HB; have BK977 := n0_; have BK242 := n1_; have HB := n2_; clear n0_ n1_ n2_; (try clear hb); (try clear hb2); (try clear hk); (try clear hi)) | (go_at_call 20; (with_reducible refine (impl_IsWord.calls k a1 t244 _ A8.out).mono ?_); rintro e w' ⟨rfl, ⟨nd, rfl⟩⟩))
 go_meet
 case rel => exact ⟨_, (!t244), (by first | rfl | (simp; done) | (simp [*]; done)), H', ⟨by first | omega | exact Nat.le_refl _⟩, ⟨by (with_reducible repeat (first | refine blk_drewN ?_ _ | refine blk_drew ?_ | refine blk_alloc ?_ _)); exact BK977.out⟩, ⟨by (with_reducible repeat (first | refine blk_drewN ?_ _ | refine blk_drew ?_ | refine blk_alloc ?_ _)); exact BK242.out⟩, ⟨by repeat (first | (with_reducible first | exact HB.out | apply below_alloc | apply pw_below_drewN | apply below_drew1 | refine below_set ?_ GE977.out | refine below_set ?_ GE242.out) | exact HB.out)⟩⟩
 }
 {
 replace c7 := Bool.eq_false_iff.mpr c7
 subst c7
 have H1 : (impl_PastsOf.j0 k a1 true a0_0 a0_1 a0_2 a977_0) = some (r1, r2) := by rw [if_neg (show ¬ (false = true) by decide)] at H; exact H
 clear H
 have H := H1
 clear H1
 have H' := ak H
 clear H
 have hnb12 := NB242_977.out
 have hnc12 := NB977_242.out
 have hcz13_0 : w5.cell? ⟨gb242, 0, none⟩ = some (.int .i8 a0_0) := (blk_cell BK242.out 0).trans rfl
 have hcz13_1 : w5.cell? ⟨gb242, 1, none⟩ = some (.int .u8 a0_1) := (blk_cell BK242.out 1).trans rfl
 have hcz13_2 : w5.cell? ⟨gb242, 2, none⟩ = some (.int .u8 a0_2) := (blk_cell BK242.out 2).trans rfl
 have hfz13_0 := blk_frozen BK242.out 0
 have hfz13_1 := blk_frozen BK242.out 1
 have hfz13_2 := blk_frozen BK242.out 2
 go_wp2_with (first | ((with_reducible refine gate_callee (f := 19) rfl ?_); refine goesL_ (some 8) rfl rfl Tryd.func19 (by kernel_rfl) rfl #[.agg #[.int .i8 a0_0, .int .u8 a0_1, .int .u8 a0_2]] rfl (by (try simp only [List.map_toArray, List.map_cons, List.map_nil]); first | done | rfl | (simp only [List.length_drop, List.length_take]; rfl)) ?_; (with_reducible refine (impl_ValidHabit.calls a0_0 a0_1 a0_2 false _ A6.out).mono ?_); rintro e w14 ⟨rfl, hb⟩; refine ⟨_, rfl, ?_⟩; have n0_ := ak (blk_below (g := 0) (o := .cells #[.int .i64 a977_0] 3 (0, 0)) (zK BK977.out) hb); have n1_ := ak (blk_below (g := gb242) (o := .cells #[.int .i8 a0_0, .int .u8 a0_1, .int .u8 a0_2] 28 (0, 0)) (zK BK242.out) hb); have n2_ := ak (below_step (by repeat (first | (with_reducible first | exact HB.out | apply below_alloc | apply pw_below_drewN | apply below_drew1 | refine below_set ?_ GE977.out | refine below_set ?_ GE242.out) | exact HB.out)) hb); clear BK977 BK242 HB; have BK977 := n0_; have BK242 := n1_; have HB := n2_; clear n0_ n1_ n2_; (try clear hb); (try clear hb2); (try clear hk); (try clear hi)))
 go_meet
 case rel => exact ⟨_, (true), (by first | rfl | (simp; done) | (simp [*]; done)), H', ⟨by first | omega | exact Nat.le_refl _⟩, ⟨by (with_reducible repeat (first | refine blk_drewN ?_ _ | refine blk_drew ?_ | refine blk_alloc ?_ _)); exact BK977.out⟩, ⟨by (with_reducible repeat (first | refine blk_drewN ?_ _ | refine blk_drew ?_ | refine blk_alloc ?_ _)); exact BK242.out⟩, ⟨by repeat (first | (with_reducible first | exact HB.out | apply below_alloc | apply pw_below_drewN | apply below_drew1 | refine below_set ?_ GE977.out | refine below_set ?_ GE242.out) | exact HB.out)⟩⟩
 }
 )
 case rest => (
 clear HC4
 try clear c1
 try clear p2
 try clear c7
 try clear c9
 try clear hx9
 try clear c12
 try clear hcz10_0
 try clear hcz10_1
 try clear hcz10_2
 try clear hcz13_0
 try clear hcz13_1
 try clear hcz13_2
 try clear hfz10_0
 try clear hfz10_1
 try clear hfz10_2
 try clear hfz13_0
 try clear hfz13_1
 try clear hfz13_2
 obtain ⟨kq, x14_3, rfl, HA, HJ3, BK977, BK242, HB⟩ := hcut
 cases kq with
 | zero => exact absurd HA.out (by simp [impl_PastsOf.j0])
 | succ kj3 => (
 have H := HA.out
 clear HA
 simp only [impl_PastsOf.j0] at H
 by_cases c15 : x14_3 = true
 {
 subst c15
 have H1 : (some (([] : List ByteArray), 1)) = some (r1, r2) := by rw [if_pos rfl] at H; exact H
 clear H
 have H := H1
 clear H1
 simp only [Option.some.injEq, Prod.mk.injEq] at H
 obtain ⟨rfl, rfl⟩ := H
 go_wp2
 go_ret2
 exact ⟨_, by first | rfl | (simp [errW_none, errW_some] <;> rfl) | (simp [*, errW_none, errW_some] <;> rfl), by first | exact Kd.R_nil _ _ _ _ _ | exact Kd.N_nil _ _ _ _ _ | exact Kd.V_nil _ _ _ _ _ | exact Kd.Q_nil _ _ _ _ _ | exact Kd.S_nil _ _ _ _ _, by repeat (first | (with_reducible first | exact HB.out | apply below_alloc | apply pw_below_drewN | apply below_drew1 | refine below_set ?_ GE977.out | refine below_set ?_ GE242.out) | exact HB.out)⟩
 }
 {
 replace c15 := Bool.eq_false_iff.mpr c15
 subst c15
 have H1 : ((impl_Habit_pasts.f kj3 a0_0 a0_1 a0_2 a1 a977_0).bind fun t245 => (if (t245.length : Int) > 300 then (some (([] : List ByteArray), 3)) else (some (t245, 0)))) = some (r1, r2) := by rw [if_neg (show ¬ (false = true) by decide)] at H; exact H
 clear H
 have H := H1
 clear H1
 replace H := Option.bind_eq_some_iff.mp H
 obtain ⟨t245, A160, H⟩ := H
 replace H : (if (t245.length : Int) > 300 then (some (([] : List ByteArray), 3)) else (some (t245, 0))) = some (r1, r2) := H
 have A16 := ak A160
 clear A160
 by_cases c17 : (t245.length : Int) > 300
 {
 rw [if_pos c17] at H
 have c17b0 : decide (300 < (t245.length : Int)) = true := decide_eq_true c17
 have c17b1 : decide (300 < t245.length) = true := decide_eq_true (by omega)
 clear c17
 simp only [Option.some.injEq, Prod.mk.injEq] at H
 obtain ⟨rfl, rfl⟩ := H
 have hnb18 := NB242_977.out
 have hnc18 := NB977_242.out
 have hcz19_0 : wc.cell? ⟨gb242, 0, none⟩ = some (.int .i8 a0_0) := (blk_cell BK242.out 0).trans rfl
 have hcz19_1 : wc.cell? ⟨gb242, 1, none⟩ = some (.int .u8 a0_1) := (blk_cell BK242.out 1).trans rfl
 have hcz19_2 : wc.cell? ⟨gb242, 2, none⟩ = some (.int .u8 a0_2) := (blk_cell BK242.out 2).trans rfl
 have hfz19_0 := blk_frozen BK242.out 0
 have hfz19_1 := blk_frozen BK242.out 1
 have hfz19_2 := blk_frozen BK242.out 2
 go_wp2_with (first | ((with_reducible refine gate_callee (f := 21) rfl ?_); refine goesL_ (some 17) rfl rfl Tryd.func21 (by kernel_rfl) rfl #[.agg #[.int .i8 a0_0, .int .u8 a0_1, .int .u8 a0_2], .string a1] rfl (by (try simp only [List.map_toArray, List.map_cons, List.map_nil]); first | done | rfl | (simp only [List.length_drop, List.length_take]; rfl)) ?_; (with_reducible refine (impl_Habit_pasts.calls kj3 a0_0 a0_1 a0_2 a1 a977_0 t245 _ ?side1 A16.out).mono ?_); (case side1 => exact (by first | exact BK977.out | ((with_reducible repeat (first | refine blk_drewN ?_ _ | refine blk_drew ?_ | refine blk_alloc ?_ _)); exact BK977.out))); rintro e w20 ⟨v246, rfl, ho0, hb⟩; refine ⟨_, rfl, ?_⟩; have n0_ := ak (Kd.R_lower ho0 (below_size (by repeat (first | (with_reducible first | exact HB.out | apply below_alloc | apply pw_below_drewN | apply below_drew1 | refine below_set ?_ GE977.out | refine below_set ?_ GE242.out) | exact HB.out)))); have n1_ := ak (blk_below (g := 0) (o := .cells #[.int .i64 a977_0] 3 (0, 0)) (zK BK977.out) hb); have n2_ := ak (blk_below (g := gb242) (o := .cells #[.int .i8 a0_0, .int .u8 a0_1, .int .u8 a0_2] 28 (0, 0)) (zK BK242.out) hb); have n3_ := ak (below_step (by repeat (first | (with_reducible first | exact HB.out | apply below_alloc | apply pw_below_drewN | apply below_drew1 | refine below_set ?_ GE977.out | refine below_set ?_ GE242.out) | exact HB.out)) hb); clear BK977 BK242 HB; have HO247 := n0_; have BK977 := n1_; have BK242 := n2_; have HB := n3_; clear n0_ n1_ n2_ n3_; (try clear hb); (try clear hb2); (try clear hk); (try clear hi); (try clear ho0); obtain ⟨Ao21, co21, eo21⟩ := Kd.R_slice HO247.out; subst eo21))
 go_ret2
 exact ⟨_, by first | rfl | (simp [errW_none, errW_some] <;> rfl) | (simp [*, errW_none, errW_some] <;> rfl), by first | exact Kd.R_nil _ _ _ _ _ | exact Kd.N_nil _ _ _ _ _ | exact Kd.V_nil _ _ _ _ _ | exact Kd.Q_nil _ _ _ _ _ | exact Kd.S_nil _ _ _ _ _, by repeat (first | (with_reducible first | exact HB.out | apply below_alloc | apply pw_below_drewN | apply below_drew1 | refine below_set ?_ GE977.out | refine below_set ?_ GE242.out) | exact HB.out)⟩
 }
 {
 rw [if_neg c17] at H
 have c17b0 : decide (300 < (t245.length : Int)) = false := decide_eq_false c17
 have c17b1 : decide (300 < t245.length) = false := decide_eq_false (by omega)
 clear c17
 simp only [Option.some.injEq, Prod.mk.injEq] at H
 obtain ⟨rfl, rfl⟩ := H
 have hnb22 := NB242_977.out
 have hnc22 := NB977_242.out
 have hcz23_0 : wc.cell? ⟨gb242, 0, none⟩ = some (.int .i8 a0_0) := (blk_cell BK242.out 0).trans rfl
 have hcz23_1 : wc.cell? ⟨gb242, 1, none⟩ = some (.int .u8 a0_1) := (blk_cell BK242.out 1).trans rfl
 have hcz23_2 : wc.cell? ⟨gb242, 2, none⟩ = some (.int .u8 a0_2) := (blk_cell BK242.out 2).trans rfl
 have hfz23_0 := blk_frozen BK242.out 0
 have hfz23_1 := blk_frozen BK242.out 1
 have hfz23_2 := blk_frozen BK242.out 2
 go_wp2_with (first | ((with_reducible refine gate_callee (f := 21) rfl ?_); refine goesL_ (some 17) rfl rfl Tryd.func21 (by kernel_rfl) rfl #[.agg #[.int .i8 a0_0, .int .u8 a0_1, .int .u8 a0_2], .string a1] rfl (by (try simp only [List.map_toArray, List.map_cons, List.map_nil]); first | done | rfl | (simp only [List.length_drop, List.length_take]; rfl)) ?_; (with_reducible refine (impl_Habit_pasts.calls kj3 a0_0 a0_1 a0_2 a1 a977_0 t245 _ ?side1 A16.out).mono ?_); (case side1 => exact (by first | exact BK977.out | ((with_reducible repeat (first | refine blk_drewN ?_ _ | refine blk_drew ?_ | refine blk_alloc ?_ _)); exact BK977.out))); rintro e w24 ⟨v246, rfl, ho0, hb⟩; refine ⟨_, rfl, ?_⟩; have n0_ := ak (Kd.R_lower ho0 (below_size (by repeat (first | (with_reducible first | exact HB.out | apply below_alloc | apply pw_below_drewN | apply below_drew1 | refine below_set ?_ GE977.out | refine below_set ?_ GE242.out) | exact HB.out)))); have n1_ := ak (blk_below (g := 0) (o := .cells #[.int .i64 a977_0] 3 (0, 0)) (zK BK977.out) hb); have n2_ := ak (blk_below (g := gb242) (o := .cells #[.int .i8 a0_0, .int .u8 a0_1, .int .u8 a0_2] 28 (0, 0)) (zK BK242.out) hb); have n3_ := ak (below_step (by repeat (first | (with_reducible first | exact HB.out | apply below_alloc | apply pw_below_drewN | apply below_drew1 | refine below_set ?_ GE977.out | refine below_set ?_ GE242.out) | exact HB.out)) hb); clear BK977 BK242 HB; have HO247 := n0_; have BK977 := n1_; have BK242 := n2_; have HB := n3_; clear n0_ n1_ n2_ n3_; (try clear hb); (try clear hb2); (try clear hk); (try clear hi); (try clear ho0); obtain ⟨Ao25, co25, eo25⟩ := Kd.R_slice HO247.out; subst eo25))
 go_ret2
 exact ⟨_, by first | rfl | (simp [errW_none, errW_some] <;> rfl) | (simp [*, errW_none, errW_some] <;> rfl), by (with_reducible repeat (first | apply Kd.R_alloc | apply Kd.R_drewN | apply Kd.R_drew)); exact HO247.out, by repeat (first | (with_reducible first | exact HB.out | apply below_alloc | apply pw_below_drewN | apply below_drew1 | refine below_set ?_ GE977.out | refine below_set ?_ GE242.out) | exact HB.out)⟩
 }
 }
 )
 )
/-! ### laws_FnExactPastsOf: function 3 -/
mutual
def laws_FnExactPastsOf.j0 : Nat → ByteArray → List ByteArray → Int → List ByteArray → Bool → Int → Int → Int → Int → Option (Bool)
  | 0, _, _, _, _, _, _, _, _, _ => none
  | k + 1, x1, x5, x6, x7, x38, x258000, x258001, x258002, x978000 => if x38 = true then (some false) else ((laws_markStringS.f k x7 1).bind fun bt273 => ((laws_heldStringS.f k bt273.2 1).bind fun t275 => (if t275 < 0 then (some false) else (if t275 = bt273.1 then ((laws_toHabit.f x258000 x258001 x258002).bind fun bt276 => ((impl_PastsOf.f k bt276.1 bt276.2.1 bt276.2.2 x1 x978000).bind fun bt279 => ((laws_eqStringS.f k bt279.1 x5).bind fun t283 => (if t283 = true then (laws_FnExactPastsOf.j1 k bt273.2 bt273.1 (bt279.2 != x6)) else (laws_FnExactPastsOf.j1 k bt273.2 bt273.1 true))))) else (some false)))))
def laws_FnExactPastsOf.j1 : Nat → List ByteArray → Int → Bool → Option (Bool)
  | 0, _, _, _ => none
  | k + 1, x7, x9, x65 => if x65 = true then (some false) else ((laws_heldStringS.f k x7 1).bind fun t284 => (if t284 < 0 then (some false) else (if t284 = x9 then (some true) else (some false))))
end
def laws_FnExactPastsOf.f (k : Nat) (a0_0 : Int) (a0_1 : Int) (a0_2 : Int) (a1 : ByteArray) (a977_0 : Int) : Option (Bool) := if (a1.size : Int) > 1048576 then (some true) else ((laws_toHabit.f a0_0 a0_1 a0_2).bind fun bt258 => ((spec_PastsOf.f k bt258.1 bt258.2.1 bt258.2.2 a1).bind fun bt261 => ((laws_toHabit.f a0_0 a0_1 a0_2).bind fun bt265 => ((impl_PastsOf.f k bt265.1 bt265.2.1 bt265.2.2 a1 a977_0).bind fun bt268 => ((laws_eqStringS.f k bt268.1 bt261.1).bind fun t272 => (if t272 = true then (laws_FnExactPastsOf.j0 k a1 bt261.1 bt261.2 bt268.1 (bt268.2 != bt261.2) a0_0 a0_1 a0_2 a977_0) else (laws_FnExactPastsOf.j0 k a1 bt261.1 bt261.2 bt268.1 true a0_0 a0_1 a0_2 a977_0)))))))
theorem laws_FnExactPastsOf.mono_l : ∀ k, (∀ y0 y1 y2 y3 y4 y5 y6 y7 y8, LeO (laws_FnExactPastsOf.j0 k y0 y1 y2 y3 y4 y5 y6 y7 y8) (laws_FnExactPastsOf.j0 (k + 1) y0 y1 y2 y3 y4 y5 y6 y7 y8)) ∧ (∀ y0 y1 y2, LeO (laws_FnExactPastsOf.j1 k y0 y1 y2) (laws_FnExactPastsOf.j1 (k + 1) y0 y1 y2))
  | 0 => ⟨fun _ _ _ _ _ _ _ _ _ r h => by simp [laws_FnExactPastsOf.j0] at h, fun _ _ _ r h => by simp [laws_FnExactPastsOf.j1] at h⟩
  | k + 1 => by
    obtain ⟨ih0, ih1⟩ := laws_FnExactPastsOf.mono_l k
    refine ⟨?_, ?_⟩
    · intro y0 y1 y2 y3 y4 y5 y6 y7 y8
      unfold laws_FnExactPastsOf.j0
      repeat' first
      | (with_reducible exact ih0 _ _ _ _ _ _ _ _ _)
      | (with_reducible exact ih1 _ _ _)
      | (with_reducible exact impl_PastsOf.mono _ _ _ _ _ _)
      | (with_reducible exact laws_eqStringS.mono _ _ _)
      | (with_reducible exact laws_heldStringS.mono _ _ _)
      | (with_reducible exact laws_markStringS.mono _ _ _)
      | (with_reducible exact spec_PastsOf.mono _ _ _ _ _)
      | (with_reducible exact LeO.refl _)
      | (with_reducible exact LeO.none _)
      | (with_reducible refine LeO.ite ?_ ?_)
      | (with_reducible refine LeO.bind ?_ (fun _ => ?_))
      | exact ih0 _ _ _ _ _ _ _ _ _
      | exact ih1 _ _ _
      | exact impl_PastsOf.mono _ _ _ _ _ _
      | exact laws_eqStringS.mono _ _ _
      | exact laws_heldStringS.mono _ _ _
      | exact laws_markStringS.mono _ _ _
      | exact spec_PastsOf.mono _ _ _ _ _
      | exact LeO.none _
      | refine LeO.ite ?_ ?_
      | refine LeO.bind ?_ (fun _ => ?_)
    · intro y0 y1 y2
      unfold laws_FnExactPastsOf.j1
      repeat' first
      | (with_reducible exact ih0 _ _ _ _ _ _ _ _ _)
      | (with_reducible exact ih1 _ _ _)
      | (with_reducible exact impl_PastsOf.mono _ _ _ _ _ _)
      | (with_reducible exact laws_eqStringS.mono _ _ _)
      | (with_reducible exact laws_heldStringS.mono _ _ _)
      | (with_reducible exact laws_markStringS.mono _ _ _)
      | (with_reducible exact spec_PastsOf.mono _ _ _ _ _)
      | (with_reducible exact LeO.refl _)
      | (with_reducible exact LeO.none _)
      | (with_reducible refine LeO.ite ?_ ?_)
      | (with_reducible refine LeO.bind ?_ (fun _ => ?_))
      | exact ih0 _ _ _ _ _ _ _ _ _
      | exact ih1 _ _ _
      | exact impl_PastsOf.mono _ _ _ _ _ _
      | exact laws_eqStringS.mono _ _ _
      | exact laws_heldStringS.mono _ _ _
      | exact laws_markStringS.mono _ _ _
      | exact spec_PastsOf.mono _ _ _ _ _
      | exact LeO.none _
      | refine LeO.ite ?_ ?_
      | refine LeO.bind ?_ (fun _ => ?_)
theorem laws_FnExactPastsOf.mono : ∀ a0 a1 a2 a3 a4 k, LeO (laws_FnExactPastsOf.f k a0 a1 a2 a3 a4) (laws_FnExactPastsOf.f (k + 1) a0 a1 a2 a3 a4) := by
  intro a0 a1 a2 a3 a4 k
  obtain ⟨ih0, ih1⟩ := laws_FnExactPastsOf.mono_l k
  unfold laws_FnExactPastsOf.f
  repeat' first
      | (with_reducible exact ih0 _ _ _ _ _ _ _ _ _)
      | (with_reducible exact ih1 _ _ _)
      | (with_reducible exact impl_PastsOf.mono _ _ _ _ _ _)
      | (with_reducible exact laws_eqStringS.mono _ _ _)
      | (with_reducible exact laws_heldStringS.mono _ _ _)
      | (with_reducible exact laws_markStringS.mono _ _ _)
      | (with_reducible exact spec_PastsOf.mono _ _ _ _ _)
      | (with_reducible exact LeO.refl _)
      | (with_reducible exact LeO.none _)
      | (with_reducible refine LeO.ite ?_ ?_)
      | (with_reducible refine LeO.bind ?_ (fun _ => ?_))
      | exact ih0 _ _ _ _ _ _ _ _ _
      | exact ih1 _ _ _
      | exact impl_PastsOf.mono _ _ _ _ _ _
      | exact laws_eqStringS.mono _ _ _
      | exact laws_heldStringS.mono _ _ _
      | exact laws_markStringS.mono _ _ _
      | exact spec_PastsOf.mono _ _ _ _ _
      | exact LeO.none _
      | refine LeO.ite ?_ ?_
      | refine LeO.bind ?_ (fun _ => ?_)
set_option maxHeartbeats 8000000 in
set_option maxRecDepth 100000 in
theorem laws_FnExactPastsOf.calls (k : Nat) (a0_0 : Int) (a0_1 : Int) (a0_2 : Int) (a1 : ByteArray) (a977_0 : Int) (r : Bool) (w : World) (hx977 : w.heap[0]? = some (.cells #[.int .i64 a977_0] 3 (0, 0))) (hT : r = true) (h : laws_FnExactPastsOf.f k a0_0 a0_1 a0_2 a1 a977_0 = some r) :
    Calls Tryd.prog 3 #[.agg #[.int .i8 a0_0, .int .u8 a0_1, .int .u8 a0_2], .string a1] w fun e w' => e = .returned (.bool r) ∧ Below w.heap.size w w' := by
 have hu24 := Tryd.underlying24
 have HT := ak hT
 clear hT
 have BK977 := ak hx977
 clear hx977
 have HB := ak (Below.refl w.heap.size w)
 have H : (if (a1.size : Int) > 1048576 then (some true) else ((laws_toHabit.f a0_0 a0_1 a0_2).bind fun bt258 => ((spec_PastsOf.f k bt258.1 bt258.2.1 bt258.2.2 a1).bind fun bt261 => ((laws_toHabit.f a0_0 a0_1 a0_2).bind fun bt265 => ((impl_PastsOf.f k bt265.1 bt265.2.1 bt265.2.2 a1 a977_0).bind fun bt268 => ((laws_eqStringS.f k bt268.1 bt261.1).bind fun t272 => (if t272 = true then (laws_FnExactPastsOf.j0 k a1 bt261.1 bt261.2 bt268.1 (bt268.2 != bt261.2) a0_0 a0_1 a0_2 a977_0) else (laws_FnExactPastsOf.j0 k a1 bt261.1 bt261.2 bt268.1 true a0_0 a0_1 a0_2 a977_0)))))))) = some r := h
 clear h
 by_cases c4 : (a1.size : Int) > 1048576
 {
 rw [if_pos c4] at H
 have c4b0 : decide (1048576 < (a1.size : Int)) = true := decide_eq_true c4
 have c4b1 : decide (1048576 < a1.size) = true := decide_eq_true (by omega)
 clear c4
 obtain rfl := Option.some.inj H
 go_enter Tryd.func3, Tryd.ntmps3
 go_wp2_with (first | ((with_reducible refine gate_dst (N := 2) rfl ?_); refine box_event ?hg (N := 2) ?hd (cs := #[.int .i8 a0_0, .int .u8 a0_1, .int .u8 a0_2]) (t := 24) ?hr ?_; (case hd => rfl); (case hg => rfl); (case hr => first | (go_simp; done) | (go_simp; rfl)); intro gb257 hg w5 hbox hb; have n0_ := ak (blk_below (g := 0) (o := .cells #[.int .i64 a977_0] 3 (0, 0)) (zK BK977.out) hb); have n1_ := ak (below_step (zB HB.out) hb); have n2_ := ak (hbox); have n3_ := ak ((by rw [hg]; exact (below_size (zB HB.out)) : w.heap.size ≤ gb257)); have n4_ := ak ((by rw [hg]; exact (below_size (zB HB.out)) : w.heap.size ≤ gb257)); have n5_ := ak ((by rw [hg]; exact Nat.ne_of_lt (blk_lt (g := 0) (o := .cells #[.int .i64 a977_0] 3 (0, 0)) (zK BK977.out)) : 0 ≠ gb257)); have n6_ := ak ((by rw [hg]; exact Nat.ne_of_gt (blk_lt (g := 0) (o := .cells #[.int .i64 a977_0] 3 (0, 0)) (zK BK977.out)) : gb257 ≠ 0)); clear BK977 HB; have BK977 := n0_; have HB := n1_; have BK257 := n2_; have GW257 := n3_; have GE257 := n4_; have NB977_257 := n5_; have NB257_977 := n6_; clear n0_ n1_ n2_ n3_ n4_ n5_ n6_; clear hb hbox hg))
 go_ret
 exact ⟨by first | rfl | (simp [errW_none, errW_some] <;> rfl) | (simp [*, errW_none, errW_some] <;> rfl), by repeat (first | (with_reducible first | exact HB.out | apply below_alloc | apply pw_below_drewN | apply below_drew1 | refine below_set ?_ GE977.out | refine below_set ?_ GE257.out) | exact HB.out)⟩
 }
 {
 rw [if_neg c4] at H
 have c4b0 : decide (1048576 < (a1.size : Int)) = false := decide_eq_false c4
 have c4b1 : decide (1048576 < a1.size) = false := decide_eq_false (by omega)
 clear c4
 replace H := Option.bind_eq_some_iff.mp H
 obtain ⟨⟨t258, t259, t260⟩, A60, H⟩ := H
 replace H : ((spec_PastsOf.f k t258 t259 t260 a1).bind fun bt261 => ((laws_toHabit.f a0_0 a0_1 a0_2).bind fun bt265 => ((impl_PastsOf.f k bt265.1 bt265.2.1 bt265.2.2 a1 a977_0).bind fun bt268 => ((laws_eqStringS.f k bt268.1 bt261.1).bind fun t272 => (if t272 = true then (laws_FnExactPastsOf.j0 k a1 bt261.1 bt261.2 bt268.1 (bt268.2 != bt261.2) a0_0 a0_1 a0_2 a977_0) else (laws_FnExactPastsOf.j0 k a1 bt261.1 bt261.2 bt268.1 true a0_0 a0_1 a0_2 a977_0)))))) = some r := H
 have A6 := ak A60
 clear A60
 replace H := Option.bind_eq_some_iff.mp H
 obtain ⟨⟨t261, t264⟩, A70, H⟩ := H
 replace H : ((laws_toHabit.f a0_0 a0_1 a0_2).bind fun bt265 => ((impl_PastsOf.f k bt265.1 bt265.2.1 bt265.2.2 a1 a977_0).bind fun bt268 => ((laws_eqStringS.f k bt268.1 t261).bind fun t272 => (if t272 = true then (laws_FnExactPastsOf.j0 k a1 t261 t264 bt268.1 (bt268.2 != t264) a0_0 a0_1 a0_2 a977_0) else (laws_FnExactPastsOf.j0 k a1 t261 t264 bt268.1 true a0_0 a0_1 a0_2 a977_0))))) = some r := H
 have A7 := ak A70
 clear A70
 replace H := Option.bind_eq_some_iff.mp H
 obtain ⟨⟨t265, t266, t267⟩, A80, H⟩ := H
 replace H : ((impl_PastsOf.f k t265 t266 t267 a1 a977_0).bind fun bt268 => ((laws_eqStringS.f k bt268.1 t261).bind fun t272 => (if t272 = true then (laws_FnExactPastsOf.j0 k a1 t261 t264 bt268.1 (bt268.2 != t264) a0_0 a0_1 a0_2 a977_0) else (laws_FnExactPastsOf.j0 k a1 t261 t264 bt268.1 true a0_0 a0_1 a0_2 a977_0)))) = some r := H
 have A8 := ak A80
 clear A80
 replace H := Option.bind_eq_some_iff.mp H
 obtain ⟨⟨t268, t271⟩, A90, H⟩ := H
 replace H : ((laws_eqStringS.f k t268 t261).bind fun t272 => (if t272 = true then (laws_FnExactPastsOf.j0 k a1 t261 t264 t268 (t271 != t264) a0_0 a0_1 a0_2 a977_0) else (laws_FnExactPastsOf.j0 k a1 t261 t264 t268 true a0_0 a0_1 a0_2 a977_0))) = some r := H
 have A9 := ak A90
 clear A90
 have HC10 := ak H
 clear H
 go_enter Tryd.func3, Tryd.ntmps3
 go_upto_region 5 with (first | ((with_reducible refine gate_dst (N := 2) rfl ?_); refine box_event ?hg (N := 2) ?hd (cs := #[.int .i8 a0_0, .int .u8 a0_1, .int .u8 a0_2]) (t := 24) ?hr ?_; (case hd => rfl); (case hg => rfl); (case hr => first | (go_simp; done) | (go_simp; rfl)); intro gb257 hg w11 hbox hb; have n0_ := ak (blk_below (g := 0) (o := .cells #[.int .i64 a977_0] 3 (0, 0)) (zK BK977.out) hb); have n1_ := ak (below_step (zB HB.out) hb); have n2_ := ak (hbox); have n3_ := ak ((by rw [hg]; exact (below_size (zB HB.out)) : w.heap.size ≤ gb257)); have n4_ := ak ((by rw [hg]; exact (below_size (zB HB.out)) : w.heap.size ≤ gb257)); have n5_ := ak ((by rw [hg]; exact Nat.ne_of_lt (blk_lt (g := 0) (o := .cells #[.int .i64 a977_0] 3 (0, 0)) (zK BK977.out)) : 0 ≠ gb257)); have n6_ := ak ((by rw [hg]; exact Nat.ne_of_gt (blk_lt (g := 0) (o := .cells #[.int .i64 a977_0] 3 (0, 0)) (zK BK977.out)) : gb257 ≠ 0)); clear BK977 HB; have BK977 := n0_; have HB := n1_; have BK257 := n2_; have GW257 := n3_; have GE257 := n4_; have NB977_257 := n5_; have NB257_977 := n6_; clear n0_ n1_ n2_ n3_ n4_ n5_ n6_; clear hb hbox hg; have hnb12 := NB257_977.out; have hnc12 := NB977_257.out; have hcz13_0 : w11.cell? ⟨gb257, 0, none⟩ = some (.int .i8 a0_0) := (blk_cell BK257.out 0).trans rfl; have hcz13_1 : w11.cell? ⟨gb257, 1, none⟩ = some (.int .u8 a0_1) := (blk_cell BK257.out 1).trans rfl; have hcz13_2 : w11.cell? ⟨gb257, 2, none⟩ = some (.int .u8 a0_2) := (blk_cell BK257.out 2).trans rfl; have hfz13_0 := blk_frozen BK257.out 0; have hfz13_1 := blk_frozen BK257.out 1; have hfz13_2 := blk_frozen BK257.out 2) | ((with_reducible refine gate_callee (f := 6) rfl ?_); refine goesL_ (some 18) rfl rfl Tryd.func6 (by kernel_rfl) rfl #[.agg #[.int .i8 a0_0, .int .u8 a0_1, .int .u8 a0_2]] rfl (by (try simp only [List.map_toArray, List.map_cons, List.map_nil]); first | done | rfl | (simp only [List.length_drop, List.length_take]; rfl)) ?_; (with_reducible refine (laws_toHabit.calls a0_0 a0_1 a0_2 t258 t259 t260 _ A6.out).mono ?_); rintro e w14 ⟨rfl, hb⟩; refine ⟨_, rfl, ?_⟩; have n0_ := ak (blk_below (g := 0) (o := .cells #[.int .i64 a977_0] 3 (0, 0)) (zK BK977.out) hb); have n1_ := ak (blk_below (g := gb257) (o := .cells #[.int .i8 a0_0, .int .u8 a0_1, .int .u8 a0_2] 24 (0, 0)) (zK BK257.out) hb); have n2_ := ak (below_step (by repeat (first | (with_reducible first | exact HB.out | apply below_alloc | apply pw_below_drewN | apply below_drew1 | refine below_set ?_ GE977.out | refine below_set ?_ GE257.out) | exact HB.out)) hb); clear BK977 BK257 HB; have BK977 := n0_; have BK257 := n1_; have HB := n2_; clear n0_ n1_ n2_; (try clear hb); (try clear hb2); (try clear hk); (try clear hi)) | ((with_reducible refine gate_callee (f := 5) rfl ?_); refine goesL_ (some 20) rfl rfl Tryd.func5 (by kernel_rfl) rfl #[.agg #[.int .i8 t258, .int .u8 t259, .int .u8 t260], .string a1] rfl (by (try simp only [List.map_toArray, List.map_cons, List.map_nil]); first | done | rfl | (simp only [List.length_drop, List.length_take]; rfl)) ?_; (with_reducible refine (spec_PastsOf.calls k t258 t259 t260 a1 t261 t264 _ A7.out).mono ?_); rintro e w15 ⟨v262, rfl, ho0, hb⟩; refine ⟨_, rfl, ?_⟩; have n0_ := ak (Kd.R_lower ho0 (below_size (by repeat (first | (with_reducible first | exact HB.out | apply below_alloc | apply pw_below_drewN | apply below_drew1 | refine below_set ?_ GE977.out | refine below_set ?_ GE257.out) | exact HB.out)))); have n1_ := ak (blk_below (g := 0) (o := .cells #[.int .i64 a977_0] 3 (0, 0)) (zK BK977.out) hb); have n2_ := ak (blk_below (g := gb257) (o := .cells #[.int .i8 a0_0, .int .u8 a0_1, .int .u8 a0_2] 24 (0, 0)) (zK BK257.out) hb); have n3_ := ak (below_step (by repeat (first | (with_reducible first | exact HB.out | apply below_alloc | apply pw_below_drewN | apply below_drew1 | refine below_set ?_ GE977.out | refine below_set ?_ GE257.out) | exact HB.out)) hb); clear BK977 BK257 HB; have HO263 := n0_; have BK977 := n1_; have BK257 := n2_; have HB := n3_; clear n0_ n1_ n2_ n3_; (try clear hb); (try clear hb2); (try clear hk); (try clear hi); (try clear ho0); have hcz16_0 : w15.cell? ⟨gb257, 0, none⟩ = some (.int .i8 a0_0) := (blk_cell BK257.out 0).trans rfl; have hcz16_1 : w15.cell? ⟨gb257, 1, none⟩ = some (.int .u8 a0_1) := (blk_cell BK257.out 1).trans rfl; have hcz16_2 : w15.cell? ⟨gb257, 2, none⟩ = some (.int .u8 a0_2) := (blk_cell BK257.out 2).trans rfl; have hfz16_0 := blk_frozen BK257.out 0; have hfz16_1 := blk_frozen BK257.out 1; have hfz16_2 := blk_frozen BK257.out 2) | ((with_reducible refine gate_callee (f := 6) rfl ?_); refine goesL_ (some 25) rfl rfl Tryd.func6 (by kernel_rfl) rfl #[.agg #[.int .i8 a0_0, .int .u8 a0_1, .int .u8 a0_2]] rfl (by (try simp only [List.map_toArray, List.map_cons, List.map_nil]); first | done | rfl | (simp only [List.length_drop, List.length_take]; rfl)) ?_; (with_reducible refine (laws_toHabit.calls a0_0 a0_1 a0_2 t265 t266 t267 _ A8.out).mono ?_); rintro e w17 ⟨rfl, hb⟩; refine ⟨_, rfl, ?_⟩; have n0_ := ak (Kd.R_below (zR HO263.out) hb); have n1_ := ak (blk_below (g := 0) (o := .cells #[.int .i64 a977_0] 3 (0, 0)) (zK BK977.out) hb); have n2_ := ak (blk_below (g := gb257) (o := .cells #[.int .i8 a0_0, .int .u8 a0_1, .int .u8 a0_2] 24 (0, 0)) (zK BK257.out) hb); have n3_ := ak (below_step (by repeat (first | (with_reducible first | exact HB.out | apply below_alloc | apply pw_below_drewN | apply below_drew1 | refine below_set ?_ GE977.out | refine below_set ?_ GE257.out) | exact HB.out)) hb); clear HO263 BK977 BK257 HB; have HO263 := n0_; have BK977 := n1_; have BK257 := n2_; have HB := n3_; clear n0_ n1_ n2_ n3_; (try clear hb); (try clear hb2); (try clear hk); (try clear hi)) | ((with_reducible refine gate_callee (f := 7) rfl ?_); refine goesL_ (some 27) rfl rfl Tryd.func7 (by kernel_rfl) rfl #[.agg #[.int .i8 t265, .int .u8 t266, .int .u8 t267], .string a1] rfl (by (try simp only [List.map_toArray, List.map_cons, List.map_nil]); first | done | rfl | (simp only [List.length_drop, List.length_take]; rfl)) ?_; (with_reducible refine (impl_PastsOf.calls k t265 t266 t267 a1 a977_0 t268 t271 _ ?side1 A9.out).mono ?_); (case side1 => exact (by first | exact BK977.out | ((with_reducible repeat (first | refine blk_drewN ?_ _ | refine blk_drew ?_ | refine blk_alloc ?_ _)); exact BK977.out))); rintro e w18 ⟨v269, rfl, ho0, hb⟩; refine ⟨_, rfl, ?_⟩; have n0_ := ak (Kd.R_elder' (zR HO263.out) (Kd.R_base ho0) hb); have n1_ := ak (Kd.R_lower (Kd.R_new' ho0 (Kd.R_lt (zR HO263.out))) (below_size (by repeat (first | (with_reducible first | exact HB.out | apply below_alloc | apply pw_below_drewN | apply below_drew1 | refine below_set ?_ GE977.out | refine below_set ?_ GE257.out) | exact HB.out)))); have n2_ := ak (blk_below (g := 0) (o := .cells #[.int .i64 a977_0] 3 (0, 0)) (zK BK977.out) hb); have n3_ := ak (blk_below (g := gb257) (o := .cells #[.int .i8 a0_0, .int .u8 a0_1, .int .u8 a0_2] 24 (0, 0)) (zK BK257.out) hb); have n4_ := ak (below_step (by repeat (first | (with_reducible first | exact HB.out | apply below_alloc | apply pw_below_drewN | apply below_drew1 | refine below_set ?_ GE977.out | refine below_set ?_ GE257.out) | exact HB.out)) hb); clear HO263 BK977 BK257 HB; have HO263 := n0_; have HO270 := n1_; have BK977 := n2_; have BK257 := n3_; have HB := n4_; clear n0_ n1_ n2_ n3_ n4_; (try clear hb); (try clear hb2); (try clear hk); (try clear hi); (try clear ho0)))
 (try simp only [Act.put, zs, zz, zk])
 go_cut [38] (fun v38 wc => ∃ (kq : Nat) (x38_9 : Bool), v38 = .bool x38_9 ∧ Aside0 (laws_FnExactPastsOf.j0 kq a1 t261 t264 t268 x38_9 a0_0 a0_1 a0_2 a977_0 = some r) ∧ Aside0 (kq ≤ k) ∧ Aside0 (Kd.R Kd.string 9 wc w.heap.size (fun k_ => some k_ ≠ (v269 : Value).ownBlock) v262 t261) ∧ Aside0 (Kd.R Kd.string 9 wc w.heap.size (fun k_ => some k_ ≠ (v262 : Value).ownBlock) v269 t268) ∧ Aside0 (wc.heap[0]? = some (.cells #[.int .i64 a977_0] 3 (0, 0))) ∧ Aside0 (wc.heap[gb257]? = some (.cells #[.int .i8 a0_0, .int .u8 a0_1, .int .u8 a0_2] 24 (0, 0))) ∧ Aside0 (Below w.heap.size w wc))
 case first => (
 have H := HC10.out
 clear HC10
 replace H := Option.bind_eq_some_iff.mp H
 obtain ⟨t272, A190, H⟩ := H
 replace H : (if t272 = true then (laws_FnExactPastsOf.j0 k a1 t261 t264 t268 (t271 != t264) a0_0 a0_1 a0_2 a977_0) else (laws_FnExactPastsOf.j0 k a1 t261 t264 t268 true a0_0 a0_1 a0_2 a977_0)) = some r := H
 have A19 := ak A190
 clear A190
 by_cases c20 : t272 = true
 {
 subst c20
 have H1 : (laws_FnExactPastsOf.j0 k a1 t261 t264 t268 (t271 != t264) a0_0 a0_1 a0_2 a977_0) = some r := by rw [if_pos rfl] at H; exact H
 clear H
 have H := H1
 clear H1
 have H' := ak H
 clear H
 obtain ⟨Ao21, co21, eo21⟩ := Kd.R_slice HO270.out
 subst eo21
 obtain ⟨Ao22, co22, eo22⟩ := Kd.R_slice HO263.out
 subst eo22
 go_wp2_with (first | ((with_reducible refine gate_callee (f := 8) rfl ?_); refine goesL_ (some 32) rfl rfl Tryd.func8 (by kernel_rfl) rfl #[.slice Ao21 t268.length co21, .slice Ao22 t261.length co22] rfl (by (try simp only [List.map_toArray, List.map_cons, List.map_nil]); first | done | rfl | (simp only [List.length_drop, List.length_take]; rfl)) ?_; (with_reducible refine (laws_eqStringS.calls k _ _ t268 _ _ t261 true _ ?side1 ?side2 ?side3 ?side4 A19.out).mono ?_); (case side1 => exact zC (Kd.R_reads' HO270.out).2.2); (case side2 => exact (Kd.R_reads' HO270.out).2.1); (case side3 => exact zC (Kd.R_reads' HO263.out).2.2); (case side4 => exact (Kd.R_reads' HO263.out).2.1); rintro e w' ⟨rfl, ⟨nd, rfl⟩⟩; refine ⟨_, rfl, ?_⟩))
 go_meet
 case rel => exact ⟨_, ((t271 != t264)), (by first | rfl | (simp; done) | (simp [*]; done)), H', ⟨by first | omega | exact Nat.le_refl _⟩, ⟨by (with_reducible repeat (first | apply Kd.R_alloc | apply Kd.R_drewN | apply Kd.R_drew)); exact Kd.R_mono HO263.out (fun _ hk => hk.2)⟩, ⟨by (with_reducible repeat (first | apply Kd.R_alloc | apply Kd.R_drewN | apply Kd.R_drew)); exact Kd.R_mono HO270.out (fun _ hk => hk.2)⟩, ⟨by (with_reducible repeat (first | refine blk_drewN ?_ _ | refine blk_drew ?_ | refine blk_alloc ?_ _)); exact BK977.out⟩, ⟨by (with_reducible repeat (first | refine blk_drewN ?_ _ | refine blk_drew ?_ | refine blk_alloc ?_ _)); exact BK257.out⟩, ⟨by repeat (first | (with_reducible first | exact HB.out | apply below_alloc | apply pw_below_drewN | apply below_drew1 | refine below_set ?_ GE977.out | refine below_set ?_ GE257.out) | exact HB.out)⟩⟩
 }
 {
 replace c20 := Bool.eq_false_iff.mpr c20
 subst c20
 have H1 : (laws_FnExactPastsOf.j0 k a1 t261 t264 t268 true a0_0 a0_1 a0_2 a977_0) = some r := by rw [if_neg (show ¬ (false = true) by decide)] at H; exact H
 clear H
 have H := H1
 clear H1
 have H' := ak H
 clear H
 obtain ⟨Ao23, co23, eo23⟩ := Kd.R_slice HO270.out
 subst eo23
 obtain ⟨Ao24, co24, eo24⟩ := Kd.R_slice HO263.out
 subst eo24
 go_wp2_with (first | ((with_reducible refine gate_callee (f := 8) rfl ?_); refine goesL_ (some 32) rfl rfl Tryd.func8 (by kernel_rfl) rfl #[.slice Ao23 t268.length co23, .slice Ao24 t261.length co24] rfl (by (try simp only [List.map_toArray, List.map_cons, List.map_nil]); first | done | rfl | (simp only [List.length_drop, List.length_take]; rfl)) ?_; (with_reducible refine (laws_eqStringS.calls k _ _ t268 _ _ t261 false _ ?side1 ?side2 ?side3 ?side4 A19.out).mono ?_); (case side1 => exact zC (Kd.R_reads' HO270.out).2.2); (case side2 => exact (Kd.R_reads' HO270.out).2.1); (case side3 => exact zC (Kd.R_reads' HO263.out).2.2); (case side4 => exact (Kd.R_reads' HO263.out).2.1); rintro e w' ⟨rfl, ⟨nd, rfl⟩⟩; refine ⟨_, rfl, ?_⟩))
 go_meet
 case rel => exact ⟨_, (true), (by first | rfl | (simp; done) | (simp [*]; done)), H', ⟨by first | omega | exact Nat.le_refl _⟩, ⟨by (with_reducible repeat (first | apply Kd.R_alloc | apply Kd.R_drewN | apply Kd.R_drew)); exact Kd.R_mono HO263.out (fun _ hk => hk.2)⟩, ⟨by (with_reducible repeat (first | apply Kd.R_alloc | apply Kd.R_drewN | apply Kd.R_drew)); exact Kd.R_mono HO270.out (fun _ hk => hk.2)⟩, ⟨by (with_reducible repeat (first | refine blk_drewN ?_ _ | refine blk_drew ?_ | refine blk_alloc ?_ _)); exact BK977.out⟩, ⟨by (with_reducible repeat (first | refine blk_drewN ?_ _ | refine blk_drew ?_ | refine blk_alloc ?_ _)); exact BK257.out⟩, ⟨by repeat (first | (with_reducible first | exact HB.out | apply below_alloc | apply pw_below_drewN | apply below_drew1 | refine below_set ?_ GE977.out | refine below_set ?_ GE257.out) | exact HB.out)⟩⟩
 }
 )
 case rest => (
 clear HC10
 try clear c1
 try clear c2
 try clear p2
 try clear c3
 try clear c4
 try clear c4b0
 try clear c4b1
 try clear c5
 try clear c6
 try clear c7
 try clear c8
 try clear hx9
 try clear c12
 try clear c20
 try clear hcz13_0
 try clear hcz13_1
 try clear hcz13_2
 try clear hcz16_0
 try clear hcz16_1
 try clear hcz16_2
 try clear hfz13_0
 try clear hfz13_1
 try clear hfz13_2
 try clear hfz16_0
 try clear hfz16_1
 try clear hfz16_2
 obtain ⟨kq, x38_9, rfl, HA, HJ9, HO_5, HO_7, BK977, BK257, HB⟩ := hcut
 cases kq with
 | zero => exact absurd HA.out (by simp [laws_FnExactPastsOf.j0])
 | succ kj9 => (
 have H := HA.out
 clear HA
 simp only [laws_FnExactPastsOf.j0] at H
 by_cases c25 : x38_9 = true
 {
 subst c25
 have H1 : (some false) = some r := by rw [if_pos rfl] at H; exact H
 clear H
 have H := H1
 clear H1
 exact absurd ((Option.some.inj H).trans HT.out) (by decide)
 }
 {
 replace c25 := Bool.eq_false_iff.mpr c25
 subst c25
 have H1 : ((laws_markStringS.f kj9 t268 1).bind fun bt273 => ((laws_heldStringS.f kj9 bt273.2 1).bind fun t275 => (if t275 < 0 then (some false) else (if t275 = bt273.1 then ((laws_toHabit.f a0_0 a0_1 a0_2).bind fun bt276 => ((impl_PastsOf.f kj9 bt276.1 bt276.2.1 bt276.2.2 a1 a977_0).bind fun bt279 => ((laws_eqStringS.f kj9 bt279.1 t261).bind fun t283 => (if t283 = true then (laws_FnExactPastsOf.j1 kj9 bt273.2 bt273.1 (bt279.2 != t264)) else (laws_FnExactPastsOf.j1 kj9 bt273.2 bt273.1 true))))) else (some false))))) = some r := by rw [if_neg (show ¬ (false = true) by decide)] at H; exact H
 clear H
 have H := H1
 clear H1
 replace H := Option.bind_eq_some_iff.mp H
 obtain ⟨⟨t273, t274⟩, A260, H⟩ := H
 replace H : ((laws_heldStringS.f kj9 t274 1).bind fun t275 => (if t275 < 0 then (some false) else (if t275 = t273 then ((laws_toHabit.f a0_0 a0_1 a0_2).bind fun bt276 => ((impl_PastsOf.f kj9 bt276.1 bt276.2.1 bt276.2.2 a1 a977_0).bind fun bt279 => ((laws_eqStringS.f kj9 bt279.1 t261).bind fun t283 => (if t283 = true then (laws_FnExactPastsOf.j1 kj9 t274 t273 (bt279.2 != t264)) else (laws_FnExactPastsOf.j1 kj9 t274 t273 true))))) else (some false)))) = some r := H
 have A26 := ak A260
 clear A260
 replace H := Option.bind_eq_some_iff.mp H
 obtain ⟨t275, A270, H⟩ := H
 replace H : (if t275 < 0 then (some false) else (if t275 = t273 then ((laws_toHabit.f a0_0 a0_1 a0_2).bind fun bt276 => ((impl_PastsOf.f kj9 bt276.1 bt276.2.1 bt276.2.2 a1 a977_0).bind fun bt279 => ((laws_eqStringS.f kj9 bt279.1 t261).bind fun t283 => (if t283 = true then (laws_FnExactPastsOf.j1 kj9 t274 t273 (bt279.2 != t264)) else (laws_FnExactPastsOf.j1 kj9 t274 t273 true))))) else (some false))) = some r := H
 have A27 := ak A270
 clear A270
 by_cases c28 : t275 < 0
 · rw [if_pos c28] at H; have c28b0 : decide (t275 < 0) = true := decide_eq_true c28; clear c28; exact absurd ((Option.some.inj H).trans HT.out) (by decide)
 {
 rw [if_neg c28] at H
 have c28b0 : decide (t275 < 0) = false := decide_eq_false c28
 clear c28
 by_cases c29 : t275 = t273
 {
 rw [if_pos c29] at H
 have c29b0 : (t275 == t273) = true := beq_iff_eq.mpr c29
 have c29b1 : (t275 != t273) = false := bne_eq_false_iff_eq.mpr c29
 clear c29
 replace H := Option.bind_eq_some_iff.mp H
 obtain ⟨⟨t276, t277, t278⟩, A300, H⟩ := H
 replace H : ((impl_PastsOf.f kj9 t276 t277 t278 a1 a977_0).bind fun bt279 => ((laws_eqStringS.f kj9 bt279.1 t261).bind fun t283 => (if t283 = true then (laws_FnExactPastsOf.j1 kj9 t274 t273 (bt279.2 != t264)) else (laws_FnExactPastsOf.j1 kj9 t274 t273 true)))) = some r := H
 have A30 := ak A300
 clear A300
 replace H := Option.bind_eq_some_iff.mp H
 obtain ⟨⟨t279, t282⟩, A310, H⟩ := H
 replace H : ((laws_eqStringS.f kj9 t279 t261).bind fun t283 => (if t283 = true then (laws_FnExactPastsOf.j1 kj9 t274 t273 (t282 != t264)) else (laws_FnExactPastsOf.j1 kj9 t274 t273 true))) = some r := H
 have A31 := ak A310
 clear A310
 have HC32 := ak H
 clear H
 obtain ⟨Ao33, co33, eo33⟩ := Kd.R_slice HO_7.out
 subst eo33
 go_upto_region 16 with (first | ((with_reducible refine gate_callee (f := 9) rfl ?_); refine goesL_ (some 41) rfl rfl Tryd.func9 (by kernel_rfl) rfl #[.slice Ao33 t268.length co33, .int .i64 1] rfl (by (try simp only [List.map_toArray, List.map_cons, List.map_nil]); first | done | rfl | (simp only [List.length_drop, List.length_take]; rfl)) ?_; (with_reducible refine (laws_markStringS.calls kj9 (fun k_ => some k_ = (.slice Ao33 t268.length co33 : Value).ownBlock) (.slice Ao33 t268.length co33) t268 1 t273 t274 w _ ?side1 ?side2 A26.out).mono ?_); (case side1 => repeat (first | (with_reducible first | exact HB.out | apply below_alloc | apply pw_below_drewN | apply below_drew1 | refine below_set ?_ GE977.out | refine below_set ?_ GE257.out) | exact HB.out)); (case side2 => exact Kd.R_tight rfl HO_7.out); rintro e w34 ⟨rfl, hy0, hb, hkp⟩; refine ⟨_, rfl, ?_⟩; have n0_ := ak (Kd.R_mono (ok' := fun k_ => some k_ ≠ (.slice Ao33 t268.length co33 : Value).ownBlock) (Kd.R_keptB (HO_5.out) hkp (fun k_ hk_ hs_ => (hk_) hs_)) (fun k_ hk_ => hk_.1)); have n1_ := ak (Kd.R_reok rfl hy0 (fun k_ e_ => HO_7.out.1 k_ e_)); have n2_ := ak (blk_kept (zK BK977.out) hkp (fun hs_ => (fun e_ => (Kd.R_ne HO_7.out BK977.out (by decide)) e_) hs_)); have n3_ := ak (blk_kept (zK BK257.out) hkp (fun hs_ => (fun e_ => (Kd.R_ne HO_7.out BK257.out (by decide)) e_) hs_)); have n4_ := ak (hb); clear HO_5 HO_7 BK977 BK257 HB; have HO_5 := n0_; have HO_7 := n1_; have BK977 := n2_; have BK257 := n3_; have HB := n4_; clear n0_ n1_ n2_ n3_ n4_; (try clear hb); (try clear hkp); (try clear hy0)) | ((with_reducible refine gate_callee (f := 10) rfl ?_); refine goesL_ (some 44) rfl rfl Tryd.func10 (by kernel_rfl) rfl #[.slice Ao33 t274.length co33, .int .i64 1] rfl (by (try simp only [List.map_toArray, List.map_cons, List.map_nil]); first | done | (rw [show t274.length = t268.length from (Kd.R_reads' HO_7.out).1.symm] <;> rfl) | rfl | (simp only [List.length_drop, List.length_take]; rfl)) ?_; (with_reducible refine (laws_heldStringS.calls kj9 _ _ t274 1 t275 _ ?side1 ?side2 A27.out).mono ?_); (case side1 => exact zC (Kd.R_reads' HO_7.out).2.2); (case side2 => rw [show t274.length = t268.length from (Kd.R_reads' HO_7.out).1.symm]; exact (Kd.R_reads' HO_7.out).2.1); rintro e w35 ⟨rfl, hb⟩; refine ⟨_, rfl, ?_⟩; have n0_ := ak (Kd.R_below (zR HO_5.out) hb); have n1_ := ak (Kd.R_below (zR HO_7.out) hb); have n2_ := ak (blk_below (g := 0) (o := .cells #[.int .i64 a977_0] 3 (0, 0)) (zK BK977.out) hb); have n3_ := ak (blk_below (g := gb257) (o := .cells #[.int .i8 a0_0, .int .u8 a0_1, .int .u8 a0_2] 24 (0, 0)) (zK BK257.out) hb); have n4_ := ak (below_step (by repeat (first | (with_reducible first | exact HB.out | apply below_alloc | apply pw_below_drewN | apply below_drew1 | refine below_set ?_ GE977.out | refine below_set ?_ GE257.out) | exact HB.out)) hb); clear HO_5 HO_7 BK977 BK257 HB; have HO_5 := n0_; have HO_7 := n1_; have BK977 := n2_; have BK257 := n3_; have HB := n4_; clear n0_ n1_ n2_ n3_ n4_; (try clear hb); (try clear hb2); (try clear hk); (try clear hi); have hnb36 := NB257_977.out; have hnc36 := NB977_257.out; have hcz37_0 : w35.cell? ⟨gb257, 0, none⟩ = some (.int .i8 a0_0) := (blk_cell BK257.out 0).trans rfl; have hcz37_1 : w35.cell? ⟨gb257, 1, none⟩ = some (.int .u8 a0_1) := (blk_cell BK257.out 1).trans rfl; have hcz37_2 : w35.cell? ⟨gb257, 2, none⟩ = some (.int .u8 a0_2) := (blk_cell BK257.out 2).trans rfl; have hfz37_0 := blk_frozen BK257.out 0; have hfz37_1 := blk_frozen BK257.out 1; have hfz37_2 := blk_frozen BK257.out 2) | ((with_reducible refine gate_callee (f := 6) rfl ?_); refine goesL_ (some 52) rfl rfl Tryd.func6 (by kernel_rfl) rfl #[.agg #[.int .i8 a0_0, .int .u8 a0_1, .int .u8 a0_2]] rfl (by (try simp only [List.map_toArray, List.map_cons, List.map_nil]); first | done | rfl | (simp only [List.length_drop, List.length_take]; rfl)) ?_; (with_reducible refine (laws_toHabit.calls a0_0 a0_1 a0_2 t276 t277 t278 _ A30.out).mono ?_); rintro e w38 ⟨rfl, hb⟩; refine ⟨_, rfl, ?_⟩; have n0_ := ak (Kd.R_below (zR HO_5.out) hb); have n1_ := ak (Kd.R_below (zR HO_7.out) hb); have n2_ := ak (blk_below (g := 0) (o := .cells #[.int .i64 a977_0] 3 (0, 0)) (zK BK977.out) hb); have n3_ := ak (blk_below (g := gb257) (o := .cells #[.int .i8 a0_0, .int .u8 a0_1, .int .u8 a0_2] 24 (0, 0)) (zK BK257.out) hb); have n4_ := ak (below_step (by repeat (first | (with_reducible first | exact HB.out | apply below_alloc | apply pw_below_drewN | apply below_drew1 | refine below_set ?_ GE977.out | refine below_set ?_ GE257.out) | exact HB.out)) hb); clear HO_5 HO_7 BK977 BK257 HB; have HO_5 := n0_; have HO_7 := n1_; have BK977 := n2_; have BK257 := n3_; have HB := n4_; clear n0_ n1_ n2_ n3_ n4_; (try clear hb); (try clear hb2); (try clear hk); (try clear hi)) | ((with_reducible refine gate_callee (f := 7) rfl ?_); refine goesL_ (some 54) rfl rfl Tryd.func7 (by kernel_rfl) rfl #[.agg #[.int .i8 t276, .int .u8 t277, .int .u8 t278], .string a1] rfl (by (try simp only [List.map_toArray, List.map_cons, List.map_nil]); first | done | rfl | (simp only [List.length_drop, List.length_take]; rfl)) ?_; (with_reducible refine (impl_PastsOf.calls kj9 t276 t277 t278 a1 a977_0 t279 t282 _ ?side1 A31.out).mono ?_); (case side1 => exact (by first | exact BK977.out | ((with_reducible repeat (first | refine blk_drewN ?_ _ | refine blk_drew ?_ | refine blk_alloc ?_ _)); exact BK977.out))); rintro e w39 ⟨v280, rfl, ho0, hb⟩; refine ⟨_, rfl, ?_⟩; have n0_ := ak (Kd.R_elder' (zR HO_5.out) (Kd.R_base ho0) hb); have n1_ := ak (Kd.R_elder' (zR HO_7.out) (Kd.R_base ho0) hb); have n2_ := ak (Kd.R_lower (Kd.R_new' (Kd.R_new' ho0 (Kd.R_lt (zR HO_5.out))) (Kd.R_lt (zR HO_7.out))) (below_size (by repeat (first | (with_reducible first | exact HB.out | apply below_alloc | apply pw_below_drewN | apply below_drew1 | refine below_set ?_ GE977.out | refine below_set ?_ GE257.out) | exact HB.out)))); have n3_ := ak (blk_below (g := 0) (o := .cells #[.int .i64 a977_0] 3 (0, 0)) (zK BK977.out) hb); have n4_ := ak (blk_below (g := gb257) (o := .cells #[.int .i8 a0_0, .int .u8 a0_1, .int .u8 a0_2] 24 (0, 0)) (zK BK257.out) hb); have n5_ := ak (below_step (by repeat (first | (with_reducible first | exact HB.out | apply below_alloc | apply pw_below_drewN | apply below_drew1 | refine below_set ?_ GE977.out | refine below_set ?_ GE257.out) | exact HB.out)) hb); clear HO_5 HO_7 BK977 BK257 HB; have HO_5 := n0_; have HO_7 := n1_; have HO281 := n2_; have BK977 := n3_; have BK257 := n4_; have HB := n5_; clear n0_ n1_ n2_ n3_ n4_ n5_; (try clear hb); (try clear hb2); (try clear hk); (try clear hi); (try clear ho0)))
 (try simp only [Act.put, zs, zz, zk])
 go_cut [65] (fun v65 wc => ∃ (kq : Nat) (x65_31 : Bool), v65 = .bool x65_31 ∧ Aside0 (laws_FnExactPastsOf.j1 kq t274 t273 x65_31 = some r) ∧ Aside0 (kq ≤ kj9) ∧ Aside0 (Kd.R Kd.string 9 wc w.heap.size (fun _ => True) (.slice Ao33 t268.length co33) t274) ∧ Aside0 (wc.heap[0]? = some (.cells #[.int .i64 a977_0] 3 (0, 0))) ∧ Aside0 (wc.heap[gb257]? = some (.cells #[.int .i8 a0_0, .int .u8 a0_1, .int .u8 a0_2] 24 (0, 0))) ∧ Aside0 (Below w.heap.size w wc))
 case first => (
 have H := HC32.out
 clear HC32
 replace H := Option.bind_eq_some_iff.mp H
 obtain ⟨t283, A400, H⟩ := H
 replace H : (if t283 = true then (laws_FnExactPastsOf.j1 kj9 t274 t273 (t282 != t264)) else (laws_FnExactPastsOf.j1 kj9 t274 t273 true)) = some r := H
 have A40 := ak A400
 clear A400
 by_cases c41 : t283 = true
 {
 subst c41
 have H1 : (laws_FnExactPastsOf.j1 kj9 t274 t273 (t282 != t264)) = some r := by rw [if_pos rfl] at H; exact H
 clear H
 have H := H1
 clear H1
 have H' := ak H
 clear H
 obtain ⟨Ao42, co42, eo42⟩ := Kd.R_slice HO281.out
 subst eo42
 obtain ⟨Ao43, co43, eo43⟩ := Kd.R_slice HO_5.out
 subst eo43
 go_wp2_with (first | ((with_reducible refine gate_callee (f := 8) rfl ?_); refine goesL_ (some 59) rfl rfl Tryd.func8 (by kernel_rfl) rfl #[.slice Ao42 t279.length co42, .slice Ao43 t261.length co43] rfl (by (try simp only [List.map_toArray, List.map_cons, List.map_nil]); first | done | rfl | (simp only [List.length_drop, List.length_take]; rfl)) ?_; (with_reducible refine (laws_eqStringS.calls kj9 _ _ t279 _ _ t261 true _ ?side1 ?side2 ?side3 ?side4 A40.out).mono ?_); (case side1 => exact zC (Kd.R_reads' HO281.out).2.2); (case side2 => exact (Kd.R_reads' HO281.out).2.1); (case side3 => exact zC (Kd.R_reads' HO_5.out).2.2); (case side4 => exact (Kd.R_reads' HO_5.out).2.1); rintro e w' ⟨rfl, ⟨nd, rfl⟩⟩; refine ⟨_, rfl, ?_⟩))
 go_meet
 case rel => exact ⟨_, ((t282 != t264)), (by first | rfl | (simp; done) | (simp [*]; done)), H', ⟨by have := HJ9.out; first | omega | exact Nat.le_refl _⟩, ⟨by (with_reducible repeat (first | apply Kd.R_alloc | apply Kd.R_drewN | apply Kd.R_drew)); exact Kd.R_mono HO_7.out (fun _ hk => trivial)⟩, ⟨by (with_reducible repeat (first | refine blk_drewN ?_ _ | refine blk_drew ?_ | refine blk_alloc ?_ _)); exact BK977.out⟩, ⟨by (with_reducible repeat (first | refine blk_drewN ?_ _ | refine blk_drew ?_ | refine blk_alloc ?_ _)); exact BK257.out⟩, ⟨by repeat (first | (with_reducible first | exact HB.out | apply below_alloc | apply pw_below_drewN | apply below_drew1 | refine below_set ?_ GE977.out | refine below_set ?_ GE257.out) | exact HB.out)⟩⟩
 }
 {
 replace c41 := Bool.eq_false_iff.mpr c41
 subst c41
 have H1 : (laws_FnExactPastsOf.j1 kj9 t274 t273 true) = some r := by rw [if_neg (show ¬ (false = true) by decide)] at H; exact H
 clear H
 have H := H1
 clear H1
 have H' := ak H
 clear H
 obtain ⟨Ao44, co44, eo44⟩ := Kd.R_slice HO281.out
 subst eo44
 obtain ⟨Ao45, co45, eo45⟩ := Kd.R_slice HO_5.out
 subst eo45
 go_wp2_with (first | ((with_reducible refine gate_callee (f := 8) rfl ?_); refine goesL_ (some 59) rfl rfl Tryd.func8 (by kernel_rfl) rfl #[.slice Ao44 t279.length co44, .slice Ao45 t261.length co45] rfl (by (try simp only [List.map_toArray, List.map_cons, List.map_nil]); first | done | rfl | (simp only [List.length_drop, List.length_take]; rfl)) ?_; (with_reducible refine (laws_eqStringS.calls kj9 _ _ t279 _ _ t261 false _ ?side1 ?side2 ?side3 ?side4 A40.out).mono ?_); (case side1 => exact zC (Kd.R_reads' HO281.out).2.2); (case side2 => exact (Kd.R_reads' HO281.out).2.1); (case side3 => exact zC (Kd.R_reads' HO_5.out).2.2); (case side4 => exact (Kd.R_reads' HO_5.out).2.1); rintro e w' ⟨rfl, ⟨nd, rfl⟩⟩; refine ⟨_, rfl, ?_⟩))
 go_meet
 case rel => exact ⟨_, (true), (by first | rfl | (simp; done) | (simp [*]; done)), H', ⟨by have := HJ9.out; first | omega | exact Nat.le_refl _⟩, ⟨by (with_reducible repeat (first | apply Kd.R_alloc | apply Kd.R_drewN | apply Kd.R_drew)); exact Kd.R_mono HO_7.out (fun _ hk => trivial)⟩, ⟨by (with_reducible repeat (first | refine blk_drewN ?_ _ | refine blk_drew ?_ | refine blk_alloc ?_ _)); exact BK977.out⟩, ⟨by (with_reducible repeat (first | refine blk_drewN ?_ _ | refine blk_drew ?_ | refine blk_alloc ?_ _)); exact BK257.out⟩, ⟨by repeat (first | (with_reducible first | exact HB.out | apply below_alloc | apply pw_below_drewN | apply below_drew1 | refine below_set ?_ GE977.out | refine below_set ?_ GE257.out) | exact HB.out)⟩⟩
 }
 )
 case rest => (
 clear HC32
 try clear c1
 try clear c2
 try clear p2
 try clear c3
 try clear c4
 try clear c4b0
 try clear c4b1
 try clear c5
 try clear c6
 try clear c7
 try clear c8
 try clear c9
 try clear hx9
 try clear c10
 try clear c12
 try clear c20
 try clear c25
 try clear c28
 try clear c28b0
 try clear c29
 try clear c29b0
 try clear c29b1
 try clear c36
 try clear c41
 try clear hcz13_0
 try clear hcz13_1
 try clear hcz13_2
 try clear hcz16_0
 try clear hcz16_1
 try clear hcz16_2
 try clear hcz37_0
 try clear hcz37_1
 try clear hcz37_2
 try clear hfz13_0
 try clear hfz13_1
 try clear hfz13_2
 try clear hfz16_0
 try clear hfz16_1
 try clear hfz16_2
 try clear hfz37_0
 try clear hfz37_1
 try clear hfz37_2
 try clear p2
 obtain ⟨kq, x65_31, rfl, HA, HJ31, HO_7, BK977, BK257, HB⟩ := hcut
 have hl7_31 := (Kd.R_reads' HO_7.out).1
 rw [hl7_31] at HO_7
 (try simp only [hl7_31])
 (try simp only [hl7_31] at BK977)
 (try simp only [hl7_31] at BK257)
 cases kq with
 | zero => exact absurd HA.out (by simp [laws_FnExactPastsOf.j1])
 | succ kj31 => (
 have H := HA.out
 clear HA
 simp only [laws_FnExactPastsOf.j1] at H
 by_cases c46 : x65_31 = true
 {
 subst c46
 have H1 : (some false) = some r := by rw [if_pos rfl] at H; exact H
 clear H
 have H := H1
 clear H1
 exact absurd ((Option.some.inj H).trans HT.out) (by decide)
 }
 {
 replace c46 := Bool.eq_false_iff.mpr c46
 subst c46
 have H1 : ((laws_heldStringS.f kj31 t274 1).bind fun t284 => (if t284 < 0 then (some false) else (if t284 = t273 then (some true) else (some false)))) = some r := by rw [if_neg (show ¬ (false = true) by decide)] at H; exact H
 clear H
 have H := H1
 clear H1
 replace H := Option.bind_eq_some_iff.mp H
 obtain ⟨t284, A470, H⟩ := H
 replace H : (if t284 < 0 then (some false) else (if t284 = t273 then (some true) else (some false))) = some r := H
 have A47 := ak A470
 clear A470
 by_cases c48 : t284 < 0
 · rw [if_pos c48] at H; have c48b0 : decide (t284 < 0) = true := decide_eq_true c48; clear c48; exact absurd ((Option.some.inj H).trans HT.out) (by decide)
 {
 rw [if_neg c48] at H
 have c48b0 : decide (t284 < 0) = false := decide_eq_false c48
 clear c48
 by_cases c49 : t284 = t273
 {
 rw [if_pos c49] at H
 have c49b0 : (t284 == t273) = true := beq_iff_eq.mpr c49
 have c49b1 : (t284 != t273) = false := bne_eq_false_iff_eq.mpr c49
 clear c49
 obtain rfl := Option.some.inj H
 go_wp2_with (first | ((with_reducible refine gate_callee (f := 10) rfl ?_); refine goesL_ (some 68) rfl rfl Tryd.func10 (by kernel_rfl) rfl #[.slice Ao33 t274.length co33, .int .i64 1] rfl (by (try simp only [List.map_toArray, List.map_cons, List.map_nil]); first | done | rfl | (simp only [List.length_drop, List.length_take]; rfl)) ?_; (with_reducible refine (laws_heldStringS.calls kj31 _ _ t274 1 t284 _ ?side1 ?side2 A47.out).mono ?_); (case side1 => exact zC (Kd.R_reads' HO_7.out).2.2); (case side2 => exact (Kd.R_reads' HO_7.out).2.1); rintro e w50 ⟨rfl, hb⟩; refine ⟨_, rfl, ?_⟩; have n0_ := ak (Kd.R_below (zR HO_7.out) hb); have n1_ := ak (blk_below (g := 0) (o := .cells #[.int .i64 a977_0] 3 (0, 0)) (zK BK977.out) hb); have n2_ := ak (blk_below (g := gb257) (o := .cells #[.int .i8 a0_0, .int .u8 a0_1, .int .u8 a0_2] 24 (0, 0)) (zK BK257.out) hb); have n3_ := ak (below_step (by repeat (first | (with_reducible first | exact HB.out | apply below_alloc | apply pw_below_drewN | apply below_drew1 | refine below_set ?_ GE977.out | refine below_set ?_ GE257.out) | exact HB.out)) hb); clear HO_7 BK977 BK257 HB; have HO_7 := n0_; have BK977 := n1_; have BK257 := n2_; have HB := n3_; clear n0_ n1_ n2_ n3_; (try clear hb); (try clear hb2); (try clear hk); (try clear hi)))
 go_ret
 exact ⟨by first | rfl | (simp [errW_none, errW_some] <;> rfl) | (simp [*, errW_none, errW_some] <;> rfl), by repeat (first | (with_reducible first | exact HB.out | apply below_alloc | apply pw_below_drewN | apply below_drew1 | refine below_set ?_ GE977.out | refine below_set ?_ GE257.out) | exact HB.out)⟩
 }
 · rw [if_neg c49] at H; have c49b0 : (t284 == t273) = false := beq_eq_false_iff_ne.mpr c49; have c49b1 : (t284 != t273) = true := bne_iff_ne.mpr c49; exact absurd ((Option.some.inj H).trans HT.out) (by decide)
 }
 }
 )
 )
 }
 · rw [if_neg c29] at H; have c29b0 : (t275 == t273) = false := beq_eq_false_iff_ne.mpr c29; have c29b1 : (t275 != t273) = true := bne_iff_ne.mpr c29; exact absurd ((Option.some.inj H).trans HT.out) (by decide)
 }
 }
 )
 )
 }
/-- THE ONE PURE STATEMENT of laws_FnExactPastsOf: mine. -/
def laws_FnExactPastsOf.Pure : Prop := ∀ (a0_0 : Int) (a0_1 : Int) (a0_2 : Int) (a1 : ByteArray) (a977_0 : Int), ((Lit.int .i8 a0_0).wf = true) → ((Lit.int .u8 a0_1).wf = true) → ((Lit.int .u8 a0_2).wf = true) → (a1.size ≤ 9223372036854775807) → ∃ k, laws_FnExactPastsOf.f k a0_0 a0_1 a0_2 a1 a977_0 = some true

end Go.Proofs.YtgnnpgallnafcaaDoor.P
