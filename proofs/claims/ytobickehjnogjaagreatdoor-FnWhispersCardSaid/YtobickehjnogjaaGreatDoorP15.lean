-- Printed by wip/print (my turned copy of the kit's print) out of the translation; Lean checks it.
import Derived.RangeFuncNested
import Derived.RangeFuncBound
import Derived.RangeFuncCalls
import Derived.RangeFuncLeaves
import Derived.RangeFuncBox
import Derived.Shelf.Abstract
import Derived.Shelf.RegionOpen
import Derived.OwnWalkIn
import Derived.TacticsInMore
import Derived.LoopNIn
import Derived.LoopIn
import Derived.Maps.AppendAt
import Derived.Test.YtobickehjnogjaaGreatDoorP0
import Derived.Test.YtobickehjnogjaaGreatDoorP4
import Derived.Test.YtobickehjnogjaaGreatDoorP5
import Derived.Test.YtobickehjnogjaaGreatDoorP12
import Derived.Test.YtobickehjnogjaaGreatDoorP14
namespace Go.Proofs.YtobickehjnogjaaGreatDoor.P
open Go.RowKit Go.Proofs.YtobickehjnogjaaGreatDoorW.PrintWords Go.Proofs.YtobickehjnogjaaGreatDoorW.PrintLast Go.Proofs.YtobickehjnogjaaGreatDoorW.PrintMore
attribute [local go_sem] max2_int min2_int max_two min_two max_three min_three max_four min_four   -- for this text's walks alone
set_option linter.unusedVariables false
set_option linter.unusedSimpArgs false

/-! ### spec_PastsOf: function 20 -/
def spec_PastsOf.f (k : Nat) (a0_0 : Int) (a0_1 : Int) (a0_2 : Int) (a1 : ByteArray) : Option (List ByteArray × Int) := (spec_l04Asked.f k (([(⟨a0_0, a0_1, a0_2⟩ : S40)] : List (S40))) (([a1] : List ByteArray))).bind fun t417 => (if t417 = 0 then ((spec_l04Pasts.f k a0_0 a0_1 a0_2 a1).bind fun bt418 => (if bt418.2 = true then (some (bt418.1, 0)) else (some ((([] : List ByteArray)), 3)))) else (some ((([] : List ByteArray)), t417)))
set_option maxHeartbeats 8000000 in
set_option maxRecDepth 100000 in
theorem spec_PastsOf.calls (k : Nat) (a0_0 : Int) (a0_1 : Int) (a0_2 : Int) (a1 : ByteArray) (r1 : List ByteArray) (r2 : Int) (w : World) (h : spec_PastsOf.f k a0_0 a0_1 a0_2 a1 = some (r1, r2)) :
    Calls Tryz.prog 20 #[.agg #[.int .i8 a0_0, .int .u8 a0_1, .int .u8 a0_2], .string a1] w fun e w' => ∃ v0_ : Value, e = .returned (.tuple #[v0_, .int .i64 r2]) ∧ Kd.R Kd.string 9 w' w.heap.size (fun _ => True) v0_ r1 ∧ Below w.heap.size w w' := by
 have hu40 := Tryz.underlying40
 have HB := ak (Below.refl w.heap.size w)
 have H := h
 unfold spec_PastsOf.f at H
 clear h
 obtain ⟨y411, hy411⟩ : ∃ y_ : List (S40), y_ = (([(⟨a0_0, a0_1, a0_2⟩ : S40)] : List (S40))) := ⟨_, rfl⟩
 replace H : ((spec_l04Asked.f k y411 (([a1] : List ByteArray))).bind fun t417 => (if t417 = 0 then ((spec_l04Pasts.f k a0_0 a0_1 a0_2 a1).bind fun bt418 => (if bt418.2 = true then (some (bt418.1, 0)) else (some ((([] : List ByteArray)), 3)))) else (some ((([] : List ByteArray)), t417)))) = some (r1, r2) := by first | (rw [hy411]; with_reducible exact H) | (have H2_ := (Option.bind_some _ _).symm.trans H; rw [hy411]; with_reducible exact H2_) | (have H2_ := (Option.bind_some _ _).symm.trans H; with_reducible exact H2_) | with_reducible exact H | (rw [hy411]; exact H) | exact H
 have Ny411 := ak hy411
 clear hy411
 obtain ⟨y414, hy414⟩ : ∃ y_ : List ByteArray, y_ = (([a1] : List ByteArray)) := ⟨_, rfl⟩
 replace H : ((spec_l04Asked.f k y411 y414).bind fun t417 => (if t417 = 0 then ((spec_l04Pasts.f k a0_0 a0_1 a0_2 a1).bind fun bt418 => (if bt418.2 = true then (some (bt418.1, 0)) else (some ((([] : List ByteArray)), 3)))) else (some ((([] : List ByteArray)), t417)))) = some (r1, r2) := by first | (rw [hy414]; with_reducible exact H) | (have H2_ := (Option.bind_some _ _).symm.trans H; rw [hy414]; with_reducible exact H2_) | (have H2_ := (Option.bind_some _ _).symm.trans H; with_reducible exact H2_) | with_reducible exact H | (rw [hy414]; exact H) | exact H
 have Ny414 := ak hy414
 clear hy414
 replace H := Option.bind_eq_some_iff.mp H
 obtain ⟨t417, A30, H⟩ := H
 have A3 := ak A30
 clear A30
 by_cases c4 : t417 = 0
 {
 rw [if_pos c4] at H
 have c4b0 : (t417 == 0) = true := beq_iff_eq.mpr c4
 have c4b1 : (t417 != 0) = false := bne_eq_false_iff_eq.mpr c4
 clear c4
 replace H := Option.bind_eq_some_iff.mp H
 obtain ⟨⟨t418, t421⟩, A50, H⟩ := H
 have A5 := ak A50
 clear A50
 by_cases c6 : t421 = true
 {
 subst c6
 rw [if_pos rfl] at H
 simp only [Option.some.injEq, Prod.mk.injEq] at H
 obtain ⟨rfl, rfl⟩ := H
 go_enter Tryz.func20, Tryz.ntmps20
 go_wp2_with (first | ((with_reducible refine gate_dst (N := 2) rfl ?_); refine box_event ?hg (N := 2) ?hd (cs := #[.int .i8 a0_0, .int .u8 a0_1, .int .u8 a0_2]) (t := 40) ?hr ?_; (case hd => rfl); (case hg => rfl); (case hr => first | (go_simp; done) | (go_simp; rfl)); intro gb410 hg w7 hbox hb; have BK410 := ak (hbox); have GW410 := gS HB hg; have GE410 := gS HB hg; replace HB := kB HB hb; clear hb hbox hg; obtain ⟨hcz8_0, hcz8_1, hcz8_2, hfz8_0, hfz8_1, hfz8_2⟩ := cz3 w7 BK410) | ((with_reducible refine gate_dst (N := 10) rfl ?_); refine Kd.R_lit k40 _ 40 ?hg (N := 10) ?hd (xs := ([(⟨a0_0, a0_1, a0_2⟩ : S40)] : List (S40))) (inner := [.int .i8 a0_0, .int .u8 a0_1, .int .u8 a0_2]) (ok := fun _ => True) (okp := fun _ => True) ?hr ?hp (fun _ hk => hk) trivial (Below.refl _ _) (Nat.le_refl _) (by simp) ?_; (case hd => rfl); (case hg => rfl); (case hr => first | (go_simp; done) | (go_simp; rfl)); (case hp => exact (Reps.c3 (show Kd.M k40 _ _ _ (⟨a0_0, a0_1, a0_2⟩ : S40) [.int .i8 a0_0, .int .u8 a0_1, .int .u8 a0_2] from (k40_mkM _ _ _ (⟨a0_0, a0_1, a0_2⟩ : S40) )) (Reps.none _ _))); intro v412 w9 ho10 hb hg_ hnew_; clear hg_ hnew_; (first | rw [← Ny411.out] at ho10 | (simp only [Int.reduceToNat] at ho10; rw [← Ny411.out] at ho10)); have HO413 := ak (Kd.R_lower (Kd.R_newB ho10 (g := gb410) (o := .cells #[.int .i8 a0_0, .int .u8 a0_1, .int .u8 a0_2] 40 (0, 0)) (zK BK410.out)) (below_size (zBG HB.out GE410.out))); replace BK410 := kK BK410 hb; replace HB := kB1 HB GE410 hb; clear hb ho10) | ((with_reducible refine gate_dst (N := 12) rfl ?_); refine Kd.R_lit Kd.string _ 9 ?hg (N := 12) ?hd (xs := ([a1] : List ByteArray)) (inner := [.string a1]) (ok := fun _ => True) (okp := fun _ => True) ?hr ?hp (fun _ hk => hk) trivial (Below.refl _ _) (Nat.le_refl _) (by simp) ?_; (case hd => rfl); (case hg => rfl); (case hr => first | (go_simp; done) | (go_simp; rfl)); (case hp => exact (Reps.one (show Kd.M Kd.string _ _ _ a1 [.string a1] from rfl) (Reps.none _ _))); intro v415 w11 ho12 hb hg_ hnew_; clear hg_ hnew_; (first | rw [← Ny414.out] at ho12 | (simp only [Int.reduceToNat] at ho12; rw [← Ny414.out] at ho12)); have HO416 := ak (Kd.R_lower ho12 (below_size (zBG HB.out GE410.out))); replace HO413 := kR HO413 hb; replace BK410 := kK BK410 hb; replace HB := kB1 HB GE410 hb; clear hb ho12; obtain ⟨Ao13, co13, eo13⟩ := Kd.R_slice HO413.out; subst eo13; obtain ⟨Ao14, co14, eo14⟩ := Kd.R_slice HO416.out; subst eo14) | ((with_reducible refine gate_callee (f := 34) rfl ?_); refine goesL_ (some 13) rfl rfl Tryz.func34 (by kernel_rfl) rfl #[.slice Ao13 y411.length co13, .slice Ao14 y414.length co14] rfl gl_ ?_; (with_reducible refine (spec_l04Asked.calls k _ _ y411 _ _ y414 t417 _ ?side1 ?side2 ?side3 ?side4 A3.out).mono ?_); (case side1 => exact sC HO413); (case side2 => exact sL HO413); (case side3 => exact sC HO416); (case side4 => exact sL HO416); rintro e w15 ⟨rfl, hb⟩; refine ⟨_, rfl, ?_⟩; replace HO413 := kR HO413 hb; replace HO416 := kR HO416 hb; replace BK410 := kK BK410 hb; replace HB := kB1 HB GE410 hb; (try clear hb); obtain ⟨hcz16_0, hcz16_1, hcz16_2, hfz16_0, hfz16_1, hfz16_2⟩ := cz3 w15 BK410) | ((with_reducible refine gate_callee (f := 46) rfl ?_); refine goesL_ (some 21) rfl rfl Tryz.func46 (by kernel_rfl) rfl #[.agg #[.int .i8 a0_0, .int .u8 a0_1, .int .u8 a0_2], .string a1] rfl gl_ ?_; (with_reducible refine (spec_l04Pasts.calls k a0_0 a0_1 a0_2 a1 t418 true _ A5.out).mono ?_); rintro e w17 ⟨v419, rfl, ho0, hb⟩; refine ⟨_, rfl, ?_⟩; have HO420 := ak (Kd.R_lower (Kd.R_new' ho0 (Kd.R_lt (zR HO416.out))) (below_size (zBG HB.out GE410.out))); replace HO413 := kR HO413 hb; replace HO416 := kE HO416 ho0 hb; replace BK410 := kK BK410 hb; replace HB := kB1 HB GE410 hb; (try clear hb); (try clear ho0)))
 go_ret2
 exact ⟨_, by first | rfl | (simp [errW_none, errW_some] <;> rfl) | (simp [*, errW_none, errW_some] <;> rfl), by (with_reducible repeat (first | apply Kd.R_alloc | apply Kd.R_drewN | apply Kd.R_drew)); exact Kd.R_mono HO420.out (fun _ hk => trivial), zBG HB.out GE410.out⟩
 }
 {
 replace c6 := Bool.eq_false_iff.mpr c6
 subst c6
 rw [if_neg (show ¬ (false = true) by decide)] at H
 obtain ⟨y422, hy422⟩ : ∃ y_ : List ByteArray, y_ = (([] : List ByteArray)) := ⟨_, rfl⟩
 replace H : (some (y422, 3)) = some (r1, r2) := by first | (rw [hy422]; with_reducible exact H) | (have H2_ := (Option.bind_some _ _).symm.trans H; rw [hy422]; with_reducible exact H2_) | (have H2_ := (Option.bind_some _ _).symm.trans H; with_reducible exact H2_) | with_reducible exact H | (rw [hy422]; exact H) | exact H
 have Ny422 := ak hy422
 clear hy422
 simp only [Option.some.injEq, Prod.mk.injEq] at H
 obtain ⟨rfl, rfl⟩ := H
 go_enter Tryz.func20, Tryz.ntmps20
 go_wp2_with (first | ((with_reducible refine gate_dst (N := 2) rfl ?_); refine box_event ?hg (N := 2) ?hd (cs := #[.int .i8 a0_0, .int .u8 a0_1, .int .u8 a0_2]) (t := 40) ?hr ?_; (case hd => rfl); (case hg => rfl); (case hr => first | (go_simp; done) | (go_simp; rfl)); intro gb410 hg w18 hbox hb; have BK410 := ak (hbox); have GW410 := gS HB hg; have GE410 := gS HB hg; replace HB := kB HB hb; clear hb hbox hg; obtain ⟨hcz19_0, hcz19_1, hcz19_2, hfz19_0, hfz19_1, hfz19_2⟩ := cz3 w18 BK410) | ((with_reducible refine gate_dst (N := 10) rfl ?_); refine Kd.R_lit k40 _ 40 ?hg (N := 10) ?hd (xs := ([(⟨a0_0, a0_1, a0_2⟩ : S40)] : List (S40))) (inner := [.int .i8 a0_0, .int .u8 a0_1, .int .u8 a0_2]) (ok := fun _ => True) (okp := fun _ => True) ?hr ?hp (fun _ hk => hk) trivial (Below.refl _ _) (Nat.le_refl _) (by simp) ?_; (case hd => rfl); (case hg => rfl); (case hr => first | (go_simp; done) | (go_simp; rfl)); (case hp => exact (Reps.c3 (show Kd.M k40 _ _ _ (⟨a0_0, a0_1, a0_2⟩ : S40) [.int .i8 a0_0, .int .u8 a0_1, .int .u8 a0_2] from (k40_mkM _ _ _ (⟨a0_0, a0_1, a0_2⟩ : S40) )) (Reps.none _ _))); intro v412 w20 ho21 hb hg_ hnew_; clear hg_ hnew_; (first | rw [← Ny411.out] at ho21 | (simp only [Int.reduceToNat] at ho21; rw [← Ny411.out] at ho21)); have HO413 := ak (Kd.R_lower (Kd.R_newB ho21 (g := gb410) (o := .cells #[.int .i8 a0_0, .int .u8 a0_1, .int .u8 a0_2] 40 (0, 0)) (zK BK410.out)) (below_size (zBG HB.out GE410.out))); replace BK410 := kK BK410 hb; replace HB := kB1 HB GE410 hb; clear hb ho21) | ((with_reducible refine gate_dst (N := 12) rfl ?_); refine Kd.R_lit Kd.string _ 9 ?hg (N := 12) ?hd (xs := ([a1] : List ByteArray)) (inner := [.string a1]) (ok := fun _ => True) (okp := fun _ => True) ?hr ?hp (fun _ hk => hk) trivial (Below.refl _ _) (Nat.le_refl _) (by simp) ?_; (case hd => rfl); (case hg => rfl); (case hr => first | (go_simp; done) | (go_simp; rfl)); (case hp => exact (Reps.one (show Kd.M Kd.string _ _ _ a1 [.string a1] from rfl) (Reps.none _ _))); intro v415 w22 ho23 hb hg_ hnew_; clear hg_ hnew_; (first | rw [← Ny414.out] at ho23 | (simp only [Int.reduceToNat] at ho23; rw [← Ny414.out] at ho23)); have HO416 := ak (Kd.R_lower ho23 (below_size (zBG HB.out GE410.out))); replace HO413 := kR HO413 hb; replace BK410 := kK BK410 hb; replace HB := kB1 HB GE410 hb; clear hb ho23; obtain ⟨Ao24, co24, eo24⟩ := Kd.R_slice HO413.out; subst eo24; obtain ⟨Ao25, co25, eo25⟩ := Kd.R_slice HO416.out; subst eo25) | ((with_reducible refine gate_callee (f := 34) rfl ?_); refine goesL_ (some 13) rfl rfl Tryz.func34 (by kernel_rfl) rfl #[.slice Ao24 y411.length co24, .slice Ao25 y414.length co25] rfl gl_ ?_; (with_reducible refine (spec_l04Asked.calls k _ _ y411 _ _ y414 t417 _ ?side1 ?side2 ?side3 ?side4 A3.out).mono ?_); (case side1 => exact sC HO413); (case side2 => exact sL HO413); (case side3 => exact sC HO416); (case side4 => exact sL HO416); rintro e w26 ⟨rfl, hb⟩; refine ⟨_, rfl, ?_⟩; replace HO413 := kR HO413 hb; replace HO416 := kR HO416 hb; replace BK410 := kK BK410 hb; replace HB := kB1 HB GE410 hb; (try clear hb); obtain ⟨hcz27_0, hcz27_1, hcz27_2, hfz27_0, hfz27_1, hfz27_2⟩ := cz3 w26 BK410) | ((with_reducible refine gate_callee (f := 46) rfl ?_); refine goesL_ (some 21) rfl rfl Tryz.func46 (by kernel_rfl) rfl #[.agg #[.int .i8 a0_0, .int .u8 a0_1, .int .u8 a0_2], .string a1] rfl gl_ ?_; (with_reducible refine (spec_l04Pasts.calls k a0_0 a0_1 a0_2 a1 t418 false _ A5.out).mono ?_); rintro e w28 ⟨v419, rfl, ho0, hb⟩; refine ⟨_, rfl, ?_⟩; have HO420 := ak (Kd.R_lower (Kd.R_new' ho0 (Kd.R_lt (zR HO416.out))) (below_size (zBG HB.out GE410.out))); replace HO413 := kR HO413 hb; replace HO416 := kE HO416 ho0 hb; replace BK410 := kK BK410 hb; replace HB := kB1 HB GE410 hb; (try clear hb); (try clear ho0)) | ((with_reducible refine gate_dst (N := 26) rfl ?_); refine Kd.R_lit Kd.string _ 9 ?hg (N := 26) ?hd (xs := ([] : List ByteArray)) (inner := []) (ok := fun _ => True) (okp := fun _ => True) ?hr ?hp (fun _ hk => hk) trivial (Below.refl _ _) (Nat.le_refl _) (by simp) ?_; (case hd => rfl); (case hg => rfl); (case hr => first | (go_simp; done) | (go_simp; rfl)); (case hp => exact (Reps.none _ _)); intro v423 w29 ho30 hb hg_ hnew_; clear hg_ hnew_; (first | rw [← Ny422.out] at ho30 | (simp only [Int.reduceToNat] at ho30; rw [← Ny422.out] at ho30)); have HO424 := ak (Kd.R_lower (Kd.R_new' (Kd.R_new' ho30 (Kd.R_lt (zR HO416.out))) (Kd.R_lt (zR HO420.out))) (below_size (zBG HB.out GE410.out))); replace HO413 := kR HO413 hb; replace HO416 := kE HO416 ho30 hb; replace HO420 := kE HO420 ho30 hb; replace BK410 := kK BK410 hb; replace HB := kB1 HB GE410 hb; clear hb ho30))
 go_ret2
 exact ⟨_, by first | rfl | (simp [errW_none, errW_some] <;> rfl) | (simp [*, errW_none, errW_some] <;> rfl), by (with_reducible repeat (first | apply Kd.R_alloc | apply Kd.R_drewN | apply Kd.R_drew)); exact Kd.R_mono HO424.out (fun _ hk => trivial), zBG HB.out GE410.out⟩
 }
 }
 {
 rw [if_neg c4] at H
 have c4b0 : (t417 == 0) = false := beq_eq_false_iff_ne.mpr c4
 have c4b1 : (t417 != 0) = true := bne_iff_ne.mpr c4
 obtain ⟨y425, hy425⟩ : ∃ y_ : List ByteArray, y_ = (([] : List ByteArray)) := ⟨_, rfl⟩
 replace H : (some (y425, t417)) = some (r1, r2) := by first | (rw [hy425]; with_reducible exact H) | (have H2_ := (Option.bind_some _ _).symm.trans H; rw [hy425]; with_reducible exact H2_) | (have H2_ := (Option.bind_some _ _).symm.trans H; with_reducible exact H2_) | with_reducible exact H | (rw [hy425]; exact H) | exact H
 have Ny425 := ak hy425
 clear hy425
 simp only [Option.some.injEq, Prod.mk.injEq] at H
 obtain ⟨rfl, rfl⟩ := H
 go_enter Tryz.func20, Tryz.ntmps20
 go_wp2_with (first | ((with_reducible refine gate_dst (N := 2) rfl ?_); refine box_event ?hg (N := 2) ?hd (cs := #[.int .i8 a0_0, .int .u8 a0_1, .int .u8 a0_2]) (t := 40) ?hr ?_; (case hd => rfl); (case hg => rfl); (case hr => first | (go_simp; done) | (go_simp; rfl)); intro gb410 hg w31 hbox hb; have BK410 := ak (hbox); have GW410 := gS HB hg; have GE410 := gS HB hg; replace HB := kB HB hb; clear hb hbox hg; obtain ⟨hcz32_0, hcz32_1, hcz32_2, hfz32_0, hfz32_1, hfz32_2⟩ := cz3 w31 BK410) | ((with_reducible refine gate_dst (N := 10) rfl ?_); refine Kd.R_lit k40 _ 40 ?hg (N := 10) ?hd (xs := ([(⟨a0_0, a0_1, a0_2⟩ : S40)] : List (S40))) (inner := [.int .i8 a0_0, .int .u8 a0_1, .int .u8 a0_2]) (ok := fun _ => True) (okp := fun _ => True) ?hr ?hp (fun _ hk => hk) trivial (Below.refl _ _) (Nat.le_refl _) (by simp) ?_; (case hd => rfl); (case hg => rfl); (case hr => first | (go_simp; done) | (go_simp; rfl)); (case hp => exact (Reps.c3 (show Kd.M k40 _ _ _ (⟨a0_0, a0_1, a0_2⟩ : S40) [.int .i8 a0_0, .int .u8 a0_1, .int .u8 a0_2] from (k40_mkM _ _ _ (⟨a0_0, a0_1, a0_2⟩ : S40) )) (Reps.none _ _))); intro v412 w33 ho34 hb hg_ hnew_; clear hg_ hnew_; (first | rw [← Ny411.out] at ho34 | (simp only [Int.reduceToNat] at ho34; rw [← Ny411.out] at ho34)); have HO413 := ak (Kd.R_lower (Kd.R_newB ho34 (g := gb410) (o := .cells #[.int .i8 a0_0, .int .u8 a0_1, .int .u8 a0_2] 40 (0, 0)) (zK BK410.out)) (below_size (zBG HB.out GE410.out))); replace BK410 := kK BK410 hb; replace HB := kB1 HB GE410 hb; clear hb ho34) | ((with_reducible refine gate_dst (N := 12) rfl ?_); refine Kd.R_lit Kd.string _ 9 ?hg (N := 12) ?hd (xs := ([a1] : List ByteArray)) (inner := [.string a1]) (ok := fun _ => True) (okp := fun _ => True) ?hr ?hp (fun _ hk => hk) trivial (Below.refl _ _) (Nat.le_refl _) (by simp) ?_; (case hd => rfl); (case hg => rfl); (case hr => first | (go_simp; done) | (go_simp; rfl)); (case hp => exact (Reps.one (show Kd.M Kd.string _ _ _ a1 [.string a1] from rfl) (Reps.none _ _))); intro v415 w35 ho36 hb hg_ hnew_; clear hg_ hnew_; (first | rw [← Ny414.out] at ho36 | (simp only [Int.reduceToNat] at ho36; rw [← Ny414.out] at ho36)); have HO416 := ak (Kd.R_lower ho36 (below_size (zBG HB.out GE410.out))); replace HO413 := kR HO413 hb; replace BK410 := kK BK410 hb; replace HB := kB1 HB GE410 hb; clear hb ho36; obtain ⟨Ao37, co37, eo37⟩ := Kd.R_slice HO413.out; subst eo37; obtain ⟨Ao38, co38, eo38⟩ := Kd.R_slice HO416.out; subst eo38) | ((with_reducible refine gate_callee (f := 34) rfl ?_); refine goesL_ (some 13) rfl rfl Tryz.func34 (by kernel_rfl) rfl #[.slice Ao37 y411.length co37, .slice Ao38 y414.length co38] rfl gl_ ?_; (with_reducible refine (spec_l04Asked.calls k _ _ y411 _ _ y414 t417 _ ?side1 ?side2 ?side3 ?side4 A3.out).mono ?_); (case side1 => exact sC HO413); (case side2 => exact sL HO413); (case side3 => exact sC HO416); (case side4 => exact sL HO416); rintro e w39 ⟨rfl, hb⟩; refine ⟨_, rfl, ?_⟩; replace HO413 := kR HO413 hb; replace HO416 := kR HO416 hb; replace BK410 := kK BK410 hb; replace HB := kB1 HB GE410 hb; (try clear hb)) | ((with_reducible refine gate_dst (N := 16) rfl ?_); refine Kd.R_lit Kd.string _ 9 ?hg (N := 16) ?hd (xs := ([] : List ByteArray)) (inner := []) (ok := fun _ => True) (okp := fun _ => True) ?hr ?hp (fun _ hk => hk) trivial (Below.refl _ _) (Nat.le_refl _) (by simp) ?_; (case hd => rfl); (case hg => rfl); (case hr => first | (go_simp; done) | (go_simp; rfl)); (case hp => exact (Reps.none _ _)); intro v426 w40 ho41 hb hg_ hnew_; clear hg_ hnew_; (first | rw [← Ny425.out] at ho41 | (simp only [Int.reduceToNat] at ho41; rw [← Ny425.out] at ho41)); have HO427 := ak (Kd.R_lower (Kd.R_new' ho41 (Kd.R_lt (zR HO416.out))) (below_size (zBG HB.out GE410.out))); replace HO413 := kR HO413 hb; replace HO416 := kE HO416 ho41 hb; replace BK410 := kK BK410 hb; replace HB := kB1 HB GE410 hb; clear hb ho41))
 go_ret2
 exact ⟨_, by first | rfl | (simp [errW_none, errW_some] <;> rfl) | (simp [*, errW_none, errW_some] <;> rfl), by (with_reducible repeat (first | apply Kd.R_alloc | apply Kd.R_drewN | apply Kd.R_drew)); exact Kd.R_mono HO427.out (fun _ hk => trivial), zBG HB.out GE410.out⟩
 }
/-! ### spec_l00Has: function 47 -/
def spec_l00Has.l0 : Nat → List Int → Int → Int → Option (Bool)
  | 0, _, _, _ => none
  | k + 1, x0, x1, x5 => if x5 < (x0.length : Int) then (if 0 ≤ x5 then (if (rd x0 x5) = x1 then (some true) else (spec_l00Has.l0 k x0 x1 (wrap64 (x5 + 1)))) else (none)) else (some false)
def spec_l00Has.f (k : Nat) (l0 : List Int) (a1 : Int) : Option (Bool) := spec_l00Has.l0 k l0 a1 0
set_option maxHeartbeats 8000000 in
set_option maxRecDepth 100000 in
theorem spec_l00Has.calls (k : Nat) (A0 : Option Addr) (c0 : Nat) (l0 : List Int) (a1 : Int) (r : Bool) (w : World) (hr0 : Kd.C (Kd.int .i64) w A0 l0.length l0) (hc0 : l0.length ≤ c0) (h : spec_l00Has.f k l0 a1 = some r) :
    Calls Tryz.prog 47 #[.slice A0 l0.length c0, .int .i64 a1] w fun e w' => e = .returned (.bool r) ∧ Drawn0 w w' := by
 have HR0 := ak hr0
 have HC0 := ak hc0
 clear hr0 hc0
 have H := h
 unfold spec_l00Has.f at H
 clear h
 have H' := ak H
 clear H
 go_enter Tryz.func47, Tryz.ntmps47
 go_wp2
 go_loopg [5] k (fun kq v5 w' => ∃ (x5_1 : Int), v5 = .int .i64 x5_1 ∧ Aside0 (spec_l00Has.l0 kq l0 a1 x5_1 = some r) ∧ Aside0 (kq ≤ k) ∧ Drawn0 w w')
 case atStart => exact ⟨(0), (by first | rfl | (simp; done) | (simp [*]; done)), H', ⟨Nat.le_refl _⟩, by repeat (first | exact Drawn0.refl _ | apply Drawn0.step)⟩
 case round => (
 clear H'
 obtain ⟨x5_1, rfl, HA, HK1, ⟨m1, rfl⟩⟩ := hrel
 cases gk with
 | zero => exact absurd HA.out (by simp [spec_l00Has.l0])
 | succ k1 => (
 have H := HA.out
 clear HA
 simp only [spec_l00Has.l0] at H
 by_cases c3 : x5_1 < (l0.length : Int)
 {
 rw [if_pos c3] at H
 have c3b0 : decide (x5_1 < (l0.length : Int)) = true := decide_eq_true c3
 clear c3
 by_cases c4 : 0 ≤ x5_1
 {
 rw [if_pos c4] at H
 have c4b0 : decide (0 ≤ x5_1) = true := decide_eq_true c4
 clear c4
 by_cases c5 : (rd l0 x5_1) = a1
 {
 rw [if_pos c5] at H
 have c5b0 : ((rd l0 x5_1) == a1) = true := beq_iff_eq.mpr c5
 have c5b1 : ((rd l0 x5_1) != a1) = false := bne_eq_false_iff_eq.mpr c5
 clear c5
 obtain rfl := Option.some.inj H
 have p428 : 0 ≤ (x5_1 : Int) := of_decide_eq_true (by first | (with_reducible assumption) | assumption)
 have q428 : x5_1 < (l0.length : Int) := of_decide_eq_true (by first | (with_reducible assumption) | assumption)
 obtain ⟨ad428, e428, hx428_0⟩ := Kd.at_int HR0.out x5_1 p428 q428
 cases e428
 replace p428 := eq_true p428
 replace q428 := eq_true q428
 go_wp2
 go_ret
 exact ⟨by first | rfl | (simp; done) | (simp [*]; done), by repeat (first | exact Drawn0.refl _ | apply Drawn0.step)⟩
 }
 {
 rw [if_neg c5] at H
 have c5b0 : ((rd l0 x5_1) == a1) = false := beq_eq_false_iff_ne.mpr c5
 have c5b1 : ((rd l0 x5_1) != a1) = true := bne_iff_ne.mpr c5
 have H' := ak H
 clear H
 have p428 : 0 ≤ (x5_1 : Int) := of_decide_eq_true (by first | (with_reducible assumption) | assumption)
 have q428 : x5_1 < (l0.length : Int) := of_decide_eq_true (by first | (with_reducible assumption) | assumption)
 obtain ⟨ad428, e428, hx428_0⟩ := Kd.at_int HR0.out x5_1 p428 q428
 cases e428
 replace p428 := eq_true p428
 replace q428 := eq_true q428
 go_wp2
 go_roundg k1
 case measure => have := HK1.out; omega
 case rel => exact ⟨(wrap64 (x5_1 + 1)), (by first | rfl | (simp; done) | (simp [*]; done)), H', ⟨by have := HK1.out; omega⟩, by repeat (first | exact Drawn0.refl _ | apply Drawn0.step)⟩
 }
 }
 · rw [if_neg c4] at H; exact absurd H (by simp)
 }
 {
 rw [if_neg c3] at H
 have c3b0 : decide (x5_1 < (l0.length : Int)) = false := decide_eq_false c3
 clear c3
 obtain rfl := Option.some.inj H
 go_wp2
 go_ret
 exact ⟨by first | rfl | (simp; done) | (simp [*]; done), by repeat (first | exact Drawn0.refl _ | apply Drawn0.step)⟩
 }
 )
 )
/-! ### spec_HasNumber: function 22 -/
def spec_HasNumber.f (k : Nat) (l0 : List Int) (a1 : Int) : Option (Bool) := (spec_l00Has.f k l0 a1).bind fun t429 => (some t429)
set_option maxHeartbeats 8000000 in
set_option maxRecDepth 100000 in
theorem spec_HasNumber.calls (k : Nat) (A0 : Option Addr) (c0 : Nat) (l0 : List Int) (a1 : Int) (r : Bool) (w : World) (hr0 : Kd.C (Kd.int .i64) w A0 l0.length l0) (hc0 : l0.length ≤ c0) (h : spec_HasNumber.f k l0 a1 = some r) :
    Calls Tryz.prog 22 #[.slice A0 l0.length c0, .int .i64 a1] w fun e w' => e = .returned (.bool r) ∧ Drawn0 w w' := by
 have HR0 := ak hr0
 have HC0 := ak hc0
 clear hr0 hc0
 have H := h
 unfold spec_HasNumber.f at H
 clear h
 replace H := Option.bind_eq_some_iff.mp H
 obtain ⟨t429, A30, H⟩ := H
 have A3 := ak A30
 clear A30
 obtain rfl := Option.some.inj H
 go_enter Tryz.func22, Tryz.ntmps22
 go_wp2_with (first | ((with_reducible refine gate_callee (f := 47) rfl ?_); refine goesL_ (some 7) rfl rfl Tryz.func47 (by kernel_rfl) rfl #[.slice A0 l0.length c0, .int .i64 a1] rfl gl_ ?_; (with_reducible refine (spec_l00Has.calls k _ _ l0 a1 t429 _ ?side1 ?side2 A3.out).mono ?_); (case side1 => exact sD HR0); (case side2 => exact HC0.out); rintro e w' ⟨rfl, ⟨nd, rfl⟩⟩; refine ⟨_, rfl, ?_⟩))
 go_ret
 exact ⟨by first | rfl | (simp; done) | (simp [*]; done), by repeat (first | exact Drawn0.refl _ | apply Drawn0.step)⟩
/-! ### spec_HasWord: function 23 -/
def spec_HasWord.l0 : Nat → List ByteArray → ByteArray → Int → Option (Bool)
  | 0, _, _, _ => none
  | k + 1, x0, x1, x5 => if x5 < (x0.length : Int) then (if 0 ≤ x5 then (if (rdOf ByteArray.empty x0 x5).toList = x1.toList then (some true) else (spec_HasWord.l0 k x0 x1 (wrap64 (x5 + 1)))) else (none)) else (some false)
def spec_HasWord.f (k : Nat) (l0 : List ByteArray) (a1 : ByteArray) : Option (Bool) := spec_HasWord.l0 k l0 a1 0
set_option maxHeartbeats 8000000 in
set_option maxRecDepth 100000 in
theorem spec_HasWord.calls (k : Nat) (A0 : Option Addr) (c0 : Nat) (l0 : List ByteArray) (a1 : ByteArray) (r : Bool) (w : World) (hr0 : Kd.C Kd.string w A0 l0.length l0) (hc0 : l0.length ≤ c0) (h : spec_HasWord.f k l0 a1 = some r) :
    Calls Tryz.prog 23 #[.slice A0 l0.length c0, .string a1] w fun e w' => e = .returned (.bool r) ∧ Drawn0 w w' := by
 have HR0 := ak hr0
 have HC0 := ak hc0
 clear hr0 hc0
 have H := h
 unfold spec_HasWord.f at H
 clear h
 have H' := ak H
 clear H
 go_enter Tryz.func23, Tryz.ntmps23
 go_wp2
 go_loopg [5] k (fun kq v5 w' => ∃ (x5_1 : Int), v5 = .int .i64 x5_1 ∧ Aside0 (spec_HasWord.l0 kq l0 a1 x5_1 = some r) ∧ Aside0 (kq ≤ k) ∧ Drawn0 w w')
 case atStart => exact ⟨(0), (by first | rfl | (simp; done) | (simp [*]; done)), H', ⟨Nat.le_refl _⟩, by repeat (first | exact Drawn0.refl _ | apply Drawn0.step)⟩
 case round => (
 clear H'
 obtain ⟨x5_1, rfl, HA, HK1, ⟨m1, rfl⟩⟩ := hrel
 cases gk with
 | zero => exact absurd HA.out (by simp [spec_HasWord.l0])
 | succ k1 => (
 have H := HA.out
 clear HA
 simp only [spec_HasWord.l0] at H
 by_cases c3 : x5_1 < (l0.length : Int)
 {
 rw [if_pos c3] at H
 have c3b0 : decide (x5_1 < (l0.length : Int)) = true := decide_eq_true c3
 clear c3
 by_cases c4 : 0 ≤ x5_1
 {
 rw [if_pos c4] at H
 have c4b0 : decide (0 ≤ x5_1) = true := decide_eq_true c4
 clear c4
 by_cases c5 : (rdOf ByteArray.empty l0 x5_1).toList = a1.toList
 {
 rw [if_pos c5] at H
 have c5b0 : ((rdOf ByteArray.empty l0 x5_1).toList == a1.toList) = true := beq_iff_eq.mpr c5
 have c5b1 : ((rdOf ByteArray.empty l0 x5_1).toList != a1.toList) = false := bne_eq_false_iff_eq.mpr c5
 clear c5
 obtain rfl := Option.some.inj H
 have p430 : 0 ≤ (x5_1 : Int) := of_decide_eq_true (by first | (with_reducible assumption) | assumption)
 have q430 : x5_1 < (l0.length : Int) := of_decide_eq_true (by first | (with_reducible assumption) | assumption)
 obtain ⟨ad430, e430, hx430_0⟩ := Kd.at_string HR0.out x5_1 p430 q430
 cases e430
 replace p430 := eq_true p430
 replace q430 := eq_true q430
 go_wp2
 go_ret
 exact ⟨by first | rfl | (simp; done) | (simp [*]; done), by repeat (first | exact Drawn0.refl _ | apply Drawn0.step)⟩
 }
 {
 rw [if_neg c5] at H
 have c5b0 : ((rdOf ByteArray.empty l0 x5_1).toList == a1.toList) = false := beq_eq_false_iff_ne.mpr c5
 have c5b1 : ((rdOf ByteArray.empty l0 x5_1).toList != a1.toList) = true := bne_iff_ne.mpr c5
 have H' := ak H
 clear H
 have p430 : 0 ≤ (x5_1 : Int) := of_decide_eq_true (by first | (with_reducible assumption) | assumption)
 have q430 : x5_1 < (l0.length : Int) := of_decide_eq_true (by first | (with_reducible assumption) | assumption)
 obtain ⟨ad430, e430, hx430_0⟩ := Kd.at_string HR0.out x5_1 p430 q430
 cases e430
 replace p430 := eq_true p430
 replace q430 := eq_true q430
 go_wp2
 go_roundg k1
 case measure => have := HK1.out; omega
 case rel => exact ⟨(wrap64 (x5_1 + 1)), (by first | rfl | (simp; done) | (simp [*]; done)), H', ⟨by have := HK1.out; omega⟩, by repeat (first | exact Drawn0.refl _ | apply Drawn0.step)⟩
 }
 }
 · rw [if_neg c4] at H; exact absurd H (by simp)
 }
 {
 rw [if_neg c3] at H
 have c3b0 : decide (x5_1 < (l0.length : Int)) = false := decide_eq_false c3
 clear c3
 obtain rfl := Option.some.inj H
 go_wp2
 go_ret
 exact ⟨by first | rfl | (simp; done) | (simp [*]; done), by repeat (first | exact Drawn0.refl _ | apply Drawn0.step)⟩
 }
 )
 )
/-! ### impl_FirstWords: function 24 -/
def impl_FirstWords.goodW (s : ByteArray) : Prop := 1 ≤ s.size ∧ s.size ≤ 12 ∧ ∀ j : Nat, j < s.size → 97 ≤ bt s (j : Int) ∧ bt s (j : Int) ≤ 122
def impl_FirstWords.T (k : Nat) (l0 : List S40) (m : Int) : Prop := l0.length ≤ 30 ∧ ∀ x ∈ l0, ∀ s, impl_FirstWords.goodW s → ∃ r, impl_Habit_pasts.f k x.f0 x.f1 x.f2 s m = some r ∧ r.length ≤ 5000 ∧ ∀ y ∈ r, impl_FirstWords.goodW y
def impl_FirstWords.cat (k : Nat) (m : Int) (x : S40) (now : List ByteArray) : List ByteArray := now.flatMap (fun s => (impl_Habit_pasts.f k x.f0 x.f1 x.f2 s m).getD [])
def impl_FirstWords.step (k : Nat) (m : Int) (x : S40) (now : List ByteArray) : List ByteArray := Go.Proofs.YtobickehjnogjaaGreatDoor.H.unB (Lib.compact (Go.Proofs.YtobickehjnogjaaGreatDoor.H.sortB (impl_FirstWords.cat k m x now)))
def impl_FirstWords.fold (k : Nat) (m : Int) : List S40 → List ByteArray → List ByteArray × Int
  | [], now => (now, 0)
  | x :: r, now => if 300 < (impl_FirstWords.step k m x now).length then ([], 3) else impl_FirstWords.fold k m r (impl_FirstWords.step k m x now)
open Classical in
noncomputable def impl_FirstWords.f (k : Nat) (l0 : List S40) (a1 : ByteArray) (a977_0 : Int) : Option (List ByteArray × Int) := (impl_chainCode.f k l0 [a1]).bind fun c => (if c = 0 then (if impl_FirstWords.goodW a1 ∧ impl_FirstWords.T k l0 a977_0 then some (impl_FirstWords.fold k a977_0 l0.reverse [a1]) else none) else some ([], c))
theorem impl_FirstWords.cat_good {k : Nat} {m : Int} {l0 : List S40} (hT : impl_FirstWords.T k l0 m) {x : S40} (hx : x ∈ l0) (now : List ByteArray) (h : ∀ s ∈ now, impl_FirstWords.goodW s) : ∀ y ∈ impl_FirstWords.cat k m x now, impl_FirstWords.goodW y := by
  intro y hy
  unfold impl_FirstWords.cat at hy
  rw [List.mem_flatMap] at hy
  obtain ⟨s, hs, hy⟩ := hy
  obtain ⟨q, h1, _, h3⟩ := hT.2 x hx s (h s hs)
  rw [h1] at hy
  exact h3 y hy
theorem impl_FirstWords.step_good {k : Nat} {m : Int} {l0 : List S40} (hT : impl_FirstWords.T k l0 m) {x : S40} (hx : x ∈ l0) (now : List ByteArray) (h : ∀ s ∈ now, impl_FirstWords.goodW s) : ∀ y ∈ impl_FirstWords.step k m x now, impl_FirstWords.goodW y :=
  fun y hy => impl_FirstWords.cat_good hT hx now h y (Go.Proofs.YtobickehjnogjaaGreatDoor.H.mem_of_compact _ y hy)
attribute [local go_sem] Oper.semAt_some
/-! ### slices.Backward at habits: its iterator -/
abbrev FwA (l0 : List S40) : Type := { p : Int × S40 // p.2 ∈ l0 }
def fwEnc {l0 : List S40} (p : FwA l0) : Array Value := #[.int .i64 p.1.1, .agg #[.int .i8 p.1.2.f0, .int .u8 p.1.2.f1, .int .u8 p.1.2.f2]]
def fwV {l0 : List S40} (pre : List (FwA l0)) : List S40 := pre.map (fun p => p.1.2)
theorem fwV_snoc {l0 : List S40} (pre : List (FwA l0)) (p : FwA l0) : fwV (pre ++ [p]) = fwV pre ++ [p.1.2] := by simp [fwV]
theorem fw_next (l0 : List S40) (i : Nat) (h : i < l0.length) : l0.reverse.take (l0.length - i) = l0.reverse.take (l0.length - (i + 1)) ++ [rd_T40 l0 (i : Int)] := by
  have e : l0.length - i = (l0.length - (i + 1)) + 1 := by omega
  rw [e, List.take_succ_eq_append_getElem (by rw [List.length_reverse]; omega), List.getElem_reverse]
  congr 2
  unfold rd_T40
  simp only [Int.toNat_natCast]
  have hidx : l0.length - 1 - (l0.length - (i + 1)) = i := by omega
  rw [List.getD_eq_getElem?_getD, List.getElem?_eq_getElem h]
  simp only [hidx]
  rfl
/-- What a round keeps: what lay ahead of the call, and the box of the slice. -/
def FwK (n₀ Bs : Nat) (W W' : World) : Prop := Below n₀ W W' ∧ W'.heap[Bs]? = W.heap[Bs]?
theorem FwK.refl (n₀ Bs : Nat) (W : World) : FwK n₀ Bs W W := ⟨Below.refl _ _, rfl⟩
theorem FwK.trans {n₀ Bs : Nat} {A B C : World} (h : FwK n₀ Bs A B) (k : FwK n₀ Bs B C) : FwK n₀ Bs A C := ⟨h.1.trans k.1, k.2.trans h.2⟩
set_option maxRecDepth 100000 in
set_option maxHeartbeats 4000000 in
theorem fwIter_in (F : Fence) (n : Nat) (hF : F.fn 71) (hro : F.round = none) (hn : 1 ≤ n) (l Bs n₀ : Nat) (A0 : Option Addr) (c0 : Nat) (l0 : List S40) (hsz : l0.length ≤ 9223372036854775807) (w0 : World) (hn0 : w0.heap.size ≤ n₀) (hC : Kd.C k40 w0 A0 l0.length l0)
    (J Jx : List (FwA l0) → World → Prop)
    (hY : ∀ pre x W, J pre W → pre.length < l0.length → YieldAt F (n - 1) Tryz.prog l (fwEnc x) W fun e W' =>
      (e = .returned (.bool true) ∧ J (pre ++ [x]) W' ∧ FwK n₀ Bs W W') ∨ (e = .returned (.bool false) ∧ Jx (pre ++ [x]) W'))
    (W : World) (hW : Below w0.heap.size w0 W) (hBs : Boxed W Bs 24 (.slice A0 l0.length c0)) (h0 : J [] W) :
    CallsIn F n Tryz.prog 71 #[.func (.yield l) #[] #[], .pointer (some ⟨Bs, 0, none⟩)] W fun e W' => (∃ v, e = .returned v) ∧
      ((∃ ys, fwV ys = l0.reverse ∧ J ys W') ∨ (∃ pre, (fwV pre <+: l0.reverse) ∧ Jx pre W')) := by
  refine callsIn_of_wp Tryz.func71 rfl hF ?_ hro
  have hbs0 := hBs.cell
  simp only [Tryz.ntmps71, List.size_toArray, List.length_cons, List.length_nil, Nat.reduceAdd, Nat.reduceSub, Array.replicate_succ, Array.replicate_zero, List.push_toArray, List.append_toArray, List.nil_append, List.cons_append]
  gi_wp2
  gi_loopw [3] (fun i wr => ∃ (k : Nat) (pre : List (FwA l0)), k ≤ l0.length ∧ i = .int .i64 ((k : Int) - 1) ∧ fwV pre = l0.reverse.take (l0.length - k) ∧ J pre wr ∧ FwK n₀ Bs W wr)
    (fun i _ => (intOf i + 1).toNat)
  case atStart => exact ⟨l0.length, [], Nat.le_refl _, rfl, by simp [fwV], h0, FwK.refl _ _ _⟩
  case round =>
    obtain ⟨k, pre, hk, rfl, hv, hJs, hnx⟩ := hrel
    have hbs : wr.cell? ⟨Bs, 0, none⟩ = some (.slice A0 l0.length c0) := Boxed.cell (hnx.2.trans hBs)
    cases k with
    | zero =>
      gi_wp2
      go_end0
      exact ⟨⟨_, rfl⟩, .inl ⟨pre, by rw [hv, Nat.sub_zero]; exact List.take_of_length_le (by simp), hJs⟩⟩
    | succ i =>
      have hil : i < l0.length := by omega
      have hi1 : (((i + 1 : Nat) : Int) - 1) = (i : Int) := by omega
      rw [hi1]
      obtain ⟨ad, e, hx0, hx1, hx2⟩ := at_T40 hC (i : Int) (by omega) (by omega)
      subst e
      simp only [Int.toNat_natCast] at hx0 hx1 hx2
      have hb3 : Below w0.heap.size w0 wr := hW.trans (hnx.1.mono hn0)
      replace hx0 := (hb3.cell (World.block_lt_of_cell? w0 _ hx0)).trans hx0
      replace hx1 := (hb3.cell (World.block_lt_of_cell? w0 _ hx1)).trans hx1
      replace hx2 := (hb3.cell (World.block_lt_of_cell? w0 _ hx2)).trans hx2
      have hmem : rd_T40 l0 (i : Int) ∈ l0 := by
        have := fw_next l0 i hil
        have hm : rd_T40 l0 (i : Int) ∈ l0.reverse.take (l0.length - i) := by rw [this]; simp
        exact List.mem_reverse.1 (List.mem_of_mem_take hm)
      have hpl : pre.length = l0.length - (i + 1) := by
        have := congrArg List.length hv
        simpa [fwV] using this
      obtain ⟨fn, tmps, assign, body, hy, hR⟩ := hY pre ⟨((i : Int), rd_T40 l0 (i : Int)), hmem⟩ wr hJs (by omega)
      dsimp only [fwEnc] at hy
      have hnx2 := fw_next l0 i hil
      generalize rd_T40 l0 (i : Int) = x at *
      clear hC
      gi_wp2
      refine hR.mono ?_
      rintro e W3 (⟨rfl, hJ3, hk3⟩ | ⟨rfl, hJx3⟩)
      · gi_wp2
        go_roundw
        case rel => exact ⟨i, _, by omega, by simp, by rw [fwV_snoc, hv, hnx2], hJ3, hnx.trans hk3⟩
        case measure => simp [intOf]
      · gi_wp2
        refine bodyPost_ret (results_none rfl _ _ _) rfl ?_
        exact ⟨⟨_, rfl⟩, .inr ⟨_, by rw [fwV_snoc, hv, ← hnx2]; exact List.take_prefix _ _, hJx3⟩⟩
theorem fw_stops (F : Fence) (n : Nat) (hF : F.fn 71) (hro : F.round = none) (hn : 1 ≤ n) (Bs n₀ : Nat) (A0 : Option Addr) (c0 : Nat) (l0 : List S40) (hsz : l0.length ≤ 9223372036854775807) (w0 : World) (hn0 : w0.heap.size ≤ n₀) (hC : Kd.C k40 w0 A0 l0.length l0) (w : World) (hw : Below w0.heap.size w0 w) (hBs : Boxed w Bs 24 (.slice A0 l0.length c0)) :
    SeqStopsK F n Tryz.prog 71 #[.pointer (some ⟨Bs, 0, none⟩)] (fwEnc (l0 := l0)) (FwK n₀ Bs) (fun ys => fwV ys = l0.reverse) (fun pre => fwV pre <+: l0.reverse) l0.length w := fun l J Jx W hW _ _ hY h0 =>
  fwIter_in F n hF hro hn l Bs n₀ A0 c0 l0 hsz w0 hn0 hC J Jx hY W (hw.trans (hW.mono hw.size)) ((hW.block Bs hBs.lt).trans hBs) h0
theorem fwBack_calls (A0 : Option Addr) (c0 n : Nat) (w : World) : Calls Tryz.prog 48 #[.slice A0 n c0] w fun e w' => e = .returned (.func (.func 71) #[] #[.pointer (some ⟨w.heap.size, 0, none⟩)]) ∧ w' = w.alloc (.cells #[.slice A0 n c0] 24) := by
  go_enter Tryz.func48, Tryz.ntmps48
  go_wp2
  go_ret
  exact ⟨rfl, rfl⟩
theorem own_block {B : Nat} {A A' : World} {row : Option Nat} (hg : A.grownBy A' row) (hr : ∀ r, row = some r → B ≤ r ∧ ∃ o : Obj, A.heap[r]? = some o ∧ o.isCells = false) {b : Nat} {cs : Array Value} {t : TypeId} {fr : Nat × Nat} (h : A.heap[b]? = some (.cells cs t fr)) : A'.heap[b]? = some (.cells cs t fr) :=
  (hg.block b (Array.getElem?_eq_some_iff.1 h).1 (fun e => by obtain ⟨_, o, ho, hc⟩ := hr b e.symm; rw [h] at ho; cases ho; cases hc)).trans h
/-- Between two rounds: the words so far, in their box. -/
def fwI (k : Nat) (m : Int) (l0 : List S40) (a1 : ByteArray) (n0 b7 : Nat) (w : World) (pre : List (FwA l0)) (W : World) : Prop :=
  ∃ (now : List ByteArray) (g cap : Nat), (∀ rest, impl_FirstWords.fold k m (fwV pre ++ rest) [a1] = impl_FirstWords.fold k m rest now) ∧ (∀ s ∈ now, impl_FirstWords.goodW s) ∧ now.length ≤ 300 ∧ Boxed W b7 29 (.slice (some ⟨g, 0, none⟩) now.length cap) ∧ n0 ≤ g ∧ H.RowS W g cap now ∧ Boxed W n0 29 (.slice none 0 0) ∧ Boxed W (n0 + 1) 2 (.int .i64 0) ∧ Below n0 w W ∧ b7 + 1 < W.heap.size
/-- A round has left: they are too many. -/
def fwX (k : Nat) (m : Int) (l0 : List S40) (a1 : ByteArray) (n0 : Nat) (w : World) (c : Code) (pre : List (FwA l0)) (W : World) : Prop :=
  c = .ret ∧ (∀ rest, impl_FirstWords.fold k m (fwV pre ++ rest) [a1] = ([], 3)) ∧ Boxed W n0 29 (.slice none 0 0) ∧ Boxed W (n0 + 1) 2 (.int .i64 3) ∧ Below n0 w W
theorem fwI_own {k : Nat} {m : Int} {l0 : List S40} {a1 : ByteArray} {n0 b7 B : Nat} {w : World} (hn : n0 ≤ w.heap.size) (hB : n0 ≤ B) : OwnFrom B (fwI k m l0 a1 n0 b7 w) := by
  intro pre A A' row hs hg hr
  obtain ⟨now, g, cap, h1, h2, h3, h4, h5, ⟨cur, e1, e2⟩, h7, h8, h9, h10⟩ := hs
  exact ⟨now, g, cap, h1, h2, h3, own_block hg hr h4, h5, ⟨cur, own_block hg hr e1, e2⟩, own_block hg hr h7, own_block hg hr h8, ownFrom_below (β := Unit) hn hB () A A' row h9 hg hr, Nat.lt_of_lt_of_le h10 hg.size⟩
theorem fwX_own {k : Nat} {m : Int} {l0 : List S40} {a1 : ByteArray} {n0 B : Nat} {w : World} (hn : n0 ≤ w.heap.size) (hB : n0 ≤ B) (c : Code) : OwnFrom B (fwX k m l0 a1 n0 w c) := by
  intro pre A A' row hs hg hr
  obtain ⟨h1, h2, h3, h4, h5⟩ := hs
  exact ⟨h1, h2, own_block hg hr h3, own_block hg hr h4, ownFrom_below (β := Unit) hn hB () A A' row h5 hg hr⟩
theorem keepsFrom_below {B : Nat} {W W' : World} (h : Below W.heap.size W W') : KeepsFrom B W W' := ⟨h.size, fun j o _ hj _ => (h.block j (Array.getElem?_eq_some_iff.1 hj).1).trans hj⟩
theorem FwK.below {n₀ Bs : Nat} {W W' : World} (h : Below W.heap.size W W') (hn : n₀ ≤ W.heap.size) (hB : Bs < W.heap.size) : FwK n₀ Bs W W' := ⟨h.mono hn, h.block Bs hB⟩
theorem own_ge {W : World} {base e size n : Nat} {v : Value} {cs : List Value} (h : W.ownsRow base e size v n cs) : ∀ j, v.ownBlock = some j → base ≤ j := by
  intro j hj
  rcases h.2 with ⟨e0, _⟩ | ⟨g, cap, cur, e0, hb, _⟩
  · rw [e0] at hj; simp [Value.ownBlock] at hj
  · rw [e0] at hj
    have : g = j := by simpa [Value.ownBlock] using hj
    omega
theorem cat_len {k : Nat} {m : Int} {l0 : List S40} (hT : impl_FirstWords.T k l0 m) {x : S40} (hx : x ∈ l0) : ∀ now : List ByteArray, (∀ s ∈ now, impl_FirstWords.goodW s) → (impl_FirstWords.cat k m x now).length ≤ now.length * 5000
  | [], _ => by simp [impl_FirstWords.cat]
  | s :: r, h => by
    obtain ⟨q, h1, h2, _⟩ := hT.2 x hx s (h s List.mem_cons_self)
    have ih := cat_len hT hx r (fun y hy => h y (List.mem_cons_of_mem _ hy))
    unfold impl_FirstWords.cat at ih ⊢
    rw [List.flatMap_cons, List.length_append, h1, List.length_cons, Nat.succ_mul]
    simp only [Option.getD_some]
    omega
theorem cat_next {k : Nat} {m : Int} {x : S40} {now r : List ByteArray} (j : Nat) (hj : j < now.length) (h : impl_Habit_pasts.f k x.f0 x.f1 x.f2 now[j] m = some r) : impl_FirstWords.cat k m x (now.take (j + 1)) = impl_FirstWords.cat k m x (now.take j) ++ r := by
  rw [List.take_succ_eq_append_getElem hj]
  unfold impl_FirstWords.cat
  rw [List.flatMap_append, List.flatMap_cons, List.flatMap_nil, h, List.append_nil]
  rfl
theorem own_keep {W W' : World} {base e size n : Nat} {v : Value} {cs : List Value} (h : W.ownsRow base e size v n cs) (hb : Below W.heap.size W W') : W'.ownsRow base e size v n cs := by
  refine ⟨h.1, ?_⟩
  rcases h.2 with h1 | ⟨g, cap, cur, e0, hb0, hg, hrest⟩
  · exact .inl h1
  · exact .inr ⟨g, cap, cur, e0, hb0, (hb.block g (Array.getElem?_eq_some_iff.1 hg).1).trans hg, hrest⟩
theorem rowS_cells {W : World} {g cap : Nat} {d : List ByteArray} (h : H.RowS W g cap d) : ∀ j u, (d.map Value.string)[j]? = some u → W.cell? ((⟨g, 0, none⟩ : Addr).add j) = some u := by
  intro j u hu
  have hj : j < d.length := by have := (List.getElem?_eq_some_iff.1 hu).1; simpa using this
  rw [List.getElem?_map, List.getElem?_eq_getElem hj] at hu
  have := h.cell j hj
  rw [show ((⟨g, 0, none⟩ : Addr).add j) = ⟨g, j, none⟩ by rw [Addr.add_lit, Nat.zero_add]]
  rw [this]
  exact hu
theorem one_strings (d : List ByteArray) : ∀ u ∈ d.map Value.string, u.oneCell' = true := by
  intro u hu
  obtain ⟨s, _, rfl⟩ := List.mem_map.1 hu
  rfl
theorem rowS_far {W : World} {g cap b : Nat} {d : List ByteArray} (h : H.RowS W g cap d) (hne : g ≠ b) (u : Value) : H.RowS (W.setCell ⟨b, 0, none⟩ u) g cap d := by
  obtain ⟨cur, h1, h2⟩ := h
  exact ⟨cur, (Below.heap_setCell W ⟨b, 0, none⟩ u g hne).trans h1, h2⟩
theorem rowS_put {W : World} {g cap D : Nat} {d : List ByteArray} {o : Obj} (h : H.RowS W g cap d) (hD : W.heap[D]? = some o) (ho : o.isCells = false) (o' : Obj) : H.RowS (W.putObj D o') g cap d := by
  obtain ⟨cur, h1, h2⟩ := h
  refine ⟨cur, (World.putObj_heap_other (fun e => ?_)).trans h1, h2⟩
  subst e
  rw [hD] at h1
  cases h1
  cases ho
theorem boxed_put {W : World} {B D : Nat} {t : TypeId} {v : Value} {o : Obj} (h : Boxed W B t v) (hD : W.heap[D]? = some o) (ho : o.isCells = false) (o' : Obj) : Boxed (W.putObj D o') B t v := by
  refine Eq.trans (World.putObj_heap_other (fun e => ?_)) h
  subst e
  rw [show W.heap[_]? = _ from h] at hD
  cases hD
  cases ho
theorem fw_lit (W : World) (s : ByteArray) : H.RowS (W.alloc (.cells #[.string s] 9)) W.heap.size 1 [s] :=
  ⟨#[.string s], heap_alloc_new W _, rfl, Nat.le_refl _, by decide, rfl⟩
set_option maxHeartbeats 8000000 in
set_option maxRecDepth 1000000 in
theorem impl_FirstWords.calls (k : Nat) (A0 : Option Addr) (c0 : Nat) (l0 : List S40) (a1 : ByteArray) (a977_0 : Int) (r1 : List ByteArray) (r2 : Int) (w : World) (hr0 : Kd.C k40 w A0 l0.length l0) (hc0 : l0.length ≤ c0) (hx977 : w.heap[0]? = some (.cells #[.int .i64 a977_0] 3 (0, 0))) (h : impl_FirstWords.f k l0 a1 a977_0 = some (r1, r2)) :
    Calls Tryz.prog 24 #[.slice A0 l0.length c0, .string a1] w fun e w' => ∃ v0_ : Value, e = .returned (.tuple #[v0_, .int .i64 r2]) ∧ Kd.R Kd.string 9 w' w.heap.size (fun _ => True) v0_ r1 ∧ Below w.heap.size w w' := by
  unfold impl_FirstWords.f at h
  obtain ⟨c, hcc0, h⟩ := Option.bind_eq_some_iff.mp h
  have hBa : Below w.heap.size w (w.alloc (.cells #[.slice none 0 0] 29)) := (Below.refl _ _).alloc (Nat.le_refl _) _
  have hBb : Below w.heap.size w ((w.alloc (.cells #[.slice none 0 0] 29)).alloc (.cells #[.int .i64 0] 2)) := hBa.alloc (by simp) _
  have hB1 : Below w.heap.size w (((w.alloc (.cells #[.slice none 0 0] 29)).alloc (.cells #[.int .i64 0] 2)).alloc (.cells #[.string a1] 9)) := hBb.alloc (by simp; omega) _
  have b4 := ((Boxed.new w 29 (.slice none 0 0)).alloc (.cells #[.int .i64 0] 2)).alloc (.cells #[.string a1] 9)
  have b5 := (Boxed.new (w.alloc (.cells #[.slice none 0 0] 29)) 2 (.int .i64 0)).alloc (.cells #[.string a1] 9)
  rw [World.size_alloc] at b5
  have hl1 := fw_lit ((w.alloc (.cells #[.slice none 0 0] 29)).alloc (.cells #[.int .i64 0] 2)) a1
  have hs2 : ((w.alloc (.cells #[.slice none 0 0] 29)).alloc (.cells #[.int .i64 0] 2)).heap.size = w.heap.size + 2 := by simp
  rw [hs2] at hl1
  obtain ⟨A1, c1, e1, hle1, hC1⟩ := Kd.R_reads (H.R_of_rowS hl1 (Nat.zero_le _))
  injection e1 with e2 _ e3
  subst e2; subst e3
  have hcc := impl_chainCode.calls k A0 c0 l0 (some ⟨w.heap.size + 2, 0, none⟩) 1 [a1] c _ (Kd.C_below hr0 hB1) hc0 hC1 hle1 hcc0
  clear hl1 hle1 hC1 hcc0
  have X0 : Aside (Kd.C k40 w A0 l0.length l0 ∧ w.heap[0]? = some (.cells #[.int .i64 a977_0] 3 (0, 0))) := ⟨hr0, hx977⟩
  clear hr0 hx977 hBa hBb
  have XB : Aside (Below w.heap.size w _ ∧ Boxed _ w.heap.size 29 (.slice none 0 0) ∧ Boxed _ (w.heap.size + 1) 2 (.int .i64 0)) := ⟨hB1, b4, b5⟩
  have hs3 : (((w.alloc (.cells #[.slice none 0 0] 29)).alloc (.cells #[.int .i64 0] 2)).alloc (.cells #[.string a1] 9)).heap.size = w.heap.size + 3 := by simp
  clear hB1 b4 b5 hs2
  refine (callsIn_wide (n := 3)).1 ?_
  refine callsIn_of_wp_marks (F := Fence.wide) Tryz.func24 rfl trivial ?_
  refine wpIn_wide.2 ?_
  simp only [Tryz.ntmps24, List.size_toArray, List.length_cons, List.length_nil, Nat.reduceAdd, Nat.reduceSub, Array.replicate_succ, Array.replicate_zero, List.push_toArray, List.append_toArray, List.nil_append, List.cons_append]
  have hH : Aside _ := h
  clear h
  go_wp2_with (first
    | (go_at_call 32; refine hcc.mono ?_; rintro e w1 ⟨rfl, hb1⟩; have B1 : Aside (Below w.heap.size w w1) := XB.out.1.trans (hb1.mono XB.out.1.size); have c4 : Boxed w1 w.heap.size 29 (.slice none 0 0) := (hb1.block _ (by rw [hs3]; omega)).trans XB.out.2.1; have c5 : Boxed w1 (w.heap.size + 1) 2 (.int .i64 0) := (hb1.block _ (by rw [hs3]; omega)).trans XB.out.2.2; have c4c := c4.cell; have c4f := c4.frozen; have c5c := c5.cell; have c5f := c5.frozen)
    | (go_at_call 48; refine (fwBack_calls A0 c0 l0.length _).mono ?_; rintro e w2 ⟨rfl, rfl⟩))
  · rename_i hc
    have hc0' : ¬ c = 0 := by simpa using hc
    have h2 := hH.out
    rw [if_neg hc0'] at h2
    have h3 := Option.some.inj h2
    obtain ⟨rfl, rfl⟩ := Prod.mk.inj h3
    refine ⟨.tuple #[.slice none 0 0, .int .i64 c], ?_, _, rfl, Kd.R_nil _ _ _ _ _, ?_⟩
    · simp [results, Tryz.f24, go_sem, c4c, c5c, World.cell?_setCell_same']
    · exact (B1.out.setCell (p := ⟨w.heap.size, 0, none⟩) (Nat.le_refl _) _).setCell (p := ⟨w.heap.size + 1, 0, none⟩) (by simp) _
  · rename_i hc Qx hKx
    have hc0' : c = 0 := by simpa using hc
    have h2 := hH.out
    rw [if_pos hc0'] at h2
    subst hc0'
    by_cases hT : impl_FirstWords.goodW a1 ∧ impl_FirstWords.T k l0 a977_0
    · rw [if_pos hT] at h2
      have h3 := Option.some.inj h2
      have hs1 := B1.out.size
      have f7 := ((Boxed.new (w1.alloc (.cells #[.string a1] 9)) 29 (.slice (some ⟨w1.heap.size, 0, none⟩) 1 1)).alloc (.cells #[.slice A0 l0.length c0] 24))
      rw [World.size_alloc] at f7
      have fs := Boxed.new ((w1.alloc (.cells #[.string a1] 9)).alloc (.cells #[.slice (some ⟨w1.heap.size, 0, none⟩) 1 1] 29)) 24 (.slice A0 l0.length c0)
      simp only [World.size_alloc] at fs
      have f4 := ((c4.alloc (.cells #[.string a1] 9)).alloc (.cells #[.slice (some ⟨w1.heap.size, 0, none⟩) 1 1] 29)).alloc (.cells #[.slice A0 l0.length c0] 24)
      have f5 := ((c5.alloc (.cells #[.string a1] 9)).alloc (.cells #[.slice (some ⟨w1.heap.size, 0, none⟩) 1 1] 29)).alloc (.cells #[.slice A0 l0.length c0] 24)
      have hb2 : Below (w1.alloc (.cells #[.string a1] 9)).heap.size (w1.alloc (.cells #[.string a1] 9)) (((w1.alloc (.cells #[.string a1] 9)).alloc (.cells #[.slice (some ⟨w1.heap.size, 0, none⟩) 1 1] 29)).alloc (.cells #[.slice A0 l0.length c0] 24)) := ((Below.refl _ _).alloc (Nat.le_refl _) _).alloc (by simp) _
      have fr := (fw_lit w1 a1).below hb2
      have B2 : Below w.heap.size w (((w1.alloc (.cells #[.string a1] 9)).alloc (.cells #[.slice (some ⟨w1.heap.size, 0, none⟩) 1 1] 29)).alloc (.cells #[.slice A0 l0.length c0] 24)) := ((B1.out.alloc hs1 _).alloc (by simp; omega) _).alloc (by simp; omega) _
      have hs4 : (((w1.alloc (.cells #[.string a1] 9)).alloc (.cells #[.slice (some ⟨w1.heap.size, 0, none⟩) 1 1] 29)).alloc (.cells #[.slice A0 l0.length c0] 24)).heap.size = w1.heap.size + 3 := by simp
      have hgs : w.heap.size + 3 ≤ w1.heap.size := by rw [← hs3]; exact hb1.size
      clear hb2 c4 c5 c4c c4f c5c c5f B1 hb1 hs1 hs3 XB hcc hH hc h2
      generalize (((w1.alloc (.cells #[.string a1] 9)).alloc (.cells #[.slice (some ⟨w1.heap.size, 0, none⟩) 1 1] 29)).alloc (.cells #[.slice A0 l0.length c0] 24)) = W2 at *
      generalize w1.heap.size = g0 at *
      have hn1 : w.heap.size ≠ g0 + 1 := by omega
      have hn2 : w.heap.size + 1 ≠ g0 + 1 := by omega
      have hn3 : g0 + 1 ≠ w.heap.size := by omega
      have hn4 : g0 + 1 ≠ w.heap.size + 1 := by omega
      have hn5 : w.heap.size ≠ w.heap.size + 1 := by omega
      have hn6 : w.heap.size + 1 ≠ w.heap.size := by omega
      refine (wpIn_wide (n := 3)).1 ?_
      refine wpIn_rangeFunc_ownH (F := Fence.wide) rfl (by decide) (gf := 71) (lb := #[.pointer (some ⟨g0 + 1 + 1, 0, none⟩)]) rfl trivial (enters_of Tryz.func71 (by kernel_rfl) rfl)
        (fw_stops Fence.wide 2 trivial rfl (by decide) (g0 + 1 + 1) w.heap.size A0 c0 l0 (by have := hT.2.1; omega) w (Nat.le_refl _) X0.out.1 W2 B2 fs) FwK.trans ?hKb (Below.refl _ _) (fun _ => rfl)
        (fwI k a977_0 l0 a1 w.heap.size (g0 + 1) w) (fwX k a977_0 l0 a1 w.heap.size w) (fwI_own (Nat.le_refl _) (by rw [hs4]; omega)) (fwX_own (Nat.le_refl _) (by rw [hs4]; omega))
        ⟨[a1], g0, 1, fun _ => rfl, fun s hs => by rw [List.mem_singleton] at hs; rw [hs]; exact hT.1, by simp, f7, by omega, fr, f4, f5, B2, by rw [hs4]; omega⟩
        (fun x a' W => ∃ Bx, g0 + 1 + 1 < Bx ∧ W.heap[Bx]? = some (.cells #[.int .i8 x.1.2.f0, .int .u8 x.1.2.f1, .int .u8 x.1.2.f2] 40 (0, 0)) ∧ a' = { tmps := #[.slice A0 l0.length c0, .string a1, undef, undef, .pointer (some ⟨w.heap.size, 0, none⟩), .pointer (some ⟨w.heap.size + 1, 0, none⟩), .int .i64 0, .pointer (some ⟨g0 + 1, 0, none⟩), undef, .pointer (some ⟨Bx, 0, none⟩), undef, undef, undef, .slice A0 l0.length c0, .string a1, .slice (some ⟨w.heap.size + 1 + 1, 0, none⟩) 1 1, .int .i64 0, .int .i64 0, .bool false, undef, .string a1, .slice (some ⟨g0, 0, none⟩) 1 1, .slice A0 l0.length c0, .func (.func 71) #[] #[.pointer (some ⟨g0 + 1 + 1, 0, none⟩)], .int .i64 x.1.1, .agg #[.int .i8 x.1.2.f0, .int .u8 x.1.2.f1, .int .u8 x.1.2.f2], undef, undef, undef, undef, undef, undef, undef, undef, undef, undef, undef, undef, undef, undef, undef, undef, undef, undef, undef, undef, undef], defers := [] })
        ?hAx ?assign ?body ?done ?stop
      case hKb =>
        intro W l o o' hl hh hc1 hc2
        refine ⟨belowK_b (w := w) (Nat.le_refl _) W l o o' (by omega) hh hc1 hc2, ?_⟩
        exact World.putObj_heap_other (by omega)
      case hAx =>
        intro x a' _ A A' row hs hg hr
        obtain ⟨Bx, q1, q2, q3⟩ := hs
        exact ⟨Bx, q1, own_block hg hr q2, q3⟩
      case assign =>
        intro l pre x W K hI hK
        dsimp only [fwEnc]
        gi_wp2
        have hb : Below W.heap.size W (W.alloc (.cells #[.int .i8 x.1.2.f0, .int .u8 x.1.2.f1, .int .u8 x.1.2.f2] 40)) := (Below.refl _ _).alloc (Nat.le_refl _) _
        have hI2 := hI
        obtain ⟨_, _, _, _, _, _, _, _, _, _, _, z9, z10⟩ := hI2
        exact hK _ _ (keepsFrom_below hb) (FwK.below hb z9.size z10) (OwnFrom.alloc (fwI_own (Nat.le_refl _) (Nat.le_refl _)) _ hI) ⟨W.heap.size, by omega, heap_alloc_new W _, rfl⟩
      case body =>
        rintro l pre x a' W hl _ ⟨now, g, cap, h1, h2, h3, h4, h5, h6, h7, h8, h9, h10⟩ ⟨Bx, q1, q2, rfl⟩ hlt
        have hbox := (h4.alloc (.cells #[] 9)).cell
        obtain ⟨i0, hi, hz0, hz1, hz2⟩ := info_parts info9
        have hxm := x.2
        have hgW := h6.lt
        have hg0 : W.heap[0]? = some (.cells #[.int .i64 a977_0] 3 (0, 0)) := (h9.block 0 (Array.getElem?_eq_some_iff.1 X0.out.2).1).trans X0.out.2
        have h0l := (Array.getElem?_eq_some_iff.1 hg0).1
        have hBl := (Array.getElem?_eq_some_iff.1 q2).1
        gi_wp2
        gi_loopw [10, 29] (fun v i wr => ∃ j : Nat, j ≤ now.length ∧ i = .int .i64 j ∧ wr.ownsRow W.heap.size 9 1 v (impl_FirstWords.cat k a977_0 x.1.2 (now.take j)).length ((impl_FirstWords.cat k a977_0 x.1.2 (now.take j)).map Value.string) ∧ v ≠ .slice none 0 0 ∧ Below W.heap.size W wr) (fun _ i _ => now.length - (intOf i).toNat)
        case atStart =>
          refine ⟨0, Nat.zero_le _, rfl, ?_, by simp, (Below.refl _ _).alloc (Nat.le_refl _) _⟩
          exact (H.RowS.own (g := W.heap.size) (cap := 0) (d := []) ⟨#[], heap_alloc_new W _, rfl, Nat.le_refl _, by decide, rfl⟩ (Nat.le_refl _))
        case round =>
          obtain ⟨j, hj, rfl, hown, hne, hbw⟩ := hrel
          by_cases hlt2 : j < now.length
          · have hcs := (h6.below hbw).cell j hlt2
            have qx := (hbw.block Bx hBl).trans q2
            have qx0 : wr.cell? ⟨Bx, 0, none⟩ = some (.int .i8 x.1.2.f0) := by simp only [World.cell?, qx]; rfl
            have qx1 : wr.cell? ⟨Bx, 1, none⟩ = some (.int .u8 x.1.2.f1) := by simp only [World.cell?, qx]; rfl
            have qx2 : wr.cell? ⟨Bx, 2, none⟩ = some (.int .u8 x.1.2.f2) := by simp only [World.cell?, qx]; rfl
            obtain ⟨r, e1, e2, e3⟩ := hT.2.2 x.1.2 hxm now[j] (h2 _ (List.getElem_mem hlt2))
            have hp := impl_Habit_pasts.calls2 k x.1.2.f0 x.1.2.f1 x.1.2.f2 now[j] a977_0 r wr ((hbw.block 0 h0l).trans hg0) e1
            have hcn := cat_next j hlt2 e1
            have hcl := cat_len hT.2 hxm (now.take j) (fun s hs => h2 s (List.mem_of_mem_take hs))
            have htl : (now.take j).length = j := by rw [List.length_take]; omega
            rw [htl] at hcl
            have hcl2 : j * 5000 ≤ 300 * 5000 := Nat.mul_le_mul_right _ (by omega)
            generalize impl_FirstWords.cat k a977_0 x.1.2 (now.take j) = acc at *
            generalize now[j] = s at *
            have hbs : W.heap.size ≤ wr.heap.size := hbw.size
            gi_wp2_with (first
              | (refine ⟨trivial, ?_⟩; gi_at_call 45; refine (CallsIn.inRound l (callsIn_wide.2 hp)).mono ?_; rintro e w3 ⟨g2, cap2, rfl, hg2, hr2, hb3⟩; have hown3 := own_keep hown hb3; have hb3' := hbw.trans (hb3.mono hbs))
              | (gi_at_builtin; refine wpListIn_append_own _ rfl _ _ 29 rfl W.heap.size 9 i0 (.string ⟨#[]⟩) 1 16 Tryz.underlying29 hi hz0 hz1 hz2 rfl (by decide) _ _ _ rfl hown3 ⟨g2, 0, none⟩ r.length cap2 (r.map Value.string) rfl (by simp) (rowS_cells hr2) (one_strings r) (by simp only [maxLen]; omega) (by omega) (Nat.le_trans hbs hb3.size) ?_; intro v' w4 hown4 hgrow hnil; have hb4 := hb3'.grown hgrow (Nat.le_trans hbs hb3.size) (own_ge hown3)))
            go_roundw
            case rel => exact ⟨j + 1, by omega, by simp, by rw [hcn]; simpa using hown4, fun e_ => hne (hnil.1 e_).1, hb4⟩
            case measure => simp [intOf]; omega
          · obtain rfl : j = now.length := by omega
            rw [List.take_length] at hown
            rcases hown.2 with ⟨e0, _⟩ | ⟨gn, cn, cur, hv, hgn, hgc, hrest⟩
            · exact absurd e0 hne
            subst hv
            have hrn := (H.RowS.of_own hown).2.2
            clear hgc hrest
            have hcl := cat_len hT.2 hxm now h2
            have hcl2 : now.length * 5000 ≤ 300 * 5000 := Nat.mul_le_mul_right _ h3
            have hso := H.sort_row hbw hgn hrn (by omega)
            have hgood := impl_FirstWords.step_good hT.2 hxm now h2
            have hfold : ∀ rest, impl_FirstWords.fold k a977_0 (fwV (pre ++ [x]) ++ rest) [a1] = if 300 < (impl_FirstWords.step k a977_0 x.1.2 now).length then ([], 3) else impl_FirstWords.fold k a977_0 rest (impl_FirstWords.step k a977_0 x.1.2 now) := by
              intro rest
              rw [fwV_snoc, List.append_assoc, h1]
              rfl
            gi_wp2_with (first
              | (refine ⟨trivial, ?_⟩; gi_at_call 49; refine (CallsIn.inRound l (callsIn_wide.2 hso)).mono ?_; rintro e w5 ⟨rfl, hb5, hr5⟩; have hco := H.compact_row hb5 hgn hr5; rw [H.sortB_length] at hco)
              | (refine ⟨trivial, ?_⟩; gi_at_call 50; refine (CallsIn.inRound l (callsIn_wide.2 hco)).mono ?_; rintro e w6 ⟨rfl, hb6, hr6⟩; have hx7 : Boxed w6 (g0 + 1) 29 (.slice (some ⟨g, 0, none⟩) now.length cap) := (hb6.block _ h4.lt).trans h4; have hx7c := hx7.cell; have hx7f := hx7.frozen; have hx4 : Boxed w6 w.heap.size 29 (.slice none 0 0) := (hb6.block _ h7.lt).trans h7; have hx4c := hx4.cell; have hx4f := hx4.frozen; have hx5 : Boxed w6 (w.heap.size + 1) 2 (.int .i64 0) := (hb6.block _ h8.lt).trans h8; have hx5c := hx5.cell; have hx5f := hx5.frozen))
            · rename_i hcmp
              have hgt : 300 < (impl_FirstWords.step k a977_0 x.1.2 now).length := by
                unfold impl_FirstWords.step
                omega
              refine ⟨((keepsFrom_below hb6).trans ((KeepsOthers.setCell _ _ _).from _)).trans (((KeepsOthers.setCell _ _ _).from _).trans ((KeepsOthers.setCell _ _ _).from _)), rfl, fun rest => by rw [hfold rest, if_pos hgt], ((hx4.other hn1 _).set _).other hn5 _, ((hx5.other hn2 _).other hn6 _).set _, ?_⟩
              exact (((h9.trans (hb6.mono h9.size)).setCell (p := ⟨g0 + 1, 0, none⟩) (show w.heap.size ≤ g0 + 1 by omega) _).setCell (p := ⟨w.heap.size, 0, none⟩) (Nat.le_refl _) _).setCell (p := ⟨w.heap.size + 1, 0, none⟩) (by simp) _
            · rename_i hcmp
              have hle : ¬ 300 < (impl_FirstWords.step k a977_0 x.1.2 now).length := by
                unfold impl_FirstWords.step
                omega
              have hb7 : Below w.heap.size W w6 := hb6.mono h9.size
              refine ⟨(keepsFrom_below hb6).trans ((KeepsOthers.setCell _ _ _).from _), ⟨hb7.setCell (p := ⟨g0 + 1, 0, none⟩) (show w.heap.size ≤ g0 + 1 by omega) _, ?_⟩, impl_FirstWords.step k a977_0 x.1.2 now, gn, cn, fun rest => by rw [hfold rest, if_neg hle], hgood, by omega, hx7.set _, by have := h9.size; omega, rowS_far hr6 (by omega) _, hx4.other hn1 _, hx5.other hn2 _, (h9.trans hb7).setCell (p := ⟨g0 + 1, 0, none⟩) (show w.heap.size ≤ g0 + 1 by omega) _, ?_⟩
              · exact (Below.heap_setCell w6 ⟨g0 + 1, 0, none⟩ _ (g0 + 1 + 1) (by simp)).trans (hb6.block _ h10)
              · have := hb6.size
                simp
                omega
      case done =>
        rintro D xs W hD hS ⟨now, g, cap, h1, h2, h3', h4, h5, h6, h7, h8, h9, h10⟩ hK
        have hbox := h4.cell
        have h7c := h7.cell
        have h7f := h7.frozen
        have h8c := h8.cell
        have h8f := h8.frozen
        have hfin := h1 []
        rw [hS, List.append_nil, h3] at hfin
        obtain ⟨e1, e2⟩ := Prod.mk.inj hfin
        subst e1; subst e2
        simp only [Exit.inBlock, Exit.then]
        refine hKx _ _ ?_
        go_wp2
        have hk0 := (KeepsOthers.setCell W ⟨w.heap.size, 0, none⟩ (.slice (some ⟨g, 0, none⟩) r1.length cap)).same D _ hK rfl
        have hk1 := (KeepsOthers.setCell _ ⟨w.heap.size + 1, 0, none⟩ (.int .i64 0)).same D _ hk0 rfl
        refine ⟨by simp, .inl ⟨_, _, rfl, run_takeDeferred hk1, ?_⟩⟩
        have hx4' := (boxed_put (((h7.set (.slice (some ⟨g, 0, none⟩) r1.length cap)).other hn5 (.int .i64 0))) hk1 rfl (.deferred none)).cell
        have hx5' := (boxed_put ((h8.other hn6 (.slice (some ⟨g, 0, none⟩) r1.length cap)).set (.int .i64 0)) hk1 rfl (.deferred none)).cell
        have hg4 : g ≠ w.heap.size := by
          intro e
          obtain ⟨cur, e1, _⟩ := h6
          rw [e, show W.heap[w.heap.size]? = _ from h7] at e1
          cases e1
        have hg5 : g ≠ w.heap.size + 1 := by
          intro e
          obtain ⟨cur, e1, _⟩ := h6
          rw [e, show W.heap[w.heap.size + 1]? = _ from h8] at e1
          cases e1
        refine ⟨.tuple #[.slice (some ⟨g, 0, none⟩) r1.length cap, .int .i64 0], ?_, _, rfl, H.R_of_rowS (rowS_put (rowS_far (rowS_far h6 hg4 _) hg5 _) hk1 rfl _) h5, ?_⟩
        · simp [results, Tryz.f24, go_sem, hx4', hx5']
        · exact ((h9.setCell (p := ⟨w.heap.size, 0, none⟩) (Nat.le_refl _) _).setCell (p := ⟨w.heap.size + 1, 0, none⟩) (by simp) _).trans (belowK_b (w := w) (Nat.le_refl _) _ D _ _ (by omega) hk1 rfl rfl)
      case stop =>
        rintro D c' pre W hD ⟨tl, hpre⟩ ⟨rfl, hf, hx4, hx5, hB⟩ hK
        have hfin := hf tl
        rw [hpre, h3] at hfin
        obtain ⟨e1, e2⟩ := Prod.mk.inj hfin
        subst e1; subst e2
        gi_wp2
        refine ⟨by simp, .inl ⟨_, _, rfl, run_takeDeferred hK, ?_⟩⟩
        have hx4' := (boxed_put hx4 hK rfl (.deferred none)).cell
        have hx5' := (boxed_put hx5 hK rfl (.deferred none)).cell
        refine ⟨.tuple #[.slice none 0 0, .int .i64 3], ?_, _, rfl, Kd.R_nil _ _ _ _ _, hB.trans (belowK_b (w := w) (Nat.le_refl _) W D _ _ (by omega) hK rfl rfl)⟩
        simp [results, Tryz.f24, go_sem, hx4', hx5']
    · rw [if_neg hT] at h2; cases h2

end Go.Proofs.YtobickehjnogjaaGreatDoor.P
