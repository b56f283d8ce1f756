-- Printed by wip/print (my turned copy of the kit's print) out of the translation; Lean checks it.
import Derived.Test.YtobickehjnogjaaGreatDoorP0
import Derived.Test.YtobickehjnogjaaGreatDoorP5
import Derived.Test.YtobickehjnogjaaGreatDoorP6
namespace Go.Proofs.YtobickehjnogjaaGreatDoor.P
open Go.RowKit Go.Proofs.YtobickehjnogjaaGreatDoorW.PrintWords Go.Proofs.YtobickehjnogjaaGreatDoorW.PrintLast Go.Proofs.YtobickehjnogjaaGreatDoorW.PrintMore
attribute [local go_sem] max2_int min2_int max_two min_two max_three min_three max_four min_four   -- for this text's walks alone
set_option linter.unusedVariables false
set_option linter.unusedSimpArgs false

/-! ### spec_RoundUntil: function 27 -/
mutual
def spec_RoundUntil.l0 : Nat → List (S40) → ByteArray → List ByteArray → Int → Option (Int × Int × Int)
  | 0, _, _, _, _ => none
  | k + 1, x0, x1, x8, x9 => (spec_l04Pass.f k x0 x1).bind fun t467 => (spec_RoundUntil.l1 k x0 t467 x8 x9 0)
def spec_RoundUntil.l1 : Nat → List (S40) → ByteArray → List ByteArray → Int → Int → Option (Int × Int × Int)
  | 0, _, _, _, _, _ => none
  | k + 1, x0, x1, x8, x9, x10 => if x10 < (x8.length : Int) then (if 0 ≤ x10 then (if (rdOf ByteArray.empty x8 x10).toList = x1.toList then (some (x9, wrap64 (x9 - x10), 0)) else (spec_RoundUntil.l1 k x0 x1 x8 x9 (wrap64 (x10 + 1)))) else (none)) else (if x8.length < 8796093022208 then (spec_RoundUntil.l0 k x0 x1 (x8 ++ [x1]) (wrap64 (x9 + 1))) else (none))
end
def spec_RoundUntil.f (k : Nat) (l0 : List (S40)) (a1 : ByteArray) : Option (Int × Int × Int) := (spec_l04Asked.f k l0 (([a1] : List ByteArray))).bind fun t463 => (if t463 = 0 then (spec_RoundUntil.l0 k l0 a1 (([a1] : List ByteArray)) 1) else (some (0, 0, t463)))
set_option maxHeartbeats 8000000 in
set_option maxRecDepth 100000 in
theorem spec_RoundUntil.calls (k : Nat) (A0 : Option Addr) (c0 : Nat) (l0 : List (S40)) (a1 : ByteArray) (r1 : Int) (r2 : Int) (r3 : Int) (w : World) (hr0 : Kd.C k40 w A0 l0.length l0) (hc0 : l0.length ≤ c0) (h : spec_RoundUntil.f k l0 a1 = some (r1, r2, r3)) :
    Calls Tryz.prog 27 #[.slice A0 l0.length c0, .string a1] w fun e w' => e = .returned (.tuple #[.int .i64 r1, .int .i64 r2, .int .i64 r3]) ∧ Below w.heap.size w w' := by
 have HR0 := ak hr0
 have HC0 := ak hc0
 clear hr0 hc0
 have HB := ak (Below.refl w.heap.size w)
 have H := h
 unfold spec_RoundUntil.f at H
 clear h
 obtain ⟨y460, hy460⟩ : ∃ y_ : List ByteArray, y_ = (([a1] : List ByteArray)) := ⟨_, rfl⟩
 replace H : ((spec_l04Asked.f k l0 y460).bind fun t463 => (if t463 = 0 then (spec_RoundUntil.l0 k l0 a1 (([a1] : List ByteArray)) 1) else (some (0, 0, t463)))) = some (r1, r2, r3) := by first | (rw [hy460]; with_reducible exact H) | (have H2_ := (Option.bind_some _ _).symm.trans H; rw [hy460]; with_reducible exact H2_) | (have H2_ := (Option.bind_some _ _).symm.trans H; with_reducible exact H2_) | with_reducible exact H | (rw [hy460]; exact H) | exact H
 have Ny460 := ak hy460
 clear hy460
 replace H := Option.bind_eq_some_iff.mp H
 obtain ⟨t463, A30, H⟩ := H
 have A3 := ak A30
 clear A30
 by_cases c4 : t463 = 0
 {
 rw [if_pos c4] at H
 have c4b0 : (t463 == 0) = true := beq_iff_eq.mpr c4
 have c4b1 : (t463 != 0) = false := bne_eq_false_iff_eq.mpr c4
 clear c4
 obtain ⟨y464, hy464⟩ : ∃ y_ : List ByteArray, y_ = (([a1] : List ByteArray)) := ⟨_, rfl⟩
 replace H : (spec_RoundUntil.l0 k l0 a1 y464 1) = some (r1, r2, r3) := by first | (rw [hy464]; with_reducible exact H) | (have H2_ := (Option.bind_some _ _).symm.trans H; rw [hy464]; with_reducible exact H2_) | (have H2_ := (Option.bind_some _ _).symm.trans H; with_reducible exact H2_) | with_reducible exact H | (rw [hy464]; exact H) | exact H
 have Ny464 := ak hy464
 clear hy464
 have H' := ak H
 clear H
 go_enter Tryz.func27, Tryz.ntmps27
 go_wp2_with (first | ((with_reducible refine gate_dst (N := 13) rfl ?_); refine Kd.R_lit Kd.string _ 9 ?hg (N := 13) ?hd (xs := ([a1] : List ByteArray)) (inner := [.string a1]) (ok := fun _ => True) (okp := fun _ => True) ?hr ?hp (fun _ hk => hk) trivial (Below.refl _ _) (Nat.le_refl _) (by simp) ?_; (case hd => rfl); (case hg => rfl); (case hr => first | (go_simp; done) | (go_simp; rfl)); (case hp => exact (Reps.one (show Kd.M Kd.string _ _ _ a1 [.string a1] from rfl) (Reps.none _ _))); intro v461 w5 ho6 hb hg_ hnew_; clear hg_ hnew_; (first | rw [← Ny460.out] at ho6 | (simp only [Int.reduceToNat] at ho6; rw [← Ny460.out] at ho6)); have HO462 := ak (Kd.R_lower ho6 (below_size (zB HB.out))); replace HB := kB HB hb; clear hb ho6; obtain ⟨Ao7, co7, eo7⟩ := Kd.R_slice HO462.out; subst eo7) | ((with_reducible refine gate_callee (f := 34) rfl ?_); refine goesL_ (some 14) rfl rfl Tryz.func34 (by kernel_rfl) rfl #[.slice A0 l0.length c0, .slice Ao7 y460.length co7] rfl gl_ ?_; (with_reducible refine (spec_l04Asked.calls k _ _ l0 _ _ y460 t463 _ ?side1 ?side2 ?side3 ?side4 A3.out).mono ?_); (case side1 => exact sQ (Kd.C_below HR0.out HB.out)); (case side2 => exact HC0.out); (case side3 => exact sC HO462); (case side4 => exact sL HO462); rintro e w8 ⟨rfl, hb⟩; refine ⟨_, rfl, ?_⟩; replace HO462 := kR HO462 hb; replace HB := kB HB hb; (try clear hb)) | ((with_reducible refine gate_dst (N := 19) rfl ?_); refine Kd.R_lit Kd.string _ 9 ?hg (N := 19) ?hd (xs := ([a1] : List ByteArray)) (inner := [.string a1]) (ok := fun _ => True) (okp := fun _ => True) ?hr ?hp (fun _ hk => hk) trivial (Below.refl _ _) (Nat.le_refl _) (by simp) ?_; (case hd => rfl); (case hg => rfl); (case hr => first | (go_simp; done) | (go_simp; rfl)); (case hp => exact (Reps.one (show Kd.M Kd.string _ _ _ a1 [.string a1] from rfl) (Reps.none _ _))); intro v465 w9 ho10 hb hg_ hnew_; clear hg_ hnew_; (first | rw [← Ny464.out] at ho10 | (simp only [Int.reduceToNat] at ho10; rw [← Ny464.out] at ho10)); have HO466 := ak (Kd.R_lower (Kd.R_new' ho10 (Kd.R_lt (zR HO462.out))) (below_size (zB HB.out))); replace HO462 := kE HO462 ho10 hb; replace HB := kB HB hb; clear hb ho10))
 go_loopg [1, 8, 9] k (fun kq v1 v8 v9 w' => ∃ (x1_1 : ByteArray) (x8_1 : List ByteArray) (x9_1 : Int), v1 = .string x1_1 ∧ v9 = .int .i64 x9_1 ∧ Aside0 (spec_RoundUntil.l0 kq l0 x1_1 x8_1 x9_1 = some (r1, r2, r3)) ∧ Aside0 (kq ≤ k) ∧ Aside0 (Kd.R Kd.string 9 w' w.heap.size (fun _ => True) v8 x8_1) ∧ Aside0 (Below w.heap.size w w'))
 case atStart => exact ⟨(a1), (y464), (1), (by first | rfl | (simp; done) | (simp [*]; done)), (by first | rfl | (simp; done) | (simp [*]; done)), H', ⟨Nat.le_refl _⟩, ⟨by (with_reducible repeat (first | apply Kd.R_alloc | apply Kd.R_drewN | apply Kd.R_drew)); exact Kd.R_mono HO466.out (fun _ hk => trivial)⟩, ⟨zB HB.out⟩⟩
 case round => (
 clear H'
 try clear c4
 try clear c4b0
 try clear c4b1
 obtain ⟨x1_1, x8_1, x9_1, rfl, rfl, HA, HK1, HO_8, HB⟩ := hrel
 cases gk with
 | zero => exact absurd HA.out (by simp [spec_RoundUntil.l0])
 | succ k1 => (
 have H := HA.out
 clear HA
 simp only [spec_RoundUntil.l0] at H
 replace H := Option.bind_eq_some_iff.mp H
 obtain ⟨t467, A110, H⟩ := H
 have A11 := ak A110
 clear A110
 have H' := ak H
 clear H
 go_wp2_with (first | ((with_reducible refine gate_callee (f := 35) rfl ?_); refine goesL_ (some 24) rfl rfl Tryz.func35 (by kernel_rfl) rfl #[.slice A0 l0.length c0, .string x1_1] rfl gl_ ?_; (with_reducible refine (spec_l04Pass.calls k1 _ _ l0 x1_1 t467 _ ?side1 ?side2 A11.out).mono ?_); (case side1 => exact sQ (Kd.C_below HR0.out HB.out)); (case side2 => exact HC0.out); rintro e w12 ⟨rfl, hb⟩; refine ⟨_, rfl, ?_⟩; replace HO_8 := kR HO_8 hb; replace HB := kB HB hb; (try clear hb)))
 go_loopg [10] k1 (fun kq v10 w' => ∃ (x10_2 : Int), v10 = .int .i64 x10_2 ∧ Aside0 (spec_RoundUntil.l1 kq l0 t467 x8_1 x9_1 x10_2 = some (r1, r2, r3)) ∧ Aside0 (kq ≤ k1) ∧ Aside0 (Kd.R Kd.string 9 w' w.heap.size (fun _ => True) u8 x8_1) ∧ Aside0 (Below w.heap.size w w'))
 case atStart => exact ⟨(0), (by first | rfl | (simp; done) | (simp [*]; done)), H', ⟨Nat.le_refl _⟩, ⟨(zR HO_8.out)⟩, ⟨zB HB.out⟩⟩
 case round => (
 clear H'
 try clear c4
 try clear c4b0
 try clear c4b1
 obtain ⟨x10_2, rfl, HA, HK2, HO_8, HB⟩ := hrel
 cases gk with
 | zero => exact absurd HA.out (by simp [spec_RoundUntil.l1])
 | succ k2 => (
 have H := HA.out
 clear HA
 simp only [spec_RoundUntil.l1] at H
 by_cases c13 : x10_2 < (x8_1.length : Int)
 {
 rw [if_pos c13] at H
 have c13b0 : decide (x10_2 < (x8_1.length : Int)) = true := decide_eq_true c13
 clear c13
 by_cases c14 : 0 ≤ x10_2
 {
 rw [if_pos c14] at H
 have c14b0 : decide (0 ≤ x10_2) = true := decide_eq_true c14
 clear c14
 by_cases c15 : (rdOf ByteArray.empty x8_1 x10_2).toList = t467.toList
 {
 rw [if_pos c15] at H
 have c15b0 : ((rdOf ByteArray.empty x8_1 x10_2).toList == t467.toList) = true := beq_iff_eq.mpr c15
 have c15b1 : ((rdOf ByteArray.empty x8_1 x10_2).toList != t467.toList) = false := bne_eq_false_iff_eq.mpr c15
 clear c15
 simp only [Option.some.injEq, Prod.mk.injEq] at H
 obtain ⟨rfl, rfl, rfl⟩ := H
 obtain ⟨Ao16, co16, eo16⟩ := Kd.R_slice HO_8.out
 subst eo16
 have p468 : 0 ≤ (x10_2 : Int) := of_decide_eq_true (by first | (with_reducible assumption) | assumption)
 have q468 : x10_2 < (x8_1.length : Int) := of_decide_eq_true (by first | (with_reducible assumption) | assumption)
 obtain ⟨ad468, e468, hx468_0⟩ := Kd.at_string (Kd.R_reads' HO_8.out).2.2 x10_2 p468 q468
 cases e468
 replace p468 := eq_true p468
 replace q468 := eq_true q468
 go_wp2
 go_ret3
 exact ⟨by first | rfl | (simp [errW_none, errW_some] <;> rfl) | (simp [*, errW_none, errW_some] <;> rfl), zB HB.out⟩
 }
 {
 rw [if_neg c15] at H
 have c15b0 : ((rdOf ByteArray.empty x8_1 x10_2).toList == t467.toList) = false := beq_eq_false_iff_ne.mpr c15
 have c15b1 : ((rdOf ByteArray.empty x8_1 x10_2).toList != t467.toList) = true := bne_iff_ne.mpr c15
 have H' := ak H
 clear H
 obtain ⟨Ao17, co17, eo17⟩ := Kd.R_slice HO_8.out
 subst eo17
 have p468 : 0 ≤ (x10_2 : Int) := of_decide_eq_true (by first | (with_reducible assumption) | assumption)
 have q468 : x10_2 < (x8_1.length : Int) := of_decide_eq_true (by first | (with_reducible assumption) | assumption)
 obtain ⟨ad468, e468, hx468_0⟩ := Kd.at_string (Kd.R_reads' HO_8.out).2.2 x10_2 p468 q468
 cases e468
 replace p468 := eq_true p468
 replace q468 := eq_true q468
 go_wp2
 go_roundg k2
 case measure => have := HK1.out; have := HK2.out; omega
 case rel => exact ⟨(wrap64 (x10_2 + 1)), (by first | rfl | (simp; done) | (simp [*]; done)), H', ⟨by have := HK1.out; have := HK2.out; omega⟩, ⟨(zR HO_8.out)⟩, ⟨zB HB.out⟩⟩
 }
 }
 · rw [if_neg c14] at H; exact absurd H (by simp)
 }
 {
 rw [if_neg c13] at H
 have c13b0 : decide (x10_2 < (x8_1.length : Int)) = false := decide_eq_false c13
 clear c13
 by_cases c18 : x8_1.length < 8796093022208
 {
 rw [if_pos c18] at H
 have LMc18 := ak c18
 clear c18
 obtain ⟨y469, hy469⟩ : ∃ y_ : List ByteArray, y_ = (x8_1 ++ [t467]) := ⟨_, rfl⟩
 replace H : (spec_RoundUntil.l0 k2 l0 t467 y469 (wrap64 (x9_1 + 1))) = some (r1, r2, r3) := by first | (rw [hy469]; with_reducible exact H) | (have H2_ := (Option.bind_some _ _).symm.trans H; rw [hy469]; with_reducible exact H2_) | (have H2_ := (Option.bind_some _ _).symm.trans H; with_reducible exact H2_) | with_reducible exact H | (rw [hy469]; exact H) | exact H
 have Ny469 := ak hy469
 clear hy469
 have H' := ak H
 clear H
 obtain ⟨Ao19, co19, eo19⟩ := Kd.R_slice HO_8.out
 subst eo19
 go_wp2_with (first | ((with_reducible refine gate_builtin (b := .append) (xs := #[.tmp 41, .tmp 43]) rfl ?_); at_builtin; refine Kd.R_append Kd.string (w0 := w) w.heap.size rfl (.tmp 41) (.tmp 43) 29 9 (.string ⟨#[]⟩) 16 rfl Tryz.underlying29 info9 rfl (by decide) (by omega) (.slice Ao19 x8_1.length co19) x8_1 t467 [.string t467] (fun _ => True) (fun _ => False) rfl rfl ?aP (fun _ hk => hk.elim) ?aF ?aO ?aB ?aS ?aL ?_; (case aP => exact rfl); (case aB => exact (zB HB.out)); (case aF => exact (fun _ _ => trivial)); (case aO => exact (zR HO_8.out)); (case aS => exact (below_size (zB HB.out))); (case aL => have := LMc18.out; omega); intro v470 w20 ho hb hg hat; rw [← Ny469.out] at ho; have HO471 := ak (ho); replace HB := ak (hb); clear HO_8 ho hb hg hat))
 go_roundg k2
 case measure => have := HK1.out; have := HK2.out; omega
 case rel => exact ⟨(t467), (y469), (wrap64 (x9_1 + 1)), (by first | rfl | (simp; done) | (simp [*]; done)), (by first | rfl | (simp; done) | (simp [*]; done)), H', ⟨by have := HK1.out; have := HK2.out; omega⟩, ⟨(zR HO471.out)⟩, ⟨zB HB.out⟩⟩
 }
 · rw [if_neg c18] at H; exact absurd H (by simp)
 }
 )
 )
 )
 )
 }
 {
 rw [if_neg c4] at H
 have c4b0 : (t463 == 0) = false := beq_eq_false_iff_ne.mpr c4
 have c4b1 : (t463 != 0) = true := bne_iff_ne.mpr c4
 simp only [Option.some.injEq, Prod.mk.injEq] at H
 obtain ⟨rfl, rfl, rfl⟩ := H
 go_enter Tryz.func27, Tryz.ntmps27
 go_wp2_with (first | ((with_reducible refine gate_dst (N := 13) rfl ?_); refine Kd.R_lit Kd.string _ 9 ?hg (N := 13) ?hd (xs := ([a1] : List ByteArray)) (inner := [.string a1]) (ok := fun _ => True) (okp := fun _ => True) ?hr ?hp (fun _ hk => hk) trivial (Below.refl _ _) (Nat.le_refl _) (by simp) ?_; (case hd => rfl); (case hg => rfl); (case hr => first | (go_simp; done) | (go_simp; rfl)); (case hp => exact (Reps.one (show Kd.M Kd.string _ _ _ a1 [.string a1] from rfl) (Reps.none _ _))); intro v461 w21 ho22 hb hg_ hnew_; clear hg_ hnew_; (first | rw [← Ny460.out] at ho22 | (simp only [Int.reduceToNat] at ho22; rw [← Ny460.out] at ho22)); have HO462 := ak (Kd.R_lower ho22 (below_size (zB HB.out))); replace HB := kB HB hb; clear hb ho22; obtain ⟨Ao23, co23, eo23⟩ := Kd.R_slice HO462.out; subst eo23) | ((with_reducible refine gate_callee (f := 34) rfl ?_); refine goesL_ (some 14) rfl rfl Tryz.func34 (by kernel_rfl) rfl #[.slice A0 l0.length c0, .slice Ao23 y460.length co23] rfl gl_ ?_; (with_reducible refine (spec_l04Asked.calls k _ _ l0 _ _ y460 t463 _ ?side1 ?side2 ?side3 ?side4 A3.out).mono ?_); (case side1 => exact sQ (Kd.C_below HR0.out HB.out)); (case side2 => exact HC0.out); (case side3 => exact sC HO462); (case side4 => exact sL HO462); rintro e w24 ⟨rfl, hb⟩; refine ⟨_, rfl, ?_⟩; replace HO462 := kR HO462 hb; replace HB := kB HB hb; (try clear hb)))
 go_ret3
 exact ⟨by first | rfl | (simp [errW_none, errW_some] <;> rfl) | (simp [*, errW_none, errW_some] <;> rfl), zB HB.out⟩
 }
end Go.Proofs.YtobickehjnogjaaGreatDoor.P
