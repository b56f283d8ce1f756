-- Printed by wip/print (my turned copy of the kit's print) out of the translation; Lean checks it.
import Derived.Test.YtlggjfhoecaelaaGreatDoorP0
namespace Go.Proofs.YtlggjfhoecaelaaGreatDoor.P
open Go.RowKit Go.Proofs.YtlggjfhoecaelaaGreatDoorW.PrintWords Go.Proofs.YtlggjfhoecaelaaGreatDoorW.PrintLast Go.Proofs.YtlggjfhoecaelaaGreatDoorW.PrintMore
attribute [local go_sem] max2_int min2_int max_two min_two max_three min_three max_four min_four   -- for this text's walks alone
set_option linter.unusedVariables false
set_option linter.unusedSimpArgs false

/-! ### slices_Clone_Sint16_int16: function 47 -/
def slices_Clone_Sint16_int16.f (l0 : List Int) : Option (List Int) := (some (([] : List Int) : List Int)).bind fun AA => (if AA.length + l0.length < 70368744177664 then (some (AA ++ l0)) else (none))
set_option maxHeartbeats 8000000 in
set_option maxRecDepth 100000 in
theorem slices_Clone_Sint16_int16.calls (A0 : Option Addr) (c0 : Nat) (l0 : List Int) (r : List Int) (w : World) (AO : Kd.C (Kd.int .i16) w A0 l0.length l0) (AP : l0.length ≤ c0) (h : slices_Clone_Sint16_int16.f l0 = some r) :
    Calls Tryz.prog 47 #[.slice A0 l0.length c0] w fun e w' => ∃ v0_ : Value, e = .returned (v0_) ∧ Kd.R (Kd.int .i16) 24 w' w.heap.size (fun _ => True) v0_ r ∧ Below w.heap.size w w' := by
 rcases A0 with _ | A0
 {
 obtain rfl : l0 = [] := by cases l0 with | nil => rfl | cons x_ xs_ => (obtain ⟨AU, AS, _⟩ := AO.2.2 (Nat.succ_pos _); exact absurd AS (by simp))
 obtain rfl : r = [] := by first | (simp [slices_Clone_Sint16_int16.f] at h; exact h) | (simp [slices_Clone_Sint16_int16.f] at h; exact h.symm) | simpa [slices_Clone_Sint16_int16.f] using h
 have AI : ∀ (w : World) (n c : Nat), (binOp .eql 25 (.slice none n c) (.slice none 0 0)).run Tryz.prog w = .ok (.bool true) w := fun w n c => Go.Lib.run_eql_slice_nil w 25 _ none n c 0 0 Tryz.underlying25
 go_enter Tryz.func47, Tryz.ntmps47
 go_wp2
 go_ret
 exact ⟨_, rfl, Kd.R_nil _ _ _ _ _, Below.refl _ _⟩
 }
 have AI : ∀ (w : World) (n c : Nat), (binOp .eql 25 (.slice (some A0) n c) (.slice none 0 0)).run Tryz.prog w = .ok (.bool false) w := fun w n c => Go.Lib.run_eql_slice_nil w 25 _ (some A0) n c 0 0 Tryz.underlying25
 have AT := ak AO
 have AV := ak AP
 clear AO AP
 have HB := ak (Below.refl w.heap.size w)
 have H := h
 unfold slices_Clone_Sint16_int16.f at H
 clear h
 obtain ⟨AC, AB⟩ : ∃ y_ : List Int, y_ = (([] : List Int)) := ⟨_, rfl⟩
 replace H : (if AC.length + l0.length < 70368744177664 then (some (AC ++ l0)) else (none)) = some r := by first | (rw [AB]; with_reducible exact H) | (have AF := (Option.bind_some _ _).symm.trans H; rw [AB]; with_reducible exact AF) | (have AF := (Option.bind_some _ _).symm.trans H; with_reducible exact AF) | with_reducible exact H | (rw [AB]; exact H) | exact H
 have AD := ak AB
 clear AB
 by_cases c2 : AC.length + l0.length < 70368744177664
 {
 rw [if_pos c2] at H
 have AL := ak c2
 clear c2
 obtain ⟨AM, AA⟩ : ∃ y_ : List Int, y_ = (AC ++ l0) := ⟨_, rfl⟩
 replace H : (some AM) = some r := by first | (rw [AA]; with_reducible exact H) | (have AF := (Option.bind_some _ _).symm.trans H; rw [AA]; with_reducible exact AF) | (have AF := (Option.bind_some _ _).symm.trans H; with_reducible exact AF) | with_reducible exact H | (rw [AA]; exact H) | exact H
 have AH := ak AA
 clear AA
 obtain rfl := Option.some.inj H
 go_enter Tryz.func47, Tryz.ntmps47
 go_wp2_with (first | ((with_reducible refine gate_dst (N := 5) rfl ?_); refine Kd.R_lit (Kd.int .i16) _ 24 ?hg (N := 5) ?hd (xs := ([] : List Int)) (inner := []) (ok := fun _ => True) (okp := fun _ => True) ?hr ?hp (fun _ hk => hk) trivial (Below.refl _ _) (Nat.le_refl _) (by simp) ?_; (case hd => rfl); (case hg => rfl); (case hr => first | (go_simp; done) | (go_simp; rfl)); (case hp => exact (Reps.none _ _)); intro AN w3 AJ hb AQ AG; clear AQ AG; (first | rw [← AD.out] at AJ | (simp only [Int.reduceToNat] at AJ; rw [← AD.out] at AJ)); have AE := ak (Kd.R_lower AJ (below_size (zB HB.out))); replace HB := kB HB hb; clear hb AJ) | ((with_reducible refine gate_builtin (b := .append) (xs := #[.tmp 5, .tmp 6]) rfl ?_); at_builtin; refine Kd.R_append_rows (Kd.int .i16) (w0 := w) w.heap.size rfl (.tmp 5) (.tmp 6) 25 24 (.int .i16 0) 2 rfl Tryz.underlying25 info24 rfl (by decide) (by omega) AN AC l0 _ _ _ (fun _ => True) (fun _ => False) rfl rfl ?aO ?aR (fun _ _ h => h) (fun _ h => h.elim) ?aF ?aB ?aS ?aL ?_; (case aR => repeat (first | exact (Kd.C_below AT.out HB.out) | (with_reducible refine Kd.C_alloc ?_ _) | (with_reducible refine Kd.C_drewN ?_ _) | (with_reducible refine Kd.C_drew ?_))); (case aB => exact (zB HB.out)); (case aF => exact (fun _ _ => trivial)); (case aO => exact (zR AE.out)); (case aS => exact (below_size (zB HB.out))); (case aL => have := AL.out; omega); intro AR w5 ho hb hg hat; rw [← AH.out] at ho; have AK := ak (ho); replace HB := ak (hb); clear AE ho hb hg hat))
 go_ret
 exact ⟨_, rfl, AK.out, zB HB.out⟩
 }
 · rw [if_neg c2] at H; exact absurd H (by simp)
end Go.Proofs.YtlggjfhoecaelaaGreatDoor.P
