-- Printed by wip/print (my turned copy of the kit's print) out of the translation; Lean checks it.
import Derived.Test.YtelgmojnndbgmaaRows
import Derived.Test.YtelgmojnndbgmaaP20
import Derived.Test.YtelgmojnndbgmaaRd
import Derived.Test.YtelgmojnndbgmaaPureFnExactHabitText
import Derived.WalkKit
import Derived.ProofKit
import Derived.OpenShut
import Derived.ShutString
import Derived.ChangeOld
import Derived.Below
import Derived.SizedLaws
import Derived.Lib.SmallJoins
namespace Go.Proofs.Ytelgmojnndbgmaa.fnExactHabitText
open Go.ChangeShapes Go.WideShapes Go.ChangeAt Go.RowKit Go.Joins Go.Proofs.Ytelgmojnndbgmaa.P Go.Proofs.YtelgmojnndbgmaaW.PrintWords
open Go.ChangeMaps (open_string shut_string)
theorem own : ownKnob Try.prog.godebug = none := by kernel_rfl
theorem laidOut : laidOutB Try.prog = true := by kernel_rfl
set_option maxRecDepth 100000 in
theorem lifted (os : Os) (started : os.Started) (H : Type) (enc : TypeId × Value → H) :
    ReturnsInHanded {} Try.checked os 3 .any (Rows.fnExactHabitTextSpec.pre6 enc Try.prog Try.f3 Rows.fnExactHabitTextRow.domain false) (Rows.fnExactHabitTextSpec.post enc Try.prog Try.f3 false true false false) := by
  refine returnsInHanded_of_change_sized (C := Try.checked) own started (by kernel_rfl) Try.func3
    (ChangeSpec.witness6 (enc := enc) (C := Try.checked) false ⟨#[], #[.agg #[.int .i8 0, .int .u8 0, .int .u8 0]], []⟩ 8 (by kernel_rfl) (by kernel_rfl) (by kernel_rfl) (by kernel_rfl)) ?_
  intro W base args ds gs before hval0 hW hcnd hsz0 _
  have hval : ∀ (j : Nat) t v, Try.f3.params[j]? = some t → args[j]? = some v → Value.okWide Try.prog W .any base t v := hval0
  have hW' := hW
  obtain ⟨p, q, hA0, hV, rfl, hfz, hnd⟩ := hW
  have hA : DataW.TrodAll enc Try.prog W 0 (fun _ => true) true Try.f3.params.toList args.toList ds p := hA0
  rw [Try.params3] at hA hval
  obtain ⟨v0, vs0, d0, ds0, p0, q0, hargs, rfl, rfl, h0, r0⟩ := trodAll_cons hA
  obtain ⟨rfl, rfl, rfl⟩ := trodAll_nil r0
  obtain rfl : args = #[v0] := by cases args; simp_all
  obtain ⟨rfl, rfl⟩ := trodVars_none hV
  have k0 := h0
  have lt0 : ∀ x ∈ p0, x.block < W.heap.size := by obtain ⟨m, hm⟩ := k0; exact DataW.trod_lt m _ _ _ hm
  obtain ⟨u0_0, u0_1, u0_2, y0_0, y0_1, y0_2, n0, rfl, rfl, rfl, h0_0, h0_1, h0_2⟩ := open_agg3 Try.underlying24 (by kernel_rfl) (by kernel_rfl) (hval 0 24 v0 rfl rfl) h0
  obtain ⟨a0_0, e0_0, w0_0⟩ := (Rd.int Try.underlying22) h0_0
  injection e0_0 with e0_0
  subst e0_0
  obtain ⟨a0_1, e0_1, w0_1⟩ := (Rd.int Try.underlying5) h0_1
  injection e0_1 with e0_1
  subst e0_1
  obtain ⟨a0_2, e0_2, w0_2⟩ := (Rd.int Try.underlying5) h0_2
  injection e0_2 with e0_2
  subst e0_2
  clear hA0 hval0 hsz0
  obtain ⟨k, h⟩ := Pure.FnExactHabitText a0_0 a0_1 a0_2 w0_0 w0_1 w0_2
  refine (laws_FnExactHabitText.calls k a0_0 a0_1 a0_2 true W  rfl h).mono fun e W' he => ?_
  obtain ⟨he, bel0⟩ := he
  have bel : Below W.heap.size W W' := bel0
  subst he
  exact ⟨_, rfl, _, _, _, [], _, [], hW', trodAll_mk1 (shut_bool Try.underlying4 _), (trodAll_cons_mk (Below.trod laidOut (by kernel_rfl) (of_decide_eq_true (by kernel_rfl)) k0 bel lt0) trodAll_mk0), rfl, bel.frame _, fun h => by cases h⟩
theorem over : Rows.fnExactHabitTextRow.holds Try.pinned (OpenSpec.ofChange Rows.fnExactHabitTextSpec) :=
  OpenClaim.holds_of_wide 3 Try.f3 rfl rfl rfl rfl rfl rfl rfl ⟨rfl, rfl, rfl, rfl, rfl⟩ rfl rfl rfl rfl rfl (by kernel_rfl) Try.func3 (by kernel_rfl)
    (of_decide_eq_true (by kernel_rfl)) (by unfold Func.isWrapper; first | (rw [if_pos (by decide +kernel)]; kernel_rfl) | (rw [if_neg (by decide +kernel)]; exact ⟨rfl, rfl⟩))
    (fun os started H enc _ => lifted os started H enc)
theorem proved : Rows.FnExactHabitTextSaid := over
#print axioms proved
end Go.Proofs.Ytelgmojnndbgmaa.fnExactHabitText
namespace Go.Proofs.Ytelgmojnndbgmaa
/-- The row, under a short name, for the claim. -/
theorem fnExactHabitText_holds : Rows.FnExactHabitTextSaid := fnExactHabitText.proved
end Go.Proofs.Ytelgmojnndbgmaa
