-- Printed by wip/print (my turned copy of the kit's print) out of the translation; Lean checks it.
import Derived.Test.YtfmjfnnkkoekbaaRows
import Derived.Test.YtfmjfnnkkoekbaaP48
import Derived.Test.YtfmjfnnkkoekbaaRd
import Derived.Test.YtfmjfnnkkoekbaaPureFnExactRepairCounts
import Derived.WalkKit
import Derived.ProofKit
import Derived.OpenShut
import Derived.ShutString
import Derived.ChangeOld
import Derived.Below
import Derived.SizedLaws
import Derived.Lib.SmallJoins
namespace Go.Proofs.Ytfmjfnnkkoekbaa.fnExactRepairCounts
open Go.ChangeShapes Go.WideShapes Go.ChangeAt Go.RowKit Go.Joins Go.Proofs.Ytfmjfnnkkoekbaa.P Go.Proofs.YtfmjfnnkkoekbaaW.PrintWords
open Go.ChangeMaps (open_string shut_string)
theorem own : ownKnob Try.prog.godebug = none := by kernel_rfl
theorem laidOut : laidOutB Try.prog = true := by kernel_rfl
set_option maxRecDepth 100000 in
theorem lifted (os : Os) (started : os.Started) (H : Type) (enc : TypeId × Value → H) :
    ReturnsInHanded {} Try.checked os 6 .any (Rows.fnExactRepairCountsSpec.pre6 enc Try.prog Try.f6 Rows.fnExactRepairCountsRow.domain false) (Rows.fnExactRepairCountsSpec.post enc Try.prog Try.f6 false true false false) := by
  refine returnsInHanded_of_change_sized (C := Try.checked) own started (by kernel_rfl) Try.func6
    (ChangeSpec.witness6 (enc := enc) (C := Try.checked) false ⟨#[], #[.agg #[.int .i64 0, .slice none 0 0, .slice none 0 0]], []⟩ 8 (by kernel_rfl) (by kernel_rfl) (by kernel_rfl) (by kernel_rfl)) ?_
  intro W base args ds gs before hval0 hW hcnd hsz0 _
  have hval : ∀ (j : Nat) t v, Try.f6.params[j]? = some t → args[j]? = some v → Value.okWide Try.prog W .any base t v := hval0
  have hW' := hW
  obtain ⟨p, q, hA0, hV, rfl, hfz, hnd⟩ := hW
  have hA : DataW.TrodAll enc Try.prog W 0 (fun _ => true) true Try.f6.params.toList args.toList ds p := hA0
  rw [Try.params6] at hA hval
  obtain ⟨v0, vs0, d0, ds0, p0, q0, hargs, rfl, rfl, h0, r0⟩ := trodAll_cons hA
  obtain ⟨rfl, rfl, rfl⟩ := trodAll_nil r0
  obtain rfl : args = #[v0] := by cases args; simp_all
  obtain ⟨rfl, rfl⟩ := trodVars_none hV
  have k0 := h0
  have lt0 : ∀ x ∈ p0, x.block < W.heap.size := by obtain ⟨m, hm⟩ := k0; exact DataW.trod_lt m _ _ _ hm
  obtain ⟨u0_0, u0_1, u0_2, y0_0, y0_1, y0_2, n0, rfl, rfl, rfl, h0_0, h0_1, h0_2⟩ := open_agg3 Try.underlying25 (by kernel_rfl) (by kernel_rfl) (hval 0 25 v0 rfl rfl) h0
  obtain ⟨a0_0, e0_0, w0_0⟩ := (Rd.int Try.underlying2) h0_0
  injection e0_0 with e0_0
  subst e0_0
  obtain ⟨l0_1, K0_1, w0_1⟩ := (Rd.slice Try.underlying22 (by kernel_rfl) (Rd.int Try.underlying38)) h0_1
  obtain ⟨A0_1, c0_1, e0_1, hc0_1, hr0_1⟩ := K0_1
  injection e0_1 with e0_1
  subst e0_1
  obtain ⟨l0_2, K0_2, w0_2⟩ := (Rd.slice Try.underlying23 (by kernel_rfl) (Rd.int Try.underlying71)) h0_2
  obtain ⟨A0_2, c0_2, e0_2, hc0_2, hr0_2⟩ := K0_2
  injection e0_2 with e0_2
  subst e0_2
  clear hA0 hval0 hsz0
  obtain ⟨k, h⟩ := Pure.FnExactRepairCounts a0_0 l0_1 l0_2 w0_0 w0_1 w0_2
  refine (laws_FnExactRepairCounts.calls k a0_0 _ _ l0_1 _ _ l0_2 true W hr0_1 hc0_1 hr0_2 hc0_2 rfl h).mono fun e W' he => ?_
  obtain ⟨he, bel0⟩ := he
  have bel : Below W.heap.size W W' := bel0
  subst he
  exact ⟨_, rfl, _, _, _, [], _, [], hW', trodAll_mk1 (shut_bool Try.underlying4 _), (trodAll_cons_mk (Below.trod laidOut (by kernel_rfl) (of_decide_eq_true (by kernel_rfl)) k0 bel lt0) trodAll_mk0), rfl, bel.frame _, fun h => by cases h⟩
theorem over : Rows.fnExactRepairCountsRow.holds Try.pinned (OpenSpec.ofChange Rows.fnExactRepairCountsSpec) :=
  OpenClaim.holds_of_wide 6 Try.f6 rfl rfl rfl rfl rfl rfl rfl ⟨rfl, rfl, rfl, rfl, rfl⟩ rfl rfl rfl rfl rfl (by kernel_rfl) Try.func6 (by kernel_rfl)
    (of_decide_eq_true (by kernel_rfl)) (by unfold Func.isWrapper; first | (rw [if_pos (by decide +kernel)]; kernel_rfl) | (rw [if_neg (by decide +kernel)]; exact ⟨rfl, rfl⟩))
    (fun os started H enc _ => lifted os started H enc)
theorem proved : Rows.FnExactRepairCountsSaid := over
#print axioms proved
end Go.Proofs.Ytfmjfnnkkoekbaa.fnExactRepairCounts
namespace Go.Proofs.Ytfmjfnnkkoekbaa
/-- The row, under a short name, for the claim. -/
theorem fnExactRepairCounts_holds : Rows.FnExactRepairCountsSaid := fnExactRepairCounts.proved
end Go.Proofs.Ytfmjfnnkkoekbaa
