-- Printed by wip/print (my turned copy of the kit's print) out of the translation; Lean checks it.
import Derived.Test.YtadnngaaobgdgaaRows
import Derived.Test.YtadnngaaobgdgaaP12
import Derived.Test.YtadnngaaobgdgaaRd
import Derived.Test.YtadnngaaobgdgaaPureFnExactSwappedBy
import Derived.WalkKit
import Derived.ProofKit
import Derived.OpenShut
import Derived.ShutString
import Derived.ChangeOld
import Derived.Below
import Derived.SizedLaws
import Derived.Lib.SmallJoins
namespace Go.Proofs.Ytadnngaaobgdgaa.fnExactSwappedBy
open Go.ChangeShapes Go.WideShapes Go.ChangeAt Go.RowKit Go.Joins Go.Proofs.Ytadnngaaobgdgaa.P Go.Proofs.YtadnngaaobgdgaaW.PrintWords
open Go.ChangeMaps (open_string shut_string)
theorem own : ownKnob Try.prog.godebug = none := by kernel_rfl
theorem laidOut : laidOutB Try.prog = true := by kernel_rfl
set_option maxRecDepth 100000 in
theorem lifted (os : Os) (started : os.Started) (H : Type) (enc : TypeId × Value → H) :
    ReturnsInHanded {} Try.checked os 4 .any (Rows.fnExactSwappedBySpec.pre6 enc Try.prog Try.f4 Rows.fnExactSwappedByRow.domain false) (Rows.fnExactSwappedBySpec.post enc Try.prog Try.f4 false true false false) := by
  refine returnsInHanded_of_change_sized (C := Try.checked) own started (by kernel_rfl) Try.func4
    (ChangeSpec.witness6 (enc := enc) (C := Try.checked) false ⟨#[], #[.agg #[.int .i16 0, .slice none 0 0], .slice none 0 0, .agg #[.int .i64 0, .int .i64 0]], []⟩ 8 (by kernel_rfl) (by kernel_rfl) (by kernel_rfl) (by kernel_rfl)) ?_
  intro W base args ds gs before hval0 hW hcnd hsz0 _
  have hval : ∀ (j : Nat) t v, Try.f4.params[j]? = some t → args[j]? = some v → Value.okWide Try.prog W .any base t v := hval0
  have hW' := hW
  obtain ⟨p, q, hA0, hV, rfl, hfz, hnd⟩ := hW
  have hA : DataW.TrodAll enc Try.prog W 0 (fun _ => true) true Try.f4.params.toList args.toList ds p := hA0
  rw [Try.params4] at hA hval
  obtain ⟨v0, vs0, d0, ds0, p0, q0, hargs, rfl, rfl, h0, r0⟩ := trodAll_cons hA
  obtain ⟨v1, vs1, d1, ds1, p1, q1, rfl, rfl, rfl, h1, r1⟩ := trodAll_cons r0
  obtain ⟨v2, vs2, d2, ds2, p2, q2, rfl, rfl, rfl, h2, r2⟩ := trodAll_cons r1
  obtain ⟨rfl, rfl, rfl⟩ := trodAll_nil r2
  obtain rfl : args = #[v0, v1, v2] := by cases args; simp_all
  obtain ⟨rfl, rfl⟩ := trodVars_none hV
  have k0 := h0
  have lt0 : ∀ x ∈ p0, x.block < W.heap.size := by obtain ⟨m, hm⟩ := k0; exact DataW.trod_lt m _ _ _ hm
  obtain ⟨u0_0, u0_1, y0_0, y0_1, n0, rfl, rfl, rfl, h0_0, h0_1⟩ := open_agg2 Try.underlying25 (by kernel_rfl) (by kernel_rfl) (hval 0 25 v0 rfl rfl) h0
  obtain ⟨a0_0, e0_0, w0_0⟩ := (Rd.int Try.underlying22) h0_0
  injection e0_0 with e0_0
  subst e0_0
  obtain ⟨l0_1, K0_1, w0_1⟩ := (Rd.slice Try.underlying23 (by kernel_rfl) (Rd.int Try.underlying22)) h0_1
  obtain ⟨A0_1, c0_1, e0_1, hc0_1, hr0_1⟩ := K0_1
  injection e0_1 with e0_1
  subst e0_1
  have k1 := h1
  have lt1 : ∀ x ∈ p1, x.block < W.heap.size := by obtain ⟨m, hm⟩ := k1; exact DataW.trod_lt m _ _ _ hm
  obtain ⟨x1, len1, cap1, rfl⟩ := okWide_slice Try.underlying26 (hval 1 26 v1 rfl rfl)
  obtain ⟨fu1, hf1⟩ := h1
  have hg1 : DataW.trod enc Try.prog W 0 (fun _ => true) true fu1 26 [.slice x1 len1 cap1] = some (d1, p1) := by simpa [Value.cells] using hf1
  obtain ⟨l1, K1, w1⟩ := (Rd.slice Try.underlying26 (by kernel_rfl) rd29) hg1
  obtain ⟨A1, c1, e1, hc1, hr1⟩ := K1
  injection e1 with e1
  injection e1 with e11 e21 e31
  subst e11
  subst e21
  subst e31
  have k2 := h2
  have lt2 : ∀ x ∈ p2, x.block < W.heap.size := by obtain ⟨m, hm⟩ := k2; exact DataW.trod_lt m _ _ _ hm
  obtain ⟨u2_0, u2_1, y2_0, y2_1, n2, rfl, rfl, rfl, h2_0, h2_1⟩ := open_agg2 Try.underlying46 (by kernel_rfl) (by kernel_rfl) (hval 2 46 v2 rfl rfl) h2
  obtain ⟨a2_0, e2_0, w2_0⟩ := (Rd.int Try.underlying2) h2_0
  injection e2_0 with e2_0
  subst e2_0
  obtain ⟨a2_1, e2_1, w2_1⟩ := (Rd.int Try.underlying2) h2_1
  injection e2_1 with e2_1
  subst e2_1
  clear hA0 hval0 hsz0
  obtain ⟨k, h⟩ := Pure.FnExactSwappedBy a0_0 l0_1 l1 a2_0 a2_1 w0_0 w0_1 w1 w2_0 w2_1
  refine (laws_FnExactSwappedBy.calls k a0_0 _ _ l0_1 _ _ l1 a2_0 a2_1 true W hr0_1 hc0_1 hr1 hc1 rfl h).mono fun e W' he => ?_
  obtain ⟨he, bel0⟩ := he
  have bel : Below W.heap.size W W' := bel0
  subst he
  exact ⟨_, rfl, _, _, _, [], _, [], hW', trodAll_mk1 (shut_bool Try.underlying4 _), (trodAll_cons_mk (Below.trod laidOut (by kernel_rfl) (of_decide_eq_true (by kernel_rfl)) k0 bel lt0) (trodAll_cons_mk (Below.trod laidOut (by kernel_rfl) (of_decide_eq_true (by kernel_rfl)) k1 bel lt1) (trodAll_cons_mk (Below.trod laidOut (by kernel_rfl) (of_decide_eq_true (by kernel_rfl)) k2 bel lt2) trodAll_mk0))), rfl, bel.frame _, fun h => by cases h⟩
theorem over : Rows.fnExactSwappedByRow.holds Try.pinned (OpenSpec.ofChange Rows.fnExactSwappedBySpec) :=
  OpenClaim.holds_of_wide 4 Try.f4 rfl rfl rfl rfl rfl rfl rfl ⟨rfl, rfl, rfl, rfl, rfl⟩ rfl rfl rfl rfl rfl (by kernel_rfl) Try.func4 (by kernel_rfl)
    (of_decide_eq_true (by kernel_rfl)) (by unfold Func.isWrapper; first | (rw [if_pos (by decide +kernel)]; kernel_rfl) | (rw [if_neg (by decide +kernel)]; exact ⟨rfl, rfl⟩))
    (fun os started H enc _ => lifted os started H enc)
theorem proved : Rows.FnExactSwappedBySaid := over
#print axioms proved
end Go.Proofs.Ytadnngaaobgdgaa.fnExactSwappedBy
namespace Go.Proofs.Ytadnngaaobgdgaa
/-- The row, under a short name, for the claim. -/
theorem fnExactSwappedBy_holds : Rows.FnExactSwappedBySaid := fnExactSwappedBy.proved
end Go.Proofs.Ytadnngaaobgdgaa
