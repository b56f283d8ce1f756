-- Printed by wip/print (my turned copy of the kit's print) out of the translation; Lean checks it.
import Derived.Test.YtooidjdgfoioiaaRows
import Derived.Test.YtooidjdgfoioiaaP30
import Derived.Test.YtooidjdgfoioiaaRd
import Derived.Test.YtooidjdgfoioiaaPureFnExactRopeFor
import Derived.WalkKit
import Derived.ProofKit
import Derived.OpenShut
import Derived.ShutString
import Derived.ChangeOld
import Derived.Below
import Derived.SizedLaws
import Derived.Lib.SmallJoins
namespace Go.Proofs.Ytooidjdgfoioiaa.fnExactRopeFor
open Go.ChangeShapes Go.WideShapes Go.ChangeAt Go.RowKit Go.Joins Go.Proofs.Ytooidjdgfoioiaa.P Go.Proofs.YtooidjdgfoioiaaW.PrintWords
open Go.ChangeMaps (open_string shut_string)
theorem own : ownKnob Try.prog.godebug = none := by kernel_rfl
theorem laidOut : laidOutB Try.prog = true := by kernel_rfl
set_option maxRecDepth 100000 in
theorem lifted (os : Os) (started : os.Started) (H : Type) (enc : TypeId × Value → H) :
    ReturnsInHanded {} Try.checked os 3 .any (Rows.fnExactRopeForSpec.pre6 enc Try.prog Try.f3 Rows.fnExactRopeForRow.domain false) (Rows.fnExactRopeForSpec.post enc Try.prog Try.f3 false true false false) := by
  refine returnsInHanded_of_change_sized (C := Try.checked) own started (by kernel_rfl) Try.func3
    (ChangeSpec.witness6 (enc := enc) (C := Try.checked) false ⟨#[], #[.agg #[.int .i8 0, .int .i8 0, .int .u16 0, .int .u16 0, .int .u16 0, .int .u16 0, .int .u16 0, .int .u16 0, .int .u16 0, .int .u16 0, .int .u16 0, .int .u16 0], .slice none 0 0], []⟩ 8 (by kernel_rfl) (by kernel_rfl) (by kernel_rfl) (by kernel_rfl)) ?_
  intro W base args ds gs before hval0 hW hcnd hsz0 _
  have hval : ∀ (j : Nat) t v, Try.f3.params[j]? = some t → args[j]? = some v → Value.okWide Try.prog W .any base t v := hval0
  have hW' := hW
  obtain ⟨p, q, hA0, hV, rfl, hfz, hnd⟩ := hW
  have hA : DataW.TrodAll enc Try.prog W 0 (fun _ => true) true Try.f3.params.toList args.toList ds p := hA0
  rw [Try.params3] at hA hval
  obtain ⟨v0, vs0, d0, ds0, p0, q0, hargs, rfl, rfl, h0, r0⟩ := trodAll_cons hA
  obtain ⟨v1, vs1, d1, ds1, p1, q1, rfl, rfl, rfl, h1, r1⟩ := trodAll_cons r0
  obtain ⟨rfl, rfl, rfl⟩ := trodAll_nil r1
  obtain rfl : args = #[v0, v1] := by cases args; simp_all
  obtain ⟨rfl, rfl⟩ := trodVars_none hV
  have k0 := h0
  have lt0 : ∀ x ∈ p0, x.block < W.heap.size := by obtain ⟨m, hm⟩ := k0; exact DataW.trod_lt m _ _ _ hm
  obtain ⟨cs0, rfl, hz0⟩ := okWide_struct Try.underlying26 (hval 0 26 v0 rfl rfl)
  obtain ⟨fu0, hf0⟩ := h0
  obtain ⟨a0, K0, w0⟩ := rd26 hf0
  have hq0 : cs0.toList = [.int .i8 a0.f0, .int .i8 a0.f1, .int .u16 a0.f2.f0, .int .u16 a0.f2.f1, .int .u16 a0.f2.f2, .int .u16 a0.f2.f3, .int .u16 a0.f2.f4, .int .u16 a0.f2.f5, .int .u16 a0.f2.f6, .int .u16 a0.f2.f7, .int .u16 a0.f2.f8, .int .u16 a0.f2.f9] := k26_open K0
  obtain rfl : cs0 = #[.int .i8 a0.f0, .int .i8 a0.f1, .int .u16 a0.f2.f0, .int .u16 a0.f2.f1, .int .u16 a0.f2.f2, .int .u16 a0.f2.f3, .int .u16 a0.f2.f4, .int .u16 a0.f2.f5, .int .u16 a0.f2.f6, .int .u16 a0.f2.f7, .int .u16 a0.f2.f8, .int .u16 a0.f2.f9] := Array.toList_inj.1 hq0
  have k1 := h1
  have lt1 : ∀ x ∈ p1, x.block < W.heap.size := by obtain ⟨m, hm⟩ := k1; exact DataW.trod_lt m _ _ _ hm
  obtain ⟨x1, len1, cap1, rfl⟩ := okWide_slice Try.underlying27 (hval 1 27 v1 rfl rfl)
  obtain ⟨fu1, hf1⟩ := h1
  have hg1 : DataW.trod enc Try.prog W 0 (fun _ => true) true fu1 27 [.slice x1 len1 cap1] = some (d1, p1) := by simpa [Value.cells] using hf1
  obtain ⟨l1, K1, w1⟩ := (Rd.slice Try.underlying27 (by kernel_rfl) rd82) hg1
  obtain ⟨A1, c1, e1, hc1, hr1⟩ := K1
  injection e1 with e1
  injection e1 with e11 e21 e31
  subst e11
  subst e21
  subst e31
  clear hA0 hval0 hsz0
  obtain ⟨k, h⟩ := Pure.FnExactRopeFor a0.f0 a0.f1 a0.f2.f0 a0.f2.f1 a0.f2.f2 a0.f2.f3 a0.f2.f4 a0.f2.f5 a0.f2.f6 a0.f2.f7 a0.f2.f8 a0.f2.f9 l1 w0.1 w0.2.1 w0.2.2.1 w0.2.2.2.1 w0.2.2.2.2.1 w0.2.2.2.2.2.1 w0.2.2.2.2.2.2.1 w0.2.2.2.2.2.2.2.1 w0.2.2.2.2.2.2.2.2.1 w0.2.2.2.2.2.2.2.2.2.1 w0.2.2.2.2.2.2.2.2.2.2.1 w0.2.2.2.2.2.2.2.2.2.2.2 w1
  refine (laws_FnExactRopeFor.calls k a0.f0 a0.f1 a0.f2.f0 a0.f2.f1 a0.f2.f2 a0.f2.f3 a0.f2.f4 a0.f2.f5 a0.f2.f6 a0.f2.f7 a0.f2.f8 a0.f2.f9 _ _ l1 true W hr1 hc1 rfl h).mono fun e W' he => ?_
  obtain ⟨he, bel0⟩ := he
  have bel : Below W.heap.size W W' := bel0
  subst he
  exact ⟨_, rfl, _, _, _, [], _, [], hW', trodAll_mk1 (shut_bool Try.underlying4 _), (trodAll_cons_mk (Below.trod laidOut (by kernel_rfl) (of_decide_eq_true (by kernel_rfl)) k0 bel lt0) (trodAll_cons_mk (Below.trod laidOut (by kernel_rfl) (of_decide_eq_true (by kernel_rfl)) k1 bel lt1) trodAll_mk0)), rfl, bel.frame _, fun h => by cases h⟩
theorem over : Rows.fnExactRopeForRow.holds Try.pinned (OpenSpec.ofChange Rows.fnExactRopeForSpec) :=
  OpenClaim.holds_of_wide 3 Try.f3 rfl rfl rfl rfl rfl rfl rfl ⟨rfl, rfl, rfl, rfl, rfl⟩ rfl rfl rfl rfl rfl (by kernel_rfl) Try.func3 (by kernel_rfl)
    (of_decide_eq_true (by kernel_rfl)) (by unfold Func.isWrapper; first | (rw [if_pos (by decide +kernel)]; kernel_rfl) | (rw [if_neg (by decide +kernel)]; exact ⟨rfl, rfl⟩))
    (fun os started H enc _ => lifted os started H enc)
theorem proved : Rows.FnExactRopeForSaid := over
#print axioms proved
end Go.Proofs.Ytooidjdgfoioiaa.fnExactRopeFor
namespace Go.Proofs.Ytooidjdgfoioiaa
/-- The row, under a short name, for the claim. -/
theorem fnExactRopeFor_holds : Rows.FnExactRopeForSaid := fnExactRopeFor.proved
end Go.Proofs.Ytooidjdgfoioiaa
