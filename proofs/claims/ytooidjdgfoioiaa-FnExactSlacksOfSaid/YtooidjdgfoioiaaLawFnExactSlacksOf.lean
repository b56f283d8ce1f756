-- Printed by wip/print (my turned copy of the kit's print) out of the translation; Lean checks it.
import Derived.Test.YtooidjdgfoioiaaRows
import Derived.Test.YtooidjdgfoioiaaP32
import Derived.Test.YtooidjdgfoioiaaRd
import Derived.Test.YtooidjdgfoioiaaPureFnExactSlacksOf
import Derived.WalkKit
import Derived.ProofKit
import Derived.OpenShut
import Derived.ShutString
import Derived.ChangeOld
import Derived.Below
import Derived.SizedLaws
import Derived.Lib.SmallJoins
namespace Go.Proofs.Ytooidjdgfoioiaa.fnExactSlacksOf
open Go.ChangeShapes Go.WideShapes Go.ChangeAt Go.RowKit Go.Joins Go.Proofs.Ytooidjdgfoioiaa.P Go.Proofs.YtooidjdgfoioiaaW.PrintWords
open Go.ChangeMaps (open_string shut_string)
theorem own : ownKnob Try.prog.godebug = none := by kernel_rfl
theorem laidOut : laidOutB Try.prog = true := by kernel_rfl
set_option maxRecDepth 100000 in
theorem lifted (os : Os) (started : os.Started) (H : Type) (enc : TypeId × Value → H) :
    ReturnsInHanded {} Try.checked os 6 .any (Rows.fnExactSlacksOfSpec.pre6 enc Try.prog Try.f6 Rows.fnExactSlacksOfRow.domain false) (Rows.fnExactSlacksOfSpec.post enc Try.prog Try.f6 false true false false) := by
  refine returnsInHanded_of_change_sized (C := Try.checked) own started (by kernel_rfl) Try.func6
    (ChangeSpec.witness6 (enc := enc) (C := Try.checked) false ⟨#[], #[.agg #[.int .i8 0, .int .i8 0, .int .u16 0, .int .u16 0, .int .u16 0, .int .u16 0, .int .u16 0, .int .u16 0, .int .u16 0, .int .u16 0, .int .u16 0, .int .u16 0], .agg #[.int .i16 0, .slice none 0 0], .slice none 0 0, .slice none 0 0], []⟩ 8 (by kernel_rfl) (by kernel_rfl) (by kernel_rfl) (by kernel_rfl)) ?_
  intro W base args ds gs before hval0 hW hcnd hsz0 _
  have hval : ∀ (j : Nat) t v, Try.f6.params[j]? = some t → args[j]? = some v → Value.okWide Try.prog W .any base t v := hval0
  have hW' := hW
  obtain ⟨p, q, hA0, hV, rfl, hfz, hnd⟩ := hW
  have hA : DataW.TrodAll enc Try.prog W 0 (fun _ => true) true Try.f6.params.toList args.toList ds p := hA0
  rw [Try.params6] at hA hval
  obtain ⟨v0, vs0, d0, ds0, p0, q0, hargs, rfl, rfl, h0, r0⟩ := trodAll_cons hA
  obtain ⟨v1, vs1, d1, ds1, p1, q1, rfl, rfl, rfl, h1, r1⟩ := trodAll_cons r0
  obtain ⟨v2, vs2, d2, ds2, p2, q2, rfl, rfl, rfl, h2, r2⟩ := trodAll_cons r1
  obtain ⟨v3, vs3, d3, ds3, p3, q3, rfl, rfl, rfl, h3, r3⟩ := trodAll_cons r2
  obtain ⟨rfl, rfl, rfl⟩ := trodAll_nil r3
  obtain rfl : args = #[v0, v1, v2, v3] := by cases args; simp_all
  obtain ⟨rfl, rfl⟩ := trodVars_none hV
  have k0 := h0
  have lt0 : ∀ x ∈ p0, x.block < W.heap.size := by obtain ⟨m, hm⟩ := k0; exact DataW.trod_lt m _ _ _ hm
  obtain ⟨cs0, rfl, hz0⟩ := okWide_struct Try.underlying26 (hval 0 26 v0 rfl rfl)
  obtain ⟨fu0, hf0⟩ := h0
  obtain ⟨a0, K0, w0⟩ := rd26 hf0
  have hq0 : cs0.toList = [.int .i8 a0.f0, .int .i8 a0.f1, .int .u16 a0.f2.f0, .int .u16 a0.f2.f1, .int .u16 a0.f2.f2, .int .u16 a0.f2.f3, .int .u16 a0.f2.f4, .int .u16 a0.f2.f5, .int .u16 a0.f2.f6, .int .u16 a0.f2.f7, .int .u16 a0.f2.f8, .int .u16 a0.f2.f9] := k26_open K0
  obtain rfl : cs0 = #[.int .i8 a0.f0, .int .i8 a0.f1, .int .u16 a0.f2.f0, .int .u16 a0.f2.f1, .int .u16 a0.f2.f2, .int .u16 a0.f2.f3, .int .u16 a0.f2.f4, .int .u16 a0.f2.f5, .int .u16 a0.f2.f6, .int .u16 a0.f2.f7, .int .u16 a0.f2.f8, .int .u16 a0.f2.f9] := Array.toList_inj.1 hq0
  have k1 := h1
  have lt1 : ∀ x ∈ p1, x.block < W.heap.size := by obtain ⟨m, hm⟩ := k1; exact DataW.trod_lt m _ _ _ hm
  obtain ⟨u1_0, u1_1, y1_0, y1_1, n1, rfl, rfl, rfl, h1_0, h1_1⟩ := open_agg2 Try.underlying44 (by kernel_rfl) (by kernel_rfl) (hval 1 44 v1 rfl rfl) h1
  obtain ⟨a1_0, e1_0, w1_0⟩ := (Rd.int Try.underlying29) h1_0
  injection e1_0 with e1_0
  subst e1_0
  obtain ⟨l1_1, K1_1, w1_1⟩ := (Rd.slice Try.underlying30 (by kernel_rfl) (Rd.int Try.underlying29)) h1_1
  obtain ⟨A1_1, c1_1, e1_1, hc1_1, hr1_1⟩ := K1_1
  injection e1_1 with e1_1
  subst e1_1
  have k2 := h2
  have lt2 : ∀ x ∈ p2, x.block < W.heap.size := by obtain ⟨m, hm⟩ := k2; exact DataW.trod_lt m _ _ _ hm
  obtain ⟨x2, len2, cap2, rfl⟩ := okWide_slice Try.underlying45 (hval 2 45 v2 rfl rfl)
  obtain ⟨fu2, hf2⟩ := h2
  have hg2 : DataW.trod enc Try.prog W 0 (fun _ => true) true fu2 45 [.slice x2 len2 cap2] = some (d2, p2) := by simpa [Value.cells] using hf2
  obtain ⟨l2, K2, w2⟩ := (Rd.slice Try.underlying45 (by kernel_rfl) rd92) hg2
  obtain ⟨A2, c2, e2, hc2, hr2⟩ := K2
  injection e2 with e2
  injection e2 with e12 e22 e32
  subst e12
  subst e22
  subst e32
  have k3 := h3
  have lt3 : ∀ x ∈ p3, x.block < W.heap.size := by obtain ⟨m, hm⟩ := k3; exact DataW.trod_lt m _ _ _ hm
  obtain ⟨x3, len3, cap3, rfl⟩ := okWide_slice Try.underlying27 (hval 3 27 v3 rfl rfl)
  obtain ⟨fu3, hf3⟩ := h3
  have hg3 : DataW.trod enc Try.prog W 0 (fun _ => true) true fu3 27 [.slice x3 len3 cap3] = some (d3, p3) := by simpa [Value.cells] using hf3
  obtain ⟨l3, K3, w3⟩ := (Rd.slice Try.underlying27 (by kernel_rfl) rd82) hg3
  obtain ⟨A3, c3, e3, hc3, hr3⟩ := K3
  injection e3 with e3
  injection e3 with e13 e23 e33
  subst e13
  subst e23
  subst e33
  clear hA0 hval0 hsz0
  obtain ⟨k, h⟩ := Pure.FnExactSlacksOf a0.f0 a0.f1 a0.f2.f0 a0.f2.f1 a0.f2.f2 a0.f2.f3 a0.f2.f4 a0.f2.f5 a0.f2.f6 a0.f2.f7 a0.f2.f8 a0.f2.f9 a1_0 l1_1 l2 l3 w0.1 w0.2.1 w0.2.2.1 w0.2.2.2.1 w0.2.2.2.2.1 w0.2.2.2.2.2.1 w0.2.2.2.2.2.2.1 w0.2.2.2.2.2.2.2.1 w0.2.2.2.2.2.2.2.2.1 w0.2.2.2.2.2.2.2.2.2.1 w0.2.2.2.2.2.2.2.2.2.2.1 w0.2.2.2.2.2.2.2.2.2.2.2 w1_0 w1_1 w2 w3
  refine (laws_FnExactSlacksOf.calls k a0.f0 a0.f1 a0.f2.f0 a0.f2.f1 a0.f2.f2 a0.f2.f3 a0.f2.f4 a0.f2.f5 a0.f2.f6 a0.f2.f7 a0.f2.f8 a0.f2.f9 a1_0 _ _ l1_1 _ _ l2 _ _ l3 true W hr1_1 hc1_1 hr2 hc2 hr3 hc3 rfl h).mono fun e W' he => ?_
  obtain ⟨he, bel0⟩ := he
  have bel : Below W.heap.size W W' := bel0
  subst he
  exact ⟨_, rfl, _, _, _, [], _, [], hW', trodAll_mk1 (shut_bool Try.underlying4 _), (trodAll_cons_mk (Below.trod laidOut (by kernel_rfl) (of_decide_eq_true (by kernel_rfl)) k0 bel lt0) (trodAll_cons_mk (Below.trod laidOut (by kernel_rfl) (of_decide_eq_true (by kernel_rfl)) k1 bel lt1) (trodAll_cons_mk (Below.trod laidOut (by kernel_rfl) (of_decide_eq_true (by kernel_rfl)) k2 bel lt2) (trodAll_cons_mk (Below.trod laidOut (by kernel_rfl) (of_decide_eq_true (by kernel_rfl)) k3 bel lt3) trodAll_mk0)))), rfl, bel.frame _, fun h => by cases h⟩
theorem over : Rows.fnExactSlacksOfRow.holds Try.pinned (OpenSpec.ofChange Rows.fnExactSlacksOfSpec) :=
  OpenClaim.holds_of_wide 6 Try.f6 rfl rfl rfl rfl rfl rfl rfl ⟨rfl, rfl, rfl, rfl, rfl⟩ rfl rfl rfl rfl rfl (by kernel_rfl) Try.func6 (by kernel_rfl)
    (of_decide_eq_true (by kernel_rfl)) (by unfold Func.isWrapper; first | (rw [if_pos (by decide +kernel)]; kernel_rfl) | (rw [if_neg (by decide +kernel)]; exact ⟨rfl, rfl⟩))
    (fun os started H enc _ => lifted os started H enc)
theorem proved : Rows.FnExactSlacksOfSaid := over
#print axioms proved
end Go.Proofs.Ytooidjdgfoioiaa.fnExactSlacksOf
namespace Go.Proofs.Ytooidjdgfoioiaa
/-- The row, under a short name, for the claim. -/
theorem fnExactSlacksOf_holds : Rows.FnExactSlacksOfSaid := fnExactSlacksOf.proved
end Go.Proofs.Ytooidjdgfoioiaa
