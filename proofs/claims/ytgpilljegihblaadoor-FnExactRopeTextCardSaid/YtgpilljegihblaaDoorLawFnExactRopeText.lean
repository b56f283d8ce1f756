-- Printed by wip/print (my turned copy of the kit's print) out of the translation; Lean checks it.
import Derived.Test.YtgpilljegihblaaDoorRows
import Derived.Test.YtgpilljegihblaaDoorP9
import Derived.Test.YtgpilljegihblaaDoorRd
import Derived.Test.YtgpilljegihblaaDoorPureFnExactRopeText
import Derived.WalkKit
import Derived.ProofKit
import Derived.OpenShut
import Derived.ShutString
import Derived.ChangeOld
import Derived.Below
import Derived.SizedLaws
import Derived.Lib.SmallJoins
import Derived.Test.YtgpilljegihblaaDoorTie
import Derived.Test.YtgpilljegihblaaDoorCards
import Derived.Test.YtgpilljegihblaaDoorDoor
import Derived.LaidMore
import Derived.Lay
import Derived.SevenTiedAt
import Derived.Stop.Joined
namespace Go.Proofs.YtgpilljegihblaaDoor.fnExactRopeText
open Go.ChangeShapes Go.WideShapes Go.ChangeAt Go.RowKit Go.Joins Go.Proofs.YtgpilljegihblaaDoor.P Go.Proofs.YtgpilljegihblaaDoorW.PrintWords
open Go.ChangeMaps (open_string shut_string)
theorem own : ownKnob Tryd.prog.godebug = none := by kernel_rfl
theorem laidOut : laidOutB Tryd.prog = true := by kernel_rfl
set_option maxRecDepth 100000 in
theorem lifted (os : Os) (started : os.Started) (H : Type) (enc : TypeId × Value → H) :
    ReturnsInHanded {} Tryd.checked os 3 .any (fun w args => (Rows.fnExactRopeTextSpec.pre enc Tryd.prog Tryd.f3 Rows.fnExactRopeTextRow.domain false w args ∧ laidMetH Tryd.prog Rows.fnExactRopeTextRow.laid w) ∧ sizedMet enc Tryd.prog Tryd.f3 (OpenSpec.ofChange Rows.fnExactRopeTextSpec) false w args) (Rows.fnExactRopeTextSpec.post enc Tryd.prog Tryd.f3 false true false false) := by
  refine Door.returns_shaped (C := Tryd.checked) (X := fun w _ => laidMetH Tryd.prog Rows.fnExactRopeTextRow.laid w) (fun _ _ _ hh h => h.of_heap hh) own started (by kernel_rfl) Tryd.func3
    (ChangeSpec.witness_shaped (enc := enc) (C := Tryd.checked) (os := os) (X := fun w _ => laidMetH Tryd.prog Rows.fnExactRopeTextRow.laid w) false (World.laidAll Tryd.prog os Rows.fnExactRopeTextRow.laid) #[.agg #[.int .i16 0, .slice none 0 0]] 8 (World.laidAll_os _ _ _)
      (World.shaped_of_ZipB (by kernel_rfl) (by kernel_rfl)) (by kernel_rfl) (by kernel_rfl) (by kernel_rfl)
      (by rw [MakeChecks.laidMetH_plain _ _ _ (by kernel_rfl)]; exact laidMet_laidAll _ (by kernel_rfl) (by kernel_rfl))) ?_
  intro W base args ds gs before hval0 hW hcnd hsz0 hL hsh _
  have hval : ∀ (j : Nat) t v, Tryd.f3.params[j]? = some t → args[j]? = some v → Value.okWide Tryd.prog W .any base t v := hval0
  have hW' := hW
  obtain ⟨p, q, hA0, hV, rfl, hfz, hnd⟩ := hW
  have hA : DataW.TrodAll enc Tryd.prog W 0 (fun _ => true) true Tryd.f3.params.toList args.toList ds p := hA0
  rw [Tryd.params3] at hA hval
  obtain ⟨v0, vs0, d0, ds0, p0, q0, hargs, rfl, rfl, h0, r0⟩ := trodAll_cons hA
  obtain ⟨rfl, rfl, rfl⟩ := trodAll_nil r0
  obtain rfl : args = #[v0] := by cases args; simp_all
  obtain ⟨rfl, rfl⟩ := trodVars_none hV
  have k0 := h0
  have lt0 : ∀ x ∈ p0, x.block < W.heap.size := by obtain ⟨m, hm⟩ := k0; exact DataW.trod_lt m _ _ _ hm
  obtain ⟨u0_0, u0_1, y0_0, y0_1, n0, rfl, rfl, rfl, h0_0, h0_1⟩ := open_agg2 Tryd.underlying25 (by kernel_rfl) (by kernel_rfl) (hval 0 25 v0 rfl rfl) h0
  obtain ⟨a0_0, e0_0, w0_0⟩ := (Rd.int Tryd.underlying22) h0_0
  injection e0_0 with e0_0
  subst e0_0
  obtain ⟨l0_1, K0_1, w0_1⟩ := (Rd.slice Tryd.underlying23 (by kernel_rfl) (Rd.int Tryd.underlying22)) h0_1
  obtain ⟨A0_1, c0_1, e0_1, hc0_1, hr0_1⟩ := K0_1
  injection e0_1 with e0_1
  subst e0_1
  have hgt : Go.Proofs.YtgpilljegihblaaDoor.H.Tab10 W := Door.tab10 (l := Rows.fnExactRopeTextRow.laid) (by rw [← MakeChecks.laidMetH_plain _ _ _ (by kernel_rfl)]; exact hL) (by show _ ∈ Rows.fnExactRopeTextRow.laid; unfold Rows.fnExactRopeTextRow; simp only [List.mem_cons]; first | exact .inl rfl | exact .inr (.inl rfl) | exact .inr (.inr (.inl rfl)) | exact .inr (.inr (.inr (.inl rfl))))
  clear hA0 hval0 hsz0
  obtain ⟨k, h⟩ := Pure.FnExactRopeText a0_0 l0_1 w0_0 w0_1
  refine (laws_FnExactRopeText.calls k a0_0 _ _ l0_1 true W hr0_1 hc0_1 hgt rfl h).mono fun e W' he => ?_
  obtain ⟨he, bel0⟩ := he
  have bel : Below W.heap.size W W' := bel0
  subst he
  exact ⟨_, rfl, _, _, _, [], _, [], hW', trodAll_mk1 (shut_bool Tryd.underlying4 _), (trodAll_cons_mk (Below.trod laidOut (by kernel_rfl) (of_decide_eq_true (by kernel_rfl)) k0 bel lt0) trodAll_mk0), rfl, bel.frame _, fun h => by cases h⟩
theorem over : Rows.fnExactRopeTextRow.holds Tryd.pinned (OpenSpec.ofChange Rows.fnExactRopeTextSpec) :=
  OpenClaim.holds_of_wide 3 Tryd.f3 rfl rfl rfl rfl rfl rfl rfl ⟨rfl, rfl, rfl, rfl, rfl⟩ rfl rfl rfl rfl rfl (by kernel_rfl) Tryd.func3 (by kernel_rfl)
    (of_decide_eq_true (by kernel_rfl)) (by unfold Func.isWrapper; first | (rw [if_pos (by decide +kernel)]; kernel_rfl) | (rw [if_neg (by decide +kernel)]; exact ⟨rfl, rfl⟩))
    (fun os started H enc _ => lifted os started H enc)
theorem proved : Rows.FnExactRopeTextSaid := over
theorem card_holds : Rows.FnExactRopeTextCardSaid :=
  Claim7.holds_tied_plain_at .later [] [.data, .data, .data] true (true, "0b3e664b6aef33cf5a2c8a2bb81e7bb3fd29e5b39f96cd0b902c20268bf013c7") false proved (fun _ h => by cases h) (by kernel_rfl) (fun _ h => by cases h) fnExactRopeText_row_tie rfl ⟨rfl, rfl⟩ (by kernel_rfl) rfl
    (fun f fn hf hfn => by
      obtain rfl : f = 3 := Option.some.inj ((show Tryd.prog.funcNamed "loop.example/g01361/laws.FnExactRopeText" = some 3 by kernel_rfl).symm.trans hf) |>.symm
      obtain rfl : fn = Tryd.f3 := (Option.some.inj (Tryd.func3.symm.trans hfn)).symm
      exact ⟨by kernel_rfl, fun j t ht => by
        rw [Tryd.params3] at ht
        have hm : t ∈ [25] := by simpa using Array.mem_of_getElem? ht
        have hall : ([25].all fun u => !Tryd.prog.wantsStandIn u) = true := by kernel_rfl
        exact (show Tryd.prog.wantsStandIn t = false by simpa using List.all_eq_true.1 hall t hm)⟩)
    (by kernel_rfl)
#print axioms card_holds
end Go.Proofs.YtgpilljegihblaaDoor.fnExactRopeText
namespace Go.Proofs.YtgpilljegihblaaDoor
/-- The card, under a short name, for the claim. -/
theorem fnExactRopeText_holds : Rows.FnExactRopeTextCardSaid := fnExactRopeText.card_holds
end Go.Proofs.YtgpilljegihblaaDoor
