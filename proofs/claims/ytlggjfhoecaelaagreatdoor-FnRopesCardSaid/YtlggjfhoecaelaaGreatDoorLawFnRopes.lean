-- Printed by wip/print (my turned copy of the kit's print) out of the translation; Lean checks it.
import Derived.Test.YtlggjfhoecaelaaGreatDoorRows
import Derived.Test.YtlggjfhoecaelaaGreatDoorP20
import Derived.Test.YtlggjfhoecaelaaGreatDoorRd
import Derived.Test.YtlggjfhoecaelaaGreatDoorPureFnRopes
import Derived.WalkKit
import Derived.ProofKit
import Derived.OpenShut
import Derived.ShutString
import Derived.ChangeOld
import Derived.Below
import Derived.SizedLaws
import Derived.Lib.SmallJoins
import Derived.Test.YtlggjfhoecaelaaGreatDoorTie
import Derived.Test.YtlggjfhoecaelaaGreatDoorCards
import Derived.Test.YtlggjfhoecaelaaGreatDoorDoor
import Derived.LaidMore
import Derived.Lay
import Derived.SevenTiedAt
import Derived.Stop.Joined
namespace Go.Proofs.YtlggjfhoecaelaaGreatDoor.fnRopes
open Go.ChangeShapes Go.WideShapes Go.ChangeAt Go.RowKit Go.Joins Go.Proofs.YtlggjfhoecaelaaGreatDoor.P Go.Proofs.YtlggjfhoecaelaaGreatDoorW.PrintWords
open Go.ChangeMaps (open_string shut_string)
theorem own : ownKnob Tryz.prog.godebug = none := by kernel_rfl
theorem laidOut : laidOutB Tryz.prog = true := by kernel_rfl
set_option maxRecDepth 100000 in
theorem lifted (os : Os) (started : os.Started) (H : Type) (enc : TypeId × Value → H) :
    ReturnsInHanded {} Tryz.checked os 3 .any (fun w args => (Rows.fnRopesSpec.pre enc Tryz.prog Tryz.f3 Rows.fnRopesRow.domain false w args ∧ laidMetH Tryz.prog Rows.fnRopesRow.laid w) ∧ sizedMet enc Tryz.prog Tryz.f3 (OpenSpec.ofChange Rows.fnRopesSpec) false w args) (Rows.fnRopesSpec.post enc Tryz.prog Tryz.f3 false true false false) := by
  refine Door.returns_shaped (C := Tryz.checked) (X := fun w _ => laidMetH Tryz.prog Rows.fnRopesRow.laid w) (fun _ _ _ hh h => h.of_heap hh) own started (by kernel_rfl) Tryz.func3
    (ChangeSpec.witness_shaped (enc := enc) (C := Tryz.checked) (os := os) (X := fun w _ => laidMetH Tryz.prog Rows.fnRopesRow.laid w) false (World.laidAll Tryz.prog os Rows.fnRopesRow.laid) #[.slice none 0 0, .slice none 0 0] 8 (World.laidAll_os _ _ _)
      (World.shaped_of_ZipB (by kernel_rfl) (by kernel_rfl)) (by kernel_rfl) (by kernel_rfl) (by kernel_rfl)
      (by rw [MakeChecks.laidMetH_plain _ _ _ (by kernel_rfl)]; exact laidMet_laidAll _ (by kernel_rfl) (by kernel_rfl))) ?_
  intro W base args ds gs before hval0 hW hcnd hsz0 hL hsh _
  have hval : ∀ (j : Nat) t v, Tryz.f3.params[j]? = some t → args[j]? = some v → Value.okWide Tryz.prog W .any base t v := hval0
  have hW' := hW
  obtain ⟨p, q, hA0, hV, rfl, hfz, hnd⟩ := hW
  have hA : DataW.TrodAll enc Tryz.prog W 0 (fun _ => true) true Tryz.f3.params.toList args.toList ds p := hA0
  rw [Tryz.params3] at hA hval
  obtain ⟨v0, vs0, d0, ds0, p0, q0, hargs, rfl, rfl, h0, r0⟩ := trodAll_cons hA
  obtain ⟨v1, vs1, d1, ds1, p1, q1, rfl, rfl, rfl, h1, r1⟩ := trodAll_cons r0
  obtain ⟨rfl, rfl, rfl⟩ := trodAll_nil r1
  obtain rfl : args = #[v0, v1] := by cases args; simp_all
  obtain ⟨rfl, rfl⟩ := trodVars_none hV
  have k0 := h0
  have lt0 : ∀ x ∈ p0, x.block < W.heap.size := by obtain ⟨m, hm⟩ := k0; exact DataW.trod_lt m _ _ _ hm
  obtain ⟨x0, len0, cap0, rfl⟩ := okWide_slice Tryz.underlying22 (hval 0 22 v0 rfl rfl)
  obtain ⟨fu0, hf0⟩ := h0
  have hg0 : DataW.trod enc Tryz.prog W 0 (fun _ => true) true fu0 22 [.slice x0 len0 cap0] = some (d0, p0) := by simpa [Value.cells] using hf0
  obtain ⟨l0, K0, w0⟩ := (Rd.slice Tryz.underlying22 (by kernel_rfl) (Rd.int Tryz.underlying5)) hg0
  obtain ⟨A0, c0, e0, hc0, hr0⟩ := K0
  injection e0 with e0
  injection e0 with e10 e20 e30
  subst e10
  subst e20
  subst e30
  have k1 := h1
  have lt1 : ∀ x ∈ p1, x.block < W.heap.size := by obtain ⟨m, hm⟩ := k1; exact DataW.trod_lt m _ _ _ hm
  obtain ⟨x1, len1, cap1, rfl⟩ := okWide_slice Tryz.underlying22 (hval 1 22 v1 rfl rfl)
  obtain ⟨fu1, hf1⟩ := h1
  have hg1 : DataW.trod enc Tryz.prog W 0 (fun _ => true) true fu1 22 [.slice x1 len1 cap1] = some (d1, p1) := by simpa [Value.cells] using hf1
  obtain ⟨l1, K1, w1⟩ := (Rd.slice Tryz.underlying22 (by kernel_rfl) (Rd.int Tryz.underlying5)) hg1
  obtain ⟨A1, c1, e1, hc1, hr1⟩ := K1
  injection e1 with e1
  injection e1 with e11 e21 e31
  subst e11
  subst e21
  subst e31
  obtain ⟨m977, hgh⟩ := Door.maxlen hsh
  have hgt : Go.Proofs.YtlggjfhoecaelaaGreatDoor.H.Tab10 W := Door.tab10 (l := Rows.fnRopesRow.laid) (by rw [← MakeChecks.laidMetH_plain _ _ _ (by kernel_rfl)]; exact hL) (by show _ ∈ Rows.fnRopesRow.laid; unfold Rows.fnRopesRow; simp only [List.mem_cons]; first | exact .inl rfl | exact .inr (.inl rfl) | exact .inr (.inr (.inl rfl)) | exact .inr (.inr (.inr (.inl rfl))))
  clear hA0 hval0 hsz0
  obtain ⟨k, h⟩ := Pure.FnRopes l0 l1 m977 w0 w1
  refine (laws_FnRopes.calls k _ _ l0 _ _ l1 m977 true W hr0 hc0 hr1 hc1 hgh hgt rfl h).mono fun e W' he => ?_
  obtain ⟨he, bel0⟩ := he
  have bel : Below W.heap.size W W' := bel0
  subst he
  exact ⟨_, rfl, _, _, _, [], _, [], hW', trodAll_mk1 (shut_bool Tryz.underlying4 _), (trodAll_cons_mk (Below.trod laidOut (by kernel_rfl) (of_decide_eq_true (by kernel_rfl)) k0 bel lt0) (trodAll_cons_mk (Below.trod laidOut (by kernel_rfl) (of_decide_eq_true (by kernel_rfl)) k1 bel lt1) trodAll_mk0)), rfl, bel.frame _, fun h => by cases h⟩
theorem over : Rows.fnRopesRow.holds Tryz.pinned (OpenSpec.ofChange Rows.fnRopesSpec) :=
  OpenClaim.holds_of_wide 3 Tryz.f3 rfl rfl rfl rfl rfl rfl rfl ⟨rfl, rfl, rfl, rfl, rfl⟩ rfl rfl rfl rfl rfl (by kernel_rfl) Tryz.func3 (by kernel_rfl)
    (of_decide_eq_true (by kernel_rfl)) (by unfold Func.isWrapper; first | (rw [if_pos (by decide +kernel)]; kernel_rfl) | (rw [if_neg (by decide +kernel)]; exact ⟨rfl, rfl⟩))
    (fun os started H enc _ => lifted os started H enc)
theorem proved : Rows.FnRopesSaid := over
theorem card_holds : Rows.FnRopesCardSaid :=
  Claim7.holds_tied_plain_at .later [] [.data, .data, .data, .data, .sentinel, .sentinel, .pinned] true (true, "96fe851e514e29024039cf55c97952ba5c76720c74e47aed945f5b83e6a25f17") true proved (fun _ h => by cases h) (by kernel_rfl) (fun _ h => by cases h) fnRopes_row_tie rfl ⟨rfl, rfl⟩ (by kernel_rfl) rfl
    (fun f fn hf hfn => by
      obtain rfl : f = 3 := Option.some.inj ((show Tryz.prog.funcNamed "loop.example/g01361/laws.FnRopes" = some 3 by kernel_rfl).symm.trans hf) |>.symm
      obtain rfl : fn = Tryz.f3 := (Option.some.inj (Tryz.func3.symm.trans hfn)).symm
      exact ⟨by kernel_rfl, fun j t ht => by
        rw [Tryz.params3] at ht
        have hm : t ∈ [22, 22] := by simpa using Array.mem_of_getElem? ht
        have hall : ([22, 22].all fun u => !Tryz.prog.wantsStandIn u) = true := by kernel_rfl
        exact (show Tryz.prog.wantsStandIn t = false by simpa using List.all_eq_true.1 hall t hm)⟩)
    (by kernel_rfl)
#print axioms card_holds
end Go.Proofs.YtlggjfhoecaelaaGreatDoor.fnRopes
namespace Go.Proofs.YtlggjfhoecaelaaGreatDoor
/-- The card, under a short name, for the claim. -/
theorem fnRopes_holds : Rows.FnRopesCardSaid := fnRopes.card_holds
end Go.Proofs.YtlggjfhoecaelaaGreatDoor
