-- Printed by wip/print (my turned copy of the kit's print) out of the translation; Lean checks it.
import Derived.Test.YtfmjfnnkkoekbaaP0
import Derived.Test.YtfmjfnnkkoekbaaP10
import Derived.Test.YtfmjfnnkkoekbaaP11
import Derived.Test.YtfmjfnnkkoekbaaP15
import Derived.Test.YtfmjfnnkkoekbaaP35
import Derived.Test.YtfmjfnnkkoekbaaP36
import Derived.Test.YtfmjfnnkkoekbaaP37
namespace Go.Proofs.Ytfmjfnnkkoekbaa.P
open Go.RowKit Go.Proofs.YtfmjfnnkkoekbaaW.PrintWords Go.Proofs.YtfmjfnnkkoekbaaW.PrintLast Go.Proofs.YtfmjfnnkkoekbaaW.PrintMore
attribute [local go_sem] max2_int min2_int max_two min_two max_three min_three max_four min_four   -- for this text's walks alone
set_option linter.unusedVariables false
set_option linter.unusedSimpArgs false

/-! ### laws_FnExactLogFrom: function 8 -/
mutual
def laws_FnExactLogFrom.j0 : Nat → Int → Int → List (S104) → Int → List (S82) → Int → Bool → Int → List Int → List Int → Int → List Int → List Int → Option (Bool)
  | 0, _, _, _, _, _, _, _, _, _, _, _, _, _ => none
  | k + 1, x0, x1, x2, x9, x10, x12, x48, x633000, x633001, x633002, x645000, x645001, x645002 => if x48 = true then (some false) else ((laws_toRecordS.f k x2).bind fun t646 => ((laws_eqRecordS.f k x10 t646).bind fun t649 => (if t649 = true then ((laws_markRecordS.f k x10 1).bind fun bt650 => (if bt650.1 < 0 then (laws_FnExactLogFrom.j1 k x0 x1 x2 x9 true x633000 x633001 x633002 x645000 x645001 x645002) else ((laws_eqLog.f k x645000 x645001 x645002 x633000 x633001 x633002).bind fun t652 => (if t652 = true then (laws_FnExactLogFrom.j1 k x0 x1 x2 x9 (x12 != x9) x633000 x633001 x633002 x645000 x645001 x645002) else (laws_FnExactLogFrom.j1 k x0 x1 x2 x9 true x633000 x633001 x633002 x645000 x645001 x645002))))) else (some false))))
def laws_FnExactLogFrom.j1 : Nat → Int → Int → List (S104) → Int → Bool → Int → List Int → List Int → Int → List Int → List Int → Option (Bool)
  | 0, _, _, _, _, _, _, _, _, _, _, _ => none
  | k + 1, x0, x1, x2, x9, x69, x633000, x633001, x633002, x645000, x645001, x645002 => if x69 = true then (some false) else ((laws_markLog.f k x645000 x645001 x645002 1).bind fun bt653 => ((laws_heldLog.f k x645000 bt653.2.1 bt653.2.2 1).bind fun t656 => (if t656 < 0 then (some false) else (if t656 = bt653.1 then ((laws_toRecordS.f k x2).bind fun t657 => ((impl_LogFrom.f k x0 x1 t657).bind fun bt660 => ((laws_eqLog.f k bt660.1 bt660.2.1 bt660.2.2.1 x633000 x633001 x633002).bind fun t669 => (if t669 = true then (laws_FnExactLogFrom.j2 k bt653.1 (bt660.2.2.2 != x9) x645000 bt653.2.1 bt653.2.2) else (laws_FnExactLogFrom.j2 k bt653.1 true x645000 bt653.2.1 bt653.2.2))))) else (some false)))))
def laws_FnExactLogFrom.j2 : Nat → Int → Bool → Int → List Int → List Int → Option (Bool)
  | 0, _, _, _, _, _ => none
  | k + 1, x14, x97, x645000, x645001, x645002 => if x97 = true then (some false) else ((laws_heldLog.f k x645000 x645001 x645002 1).bind fun t670 => (if t670 < 0 then (some false) else (if t670 = x14 then (some true) else (some false))))
end
def laws_FnExactLogFrom.f (k : Nat) (a0 : Int) (a1 : Int) (l2 : List (S104)) : Option (Bool) := (laws_szRecordS.f l2 1048576).bind fun t620 => (if t620 < 0 then (some true) else ((laws_toRecordS.f k l2).bind fun t621 => ((spec_LogFrom.f k a0 a1 t621).bind fun bt624 => ((laws_toRecordS.f k l2).bind fun t633 => ((impl_LogFrom.f k a0 a1 t633).bind fun bt636 => ((laws_eqLog.f k bt636.1 bt636.2.1 bt636.2.2.1 bt624.1 bt624.2.1 bt624.2.2.1).bind fun t645 => (if t645 = true then (laws_FnExactLogFrom.j0 k a0 a1 l2 bt624.2.2.2 t633 bt636.2.2.2 (bt636.2.2.2 != bt624.2.2.2) bt624.1 bt624.2.1 bt624.2.2.1 bt636.1 bt636.2.1 bt636.2.2.1) else (laws_FnExactLogFrom.j0 k a0 a1 l2 bt624.2.2.2 t633 bt636.2.2.2 true bt624.1 bt624.2.1 bt624.2.2.1 bt636.1 bt636.2.1 bt636.2.2.1))))))))
theorem laws_FnExactLogFrom.mono_l : ∀ k, (∀ y0 y1 y2 y3 y4 y5 y6 y7 y8 y9 y10 y11 y12, LeO (laws_FnExactLogFrom.j0 k y0 y1 y2 y3 y4 y5 y6 y7 y8 y9 y10 y11 y12) (laws_FnExactLogFrom.j0 (k + 1) y0 y1 y2 y3 y4 y5 y6 y7 y8 y9 y10 y11 y12)) ∧ (∀ y0 y1 y2 y3 y4 y5 y6 y7 y8 y9 y10, LeO (laws_FnExactLogFrom.j1 k y0 y1 y2 y3 y4 y5 y6 y7 y8 y9 y10) (laws_FnExactLogFrom.j1 (k + 1) y0 y1 y2 y3 y4 y5 y6 y7 y8 y9 y10)) ∧ (∀ y0 y1 y2 y3 y4, LeO (laws_FnExactLogFrom.j2 k y0 y1 y2 y3 y4) (laws_FnExactLogFrom.j2 (k + 1) y0 y1 y2 y3 y4))
  | 0 => ⟨fun _ _ _ _ _ _ _ _ _ _ _ _ _ r h => by simp [laws_FnExactLogFrom.j0] at h, fun _ _ _ _ _ _ _ _ _ _ _ r h => by simp [laws_FnExactLogFrom.j1] at h, fun _ _ _ _ _ r h => by simp [laws_FnExactLogFrom.j2] at h⟩
  | k + 1 => by
    obtain ⟨ih0, ih1, ih2⟩ := laws_FnExactLogFrom.mono_l k
    refine ⟨?_, ?_, ?_⟩
    · intro y0 y1 y2 y3 y4 y5 y6 y7 y8 y9 y10 y11 y12
      unfold laws_FnExactLogFrom.j0
      repeat' first
      | (with_reducible exact ih0 _ _ _ _ _ _ _ _ _ _ _ _ _)
      | (with_reducible exact ih1 _ _ _ _ _ _ _ _ _ _ _)
      | (with_reducible exact ih2 _ _ _ _ _)
      | (with_reducible exact impl_LogFrom.mono _ _ _ _)
      | (with_reducible exact laws_eqLog.mono _ _ _ _ _ _ _)
      | (with_reducible exact laws_eqRecordS.mono _ _ _)
      | (with_reducible exact laws_heldLog.mono _ _ _ _ _)
      | (with_reducible exact laws_markLog.mono _ _ _ _ _)
      | (with_reducible exact laws_markRecordS.mono _ _ _)
      | (with_reducible exact laws_toRecordS.mono _ _)
      | (with_reducible exact spec_LogFrom.mono _ _ _ _)
      | (with_reducible exact LeO.refl _)
      | (with_reducible exact LeO.none _)
      | (with_reducible refine LeO.ite ?_ ?_)
      | (with_reducible refine LeO.bind ?_ (fun _ => ?_))
      | exact ih0 _ _ _ _ _ _ _ _ _ _ _ _ _
      | exact ih1 _ _ _ _ _ _ _ _ _ _ _
      | exact ih2 _ _ _ _ _
      | exact impl_LogFrom.mono _ _ _ _
      | exact laws_eqLog.mono _ _ _ _ _ _ _
      | exact laws_eqRecordS.mono _ _ _
      | exact laws_heldLog.mono _ _ _ _ _
      | exact laws_markLog.mono _ _ _ _ _
      | exact laws_markRecordS.mono _ _ _
      | exact laws_toRecordS.mono _ _
      | exact spec_LogFrom.mono _ _ _ _
      | exact LeO.none _
      | refine LeO.ite ?_ ?_
      | refine LeO.bind ?_ (fun _ => ?_)
    · intro y0 y1 y2 y3 y4 y5 y6 y7 y8 y9 y10
      unfold laws_FnExactLogFrom.j1
      repeat' first
      | (with_reducible exact ih0 _ _ _ _ _ _ _ _ _ _ _ _ _)
      | (with_reducible exact ih1 _ _ _ _ _ _ _ _ _ _ _)
      | (with_reducible exact ih2 _ _ _ _ _)
      | (with_reducible exact impl_LogFrom.mono _ _ _ _)
      | (with_reducible exact laws_eqLog.mono _ _ _ _ _ _ _)
      | (with_reducible exact laws_eqRecordS.mono _ _ _)
      | (with_reducible exact laws_heldLog.mono _ _ _ _ _)
      | (with_reducible exact laws_markLog.mono _ _ _ _ _)
      | (with_reducible exact laws_markRecordS.mono _ _ _)
      | (with_reducible exact laws_toRecordS.mono _ _)
      | (with_reducible exact spec_LogFrom.mono _ _ _ _)
      | (with_reducible exact LeO.refl _)
      | (with_reducible exact LeO.none _)
      | (with_reducible refine LeO.ite ?_ ?_)
      | (with_reducible refine LeO.bind ?_ (fun _ => ?_))
      | exact ih0 _ _ _ _ _ _ _ _ _ _ _ _ _
      | exact ih1 _ _ _ _ _ _ _ _ _ _ _
      | exact ih2 _ _ _ _ _
      | exact impl_LogFrom.mono _ _ _ _
      | exact laws_eqLog.mono _ _ _ _ _ _ _
      | exact laws_eqRecordS.mono _ _ _
      | exact laws_heldLog.mono _ _ _ _ _
      | exact laws_markLog.mono _ _ _ _ _
      | exact laws_markRecordS.mono _ _ _
      | exact laws_toRecordS.mono _ _
      | exact spec_LogFrom.mono _ _ _ _
      | exact LeO.none _
      | refine LeO.ite ?_ ?_
      | refine LeO.bind ?_ (fun _ => ?_)
    · intro y0 y1 y2 y3 y4
      unfold laws_FnExactLogFrom.j2
      repeat' first
      | (with_reducible exact ih0 _ _ _ _ _ _ _ _ _ _ _ _ _)
      | (with_reducible exact ih1 _ _ _ _ _ _ _ _ _ _ _)
      | (with_reducible exact ih2 _ _ _ _ _)
      | (with_reducible exact impl_LogFrom.mono _ _ _ _)
      | (with_reducible exact laws_eqLog.mono _ _ _ _ _ _ _)
      | (with_reducible exact laws_eqRecordS.mono _ _ _)
      | (with_reducible exact laws_heldLog.mono _ _ _ _ _)
      | (with_reducible exact laws_markLog.mono _ _ _ _ _)
      | (with_reducible exact laws_markRecordS.mono _ _ _)
      | (with_reducible exact laws_toRecordS.mono _ _)
      | (with_reducible exact spec_LogFrom.mono _ _ _ _)
      | (with_reducible exact LeO.refl _)
      | (with_reducible exact LeO.none _)
      | (with_reducible refine LeO.ite ?_ ?_)
      | (with_reducible refine LeO.bind ?_ (fun _ => ?_))
      | exact ih0 _ _ _ _ _ _ _ _ _ _ _ _ _
      | exact ih1 _ _ _ _ _ _ _ _ _ _ _
      | exact ih2 _ _ _ _ _
      | exact impl_LogFrom.mono _ _ _ _
      | exact laws_eqLog.mono _ _ _ _ _ _ _
      | exact laws_eqRecordS.mono _ _ _
      | exact laws_heldLog.mono _ _ _ _ _
      | exact laws_markLog.mono _ _ _ _ _
      | exact laws_markRecordS.mono _ _ _
      | exact laws_toRecordS.mono _ _
      | exact spec_LogFrom.mono _ _ _ _
      | exact LeO.none _
      | refine LeO.ite ?_ ?_
      | refine LeO.bind ?_ (fun _ => ?_)
theorem laws_FnExactLogFrom.mono : ∀ a0 a1 a2 k, LeO (laws_FnExactLogFrom.f k a0 a1 a2) (laws_FnExactLogFrom.f (k + 1) a0 a1 a2) := by
  intro a0 a1 a2 k
  obtain ⟨ih0, ih1, ih2⟩ := laws_FnExactLogFrom.mono_l k
  unfold laws_FnExactLogFrom.f
  repeat' first
      | (with_reducible exact ih0 _ _ _ _ _ _ _ _ _ _ _ _ _)
      | (with_reducible exact ih1 _ _ _ _ _ _ _ _ _ _ _)
      | (with_reducible exact ih2 _ _ _ _ _)
      | (with_reducible exact impl_LogFrom.mono _ _ _ _)
      | (with_reducible exact laws_eqLog.mono _ _ _ _ _ _ _)
      | (with_reducible exact laws_eqRecordS.mono _ _ _)
      | (with_reducible exact laws_heldLog.mono _ _ _ _ _)
      | (with_reducible exact laws_markLog.mono _ _ _ _ _)
      | (with_reducible exact laws_markRecordS.mono _ _ _)
      | (with_reducible exact laws_toRecordS.mono _ _)
      | (with_reducible exact spec_LogFrom.mono _ _ _ _)
      | (with_reducible exact LeO.refl _)
      | (with_reducible exact LeO.none _)
      | (with_reducible refine LeO.ite ?_ ?_)
      | (with_reducible refine LeO.bind ?_ (fun _ => ?_))
      | exact ih0 _ _ _ _ _ _ _ _ _ _ _ _ _
      | exact ih1 _ _ _ _ _ _ _ _ _ _ _
      | exact ih2 _ _ _ _ _
      | exact impl_LogFrom.mono _ _ _ _
      | exact laws_eqLog.mono _ _ _ _ _ _ _
      | exact laws_eqRecordS.mono _ _ _
      | exact laws_heldLog.mono _ _ _ _ _
      | exact laws_markLog.mono _ _ _ _ _
      | exact laws_markRecordS.mono _ _ _
      | exact laws_toRecordS.mono _ _
      | exact spec_LogFrom.mono _ _ _ _
      | exact LeO.none _
      | refine LeO.ite ?_ ?_
      | refine LeO.bind ?_ (fun _ => ?_)
set_option maxHeartbeats 8000000 in
set_option maxRecDepth 100000 in
theorem laws_FnExactLogFrom.calls (k : Nat) (a0 : Int) (a1 : Int) (A2 : Option Addr) (c2 : Nat) (l2 : List (S104)) (r : Bool) (w : World) (hr2 : Kd.C k104 w A2 l2.length l2) (hc2 : l2.length ≤ c2) (hT : r = true) (h : laws_FnExactLogFrom.f k a0 a1 l2 = some r) :
    Calls Try.prog 8 #[.int .i64 a0, .int .i64 a1, .slice A2 l2.length c2] w fun e w' => e = .returned (.bool r) ∧ Below w.heap.size w w' := by
  have hu31 := Try.underlying31
  have HR2 := Aside0.mk hr2
  have HC2 := Aside0.mk hc2
  clear hr2 hc2
  have HT := Aside0.mk hT
  clear hT
  have HB := Aside0.mk (Below.refl w.heap.size w)
  have H : ((laws_szRecordS.f l2 1048576).bind fun t620 => (if t620 < 0 then (some true) else ((laws_toRecordS.f k l2).bind fun t621 => ((spec_LogFrom.f k a0 a1 t621).bind fun bt624 => ((laws_toRecordS.f k l2).bind fun t633 => ((impl_LogFrom.f k a0 a1 t633).bind fun bt636 => ((laws_eqLog.f k bt636.1 bt636.2.1 bt636.2.2.1 bt624.1 bt624.2.1 bt624.2.2.1).bind fun t645 => (if t645 = true then (laws_FnExactLogFrom.j0 k a0 a1 l2 bt624.2.2.2 t633 bt636.2.2.2 (bt636.2.2.2 != bt624.2.2.2) bt624.1 bt624.2.1 bt624.2.2.1 bt636.1 bt636.2.1 bt636.2.2.1) else (laws_FnExactLogFrom.j0 k a0 a1 l2 bt624.2.2.2 t633 bt636.2.2.2 true bt624.1 bt624.2.1 bt624.2.2.1 bt636.1 bt636.2.1 bt636.2.2.1))))))))) = some r := h
  clear h
  replace H := Option.bind_eq_some_iff.mp H
  obtain ⟨t620, A40, H⟩ := H
  replace H : (if t620 < 0 then (some true) else ((laws_toRecordS.f k l2).bind fun t621 => ((spec_LogFrom.f k a0 a1 t621).bind fun bt624 => ((laws_toRecordS.f k l2).bind fun t633 => ((impl_LogFrom.f k a0 a1 t633).bind fun bt636 => ((laws_eqLog.f k bt636.1 bt636.2.1 bt636.2.2.1 bt624.1 bt624.2.1 bt624.2.2.1).bind fun t645 => (if t645 = true then (laws_FnExactLogFrom.j0 k a0 a1 l2 bt624.2.2.2 t633 bt636.2.2.2 (bt636.2.2.2 != bt624.2.2.2) bt624.1 bt624.2.1 bt624.2.2.1 bt636.1 bt636.2.1 bt636.2.2.1) else (laws_FnExactLogFrom.j0 k a0 a1 l2 bt624.2.2.2 t633 bt636.2.2.2 true bt624.1 bt624.2.1 bt624.2.2.1 bt636.1 bt636.2.1 bt636.2.2.1)))))))) = some r := H
  have A4 := Aside0.mk A40
  clear A40
  by_cases c5 : t620 < 0
  · rw [if_pos c5] at H
    have c5b0 : decide (t620 < 0) = true := decide_eq_true c5
    clear c5
    obtain rfl := Option.some.inj H
    go_enter Try.func8, Try.ntmps8
    go_wp2_with (first | ((with_reducible refine gate_callee (f := 32) rfl ?_); refine goesL_ (some 20) rfl rfl Try.func32 (by kernel_rfl) rfl #[.slice A2 l2.length c2, .int .i64 1048576] rfl (by (try simp only [List.map_toArray, List.map_cons, List.map_nil]); first | done | rfl | (simp only [List.length_drop, List.length_take]; rfl)) ?_; (with_reducible refine (laws_szRecordS.calls _ _ l2 1048576 t620 _ ?side1 ?side2 A4.out).mono ?_); (case side1 => repeat (first | exact HR2.out | (with_reducible refine Kd.C_alloc ?_ _) | (with_reducible refine Kd.C_drewN ?_ _) | (with_reducible refine Kd.C_drew ?_))); (case side2 => exact HC2.out); rintro e w' ⟨rfl, ⟨nd, rfl⟩⟩; refine ⟨_, rfl, ?_⟩))
    go_ret
    exact ⟨by first | rfl | (simp [errW_none, errW_some] <;> rfl) | (simp [*, errW_none, errW_some] <;> rfl), by repeat (first | (with_reducible first | exact HB.out | apply below_alloc | apply pw_below_drewN | apply below_drew1) | exact HB.out)⟩
  · rw [if_neg c5] at H
    have c5b0 : decide (t620 < 0) = false := decide_eq_false c5
    clear c5
    replace H := Option.bind_eq_some_iff.mp H
    obtain ⟨t621, A60, H⟩ := H
    replace H : ((spec_LogFrom.f k a0 a1 t621).bind fun bt624 => ((laws_toRecordS.f k l2).bind fun t633 => ((impl_LogFrom.f k a0 a1 t633).bind fun bt636 => ((laws_eqLog.f k bt636.1 bt636.2.1 bt636.2.2.1 bt624.1 bt624.2.1 bt624.2.2.1).bind fun t645 => (if t645 = true then (laws_FnExactLogFrom.j0 k a0 a1 l2 bt624.2.2.2 t633 bt636.2.2.2 (bt636.2.2.2 != bt624.2.2.2) bt624.1 bt624.2.1 bt624.2.2.1 bt636.1 bt636.2.1 bt636.2.2.1) else (laws_FnExactLogFrom.j0 k a0 a1 l2 bt624.2.2.2 t633 bt636.2.2.2 true bt624.1 bt624.2.1 bt624.2.2.1 bt636.1 bt636.2.1 bt636.2.2.1)))))) = some r := H
    have A6 := Aside0.mk A60
    clear A60
    replace H := Option.bind_eq_some_iff.mp H
    obtain ⟨⟨t624, t625, t628, t631⟩, A70, H⟩ := H
    replace H : ((laws_toRecordS.f k l2).bind fun t633 => ((impl_LogFrom.f k a0 a1 t633).bind fun bt636 => ((laws_eqLog.f k bt636.1 bt636.2.1 bt636.2.2.1 t624 t625 t628).bind fun t645 => (if t645 = true then (laws_FnExactLogFrom.j0 k a0 a1 l2 t631 t633 bt636.2.2.2 (bt636.2.2.2 != t631) t624 t625 t628 bt636.1 bt636.2.1 bt636.2.2.1) else (laws_FnExactLogFrom.j0 k a0 a1 l2 t631 t633 bt636.2.2.2 true t624 t625 t628 bt636.1 bt636.2.1 bt636.2.2.1))))) = some r := H
    have A7 := Aside0.mk A70
    clear A70
    replace H := Option.bind_eq_some_iff.mp H
    obtain ⟨t633, A80, H⟩ := H
    replace H : ((impl_LogFrom.f k a0 a1 t633).bind fun bt636 => ((laws_eqLog.f k bt636.1 bt636.2.1 bt636.2.2.1 t624 t625 t628).bind fun t645 => (if t645 = true then (laws_FnExactLogFrom.j0 k a0 a1 l2 t631 t633 bt636.2.2.2 (bt636.2.2.2 != t631) t624 t625 t628 bt636.1 bt636.2.1 bt636.2.2.1) else (laws_FnExactLogFrom.j0 k a0 a1 l2 t631 t633 bt636.2.2.2 true t624 t625 t628 bt636.1 bt636.2.1 bt636.2.2.1)))) = some r := H
    have A8 := Aside0.mk A80
    clear A80
    replace H := Option.bind_eq_some_iff.mp H
    obtain ⟨⟨t636, t637, t640, t643⟩, A90, H⟩ := H
    replace H : ((laws_eqLog.f k t636 t637 t640 t624 t625 t628).bind fun t645 => (if t645 = true then (laws_FnExactLogFrom.j0 k a0 a1 l2 t631 t633 t643 (t643 != t631) t624 t625 t628 t636 t637 t640) else (laws_FnExactLogFrom.j0 k a0 a1 l2 t631 t633 t643 true t624 t625 t628 t636 t637 t640))) = some r := H
    have A9 := Aside0.mk A90
    clear A90
    have HC10 := Aside0.mk H
    clear H
    go_enter Try.func8, Try.ntmps8
    go_upto_region 8 with (first | ((with_reducible refine gate_callee (f := 32) rfl ?_); refine goesL_ (some 20) rfl rfl Try.func32 (by kernel_rfl) rfl #[.slice A2 l2.length c2, .int .i64 1048576] rfl (by (try simp only [List.map_toArray, List.map_cons, List.map_nil]); first | done | rfl | (simp only [List.length_drop, List.length_take]; rfl)) ?_; (with_reducible refine (laws_szRecordS.calls _ _ l2 1048576 t620 _ ?side1 ?side2 A4.out).mono ?_); (case side1 => repeat (first | exact HR2.out | (with_reducible refine Kd.C_alloc ?_ _) | (with_reducible refine Kd.C_drewN ?_ _) | (with_reducible refine Kd.C_drew ?_))); (case side2 => exact HC2.out); rintro e w' ⟨rfl, ⟨nd, rfl⟩⟩; refine ⟨_, rfl, ?_⟩) | ((with_reducible refine gate_callee (f := 34) rfl ?_); refine goesL_ (some 27) rfl rfl Try.func34 (by kernel_rfl) rfl #[.slice A2 l2.length c2] rfl (by (try simp only [List.map_toArray, List.map_cons, List.map_nil]); first | done | rfl | (simp only [List.length_drop, List.length_take]; rfl)) ?_; (with_reducible refine (laws_toRecordS.calls k _ _ l2 t621 _ ?side1 ?side2 A6.out).mono ?_); (case side1 => repeat (first | exact HR2.out | (with_reducible refine Kd.C_alloc ?_ _) | (with_reducible refine Kd.C_drewN ?_ _) | (with_reducible refine Kd.C_drew ?_))); (case side2 => exact HC2.out); rintro e w11 ⟨v622, rfl, ho0, hb⟩; refine ⟨_, rfl, ?_⟩; have n0_ := Aside0.mk (Kd.R_lower ho0 (below_size (by repeat (first | (with_reducible first | exact HB.out | apply below_alloc | apply pw_below_drewN | apply below_drew1) | exact HB.out)))); have n1_ := Aside0.mk (below_step (by repeat (first | (with_reducible first | exact HB.out | apply below_alloc | apply pw_below_drewN | apply below_drew1) | exact HB.out)) hb); clear HB; have HO623 := n0_; have HB := n1_; clear n0_ n1_; (try clear hb); (try clear hb2); (try clear hk); (try clear hi); (try clear ho0); obtain ⟨Ao12, co12, eo12⟩ := Kd.R_slice HO623.out; subst eo12) | ((with_reducible refine gate_callee (f := 39) rfl ?_); refine goesL_ (some 28) rfl rfl Try.func39 (by kernel_rfl) rfl #[.int .i64 a0, .int .i64 a1, .slice Ao12 t621.length co12] rfl (by (try simp only [List.map_toArray, List.map_cons, List.map_nil]); first | done | rfl | (simp only [List.length_drop, List.length_take]; rfl)) ?_; (with_reducible refine (spec_LogFrom.calls k a0 a1 _ _ t621 t624 t625 t628 t631 _ ?side1 ?side2 A7.out).mono ?_); (case side1 => repeat (first | exact (Kd.R_reads' HO623.out).2.2 | (with_reducible refine Kd.C_alloc ?_ _) | (with_reducible refine Kd.C_drewN ?_ _) | (with_reducible refine Kd.C_drew ?_))); (case side2 => exact (Kd.R_reads' HO623.out).2.1); rintro e w13 ⟨v626, v629, rfl, ho0, ho1, hb⟩; refine ⟨_, rfl, ?_⟩; have n0_ := Aside0.mk (Kd.R_below (by (with_reducible repeat (first | apply Kd.R_alloc | apply Kd.R_drewN | apply Kd.R_drew)); exact HO623.out) hb); have n1_ := Aside0.mk (Kd.R_lower ho0 (below_size (by repeat (first | (with_reducible first | exact HB.out | apply below_alloc | apply pw_below_drewN | apply below_drew1) | exact HB.out)))); have n2_ := Aside0.mk (Kd.R_lower ho1 (below_size (by repeat (first | (with_reducible first | exact HB.out | apply below_alloc | apply pw_below_drewN | apply below_drew1) | exact HB.out)))); have n3_ := Aside0.mk (below_step (by repeat (first | (with_reducible first | exact HB.out | apply below_alloc | apply pw_below_drewN | apply below_drew1) | exact HB.out)) hb); clear HO623; clear HB; have HO623 := n0_; have HO627 := n1_; have HO630 := n2_; have HB := n3_; clear n0_ n1_ n2_ n3_; (try clear hb); (try clear hb2); (try clear hk); (try clear hi); (try clear ho0); (try clear ho1)) | ((with_reducible refine gate_dst (N := 8) rfl ?_); refine box_event ?hg (N := 8) ?hd (cs := #[.int .i64 0, .slice none 0 0, .slice none 0 0]) (t := 31) ?hr ?_; (case hd => rfl); (case hg => rfl); (case hr => first | (go_simp; done) | (go_simp; rfl)); intro gb632 hg w14 hbox hb; have n0_ := Aside0.mk (Kd.R_below (by (with_reducible repeat (first | apply Kd.R_alloc | apply Kd.R_drewN | apply Kd.R_drew)); exact HO623.out) hb); have n1_ := Aside0.mk (Kd.R_below (by (with_reducible repeat (first | apply Kd.R_alloc | apply Kd.R_drewN | apply Kd.R_drew)); exact HO627.out) hb); have n2_ := Aside0.mk (Kd.R_below (by (with_reducible repeat (first | apply Kd.R_alloc | apply Kd.R_drewN | apply Kd.R_drew)); exact HO630.out) hb); have n3_ := Aside0.mk (below_step (by repeat (first | (with_reducible first | exact HB.out | apply below_alloc | apply pw_below_drewN | apply below_drew1) | exact HB.out)) hb); have n4_ := Aside0.mk (hbox); have n5_ := Aside0.mk ((by rw [hg]; exact (below_size (by repeat (first | (with_reducible first | exact HB.out | apply below_alloc | apply pw_below_drewN | apply below_drew1) | exact HB.out))) : w.heap.size ≤ gb632)); have n6_ := Aside0.mk ((by rw [hg]; exact (below_size (by repeat (first | (with_reducible first | exact HB.out | apply below_alloc | apply pw_below_drewN | apply below_drew1) | exact HB.out))) : w.heap.size ≤ gb632)); clear HO623; clear HO627; clear HO630; clear HB; have HO623 := n0_; have HO627 := n1_; have HO630 := n2_; have HB := n3_; have BK632 := n4_; have GW632 := n5_; have GE632 := n6_; clear n0_ n1_ n2_ n3_ n4_ n5_ n6_; clear hb hbox hg; have hcz15_0 : w14.cell? ⟨gb632, 0, none⟩ = some (.int .i64 0) := (blk_cell BK632.out 0).trans rfl; have hcz15_1 : w14.cell? ⟨gb632, 1, none⟩ = some (.slice none 0 0) := (blk_cell BK632.out 1).trans rfl; have hcz15_2 : w14.cell? ⟨gb632, 2, none⟩ = some (.slice none 0 0) := (blk_cell BK632.out 2).trans rfl; have hfz15_0 := blk_frozen BK632.out 0; have hfz15_1 := blk_frozen BK632.out 1; have hfz15_2 := blk_frozen BK632.out 2; obtain ⟨Ao16, co16, eo16⟩ := Kd.R_slice HO627.out; subst eo16; obtain ⟨Ao17, co17, eo17⟩ := Kd.R_slice HO630.out; subst eo17) | ((with_reducible refine gate_callee (f := 34) rfl ?_); refine goesL_ (some 32) rfl rfl Try.func34 (by kernel_rfl) rfl #[.slice A2 l2.length c2] rfl (by (try simp only [List.map_toArray, List.map_cons, List.map_nil]); first | done | rfl | (simp only [List.length_drop, List.length_take]; rfl)) ?_; (with_reducible refine (laws_toRecordS.calls k _ _ l2 t633 _ ?side1 ?side2 A8.out).mono ?_); (case side1 => exact Kd.C_below HR2.out (by repeat (first | (with_reducible first | exact HB.out | apply below_alloc | apply pw_below_drewN | apply below_drew1 | refine below_set ?_ GE632.out) | exact HB.out))); (case side2 => exact HC2.out); rintro e w18 ⟨v634, rfl, ho0, hb⟩; refine ⟨_, rfl, ?_⟩; have n0_ := Aside0.mk (Kd.R_elder' (by (with_reducible repeat (first | apply Kd.R_alloc | apply Kd.R_drewN | apply Kd.R_drew)); exact (Kd.R_mono (Kd.R_far (p := ⟨gb632, 2, none⟩) (Kd.R_far (p := ⟨gb632, 1, none⟩) (Kd.R_far (p := ⟨gb632, 0, none⟩) (Kd.R_types HO623.out BK632.out (by decide)) (fun _ hk => hk.2) (.int .i64 t624)) (fun _ hk => hk.2) (.slice Ao16 t625.length co16)) (fun _ hk => hk.2) (.slice Ao17 t628.length co17)) (fun _ h_ => h_.1))) (Kd.R_base ho0) hb); have n1_ := Aside0.mk (Kd.R_below (by (with_reducible repeat (first | apply Kd.R_alloc | apply Kd.R_drewN | apply Kd.R_drew)); exact (Kd.R_mono (Kd.R_far (p := ⟨gb632, 2, none⟩) (Kd.R_far (p := ⟨gb632, 1, none⟩) (Kd.R_far (p := ⟨gb632, 0, none⟩) (Kd.R_types HO627.out BK632.out (by decide)) (fun _ hk => hk.2) (.int .i64 t624)) (fun _ hk => hk.2) (.slice Ao16 t625.length co16)) (fun _ hk => hk.2) (.slice Ao17 t628.length co17)) (fun _ h_ => h_.1))) hb); have n2_ := Aside0.mk (Kd.R_below (by (with_reducible repeat (first | apply Kd.R_alloc | apply Kd.R_drewN | apply Kd.R_drew)); exact (Kd.R_mono (Kd.R_far (p := ⟨gb632, 2, none⟩) (Kd.R_far (p := ⟨gb632, 1, none⟩) (Kd.R_far (p := ⟨gb632, 0, none⟩) (Kd.R_types HO630.out BK632.out (by decide)) (fun _ hk => hk.2) (.int .i64 t624)) (fun _ hk => hk.2) (.slice Ao16 t625.length co16)) (fun _ hk => hk.2) (.slice Ao17 t628.length co17)) (fun _ h_ => h_.1))) hb); have n3_ := Aside0.mk (Kd.R_lower (Kd.R_new' ho0 (Kd.R_lt (by (with_reducible repeat (first | apply Kd.R_alloc | apply Kd.R_drewN | apply Kd.R_drew)); exact (Kd.R_mono (Kd.R_far (p := ⟨gb632, 2, none⟩) (Kd.R_far (p := ⟨gb632, 1, none⟩) (Kd.R_far (p := ⟨gb632, 0, none⟩) (Kd.R_types HO623.out BK632.out (by decide)) (fun _ hk => hk.2) (.int .i64 t624)) (fun _ hk => hk.2) (.slice Ao16 t625.length co16)) (fun _ hk => hk.2) (.slice Ao17 t628.length co17)) (fun _ h_ => h_.1))))) (below_size (by repeat (first | (with_reducible first | exact HB.out | apply below_alloc | apply pw_below_drewN | apply below_drew1 | refine below_set ?_ GE632.out) | exact HB.out)))); have n4_ := Aside0.mk (blk_below (g := gb632) (o := .cells #[.int .i64 t624, .slice Ao16 t625.length co16, .slice Ao17 t628.length co17] 31 (0, 0)) (by (with_reducible repeat (first | refine blk_drewN ?_ _ | refine blk_drew ?_ | refine blk_alloc ?_ _)); refine blk_put (cs := #[.int .i64 t624, .slice Ao16 t625.length co16, .slice none 0 0]) ?_ 2 _ rfl; (with_reducible repeat (first | refine blk_drewN ?_ _ | refine blk_drew ?_ | refine blk_alloc ?_ _)); refine blk_put (cs := #[.int .i64 t624, .slice none 0 0, .slice none 0 0]) ?_ 1 _ rfl; (with_reducible repeat (first | refine blk_drewN ?_ _ | refine blk_drew ?_ | refine blk_alloc ?_ _)); refine blk_put (cs := #[.int .i64 0, .slice none 0 0, .slice none 0 0]) ?_ 0 _ rfl; (with_reducible repeat (first | refine blk_drewN ?_ _ | refine blk_drew ?_ | refine blk_alloc ?_ _)); exact BK632.out) hb); have n5_ := Aside0.mk (below_step (by repeat (first | (with_reducible first | exact HB.out | apply below_alloc | apply pw_below_drewN | apply below_drew1 | refine below_set ?_ GE632.out) | exact HB.out)) hb); clear HO623; clear HO627; clear HO630; clear BK632; clear HB; have HO623 := n0_; have HO627 := n1_; have HO630 := n2_; have HO635 := n3_; have BK632 := n4_; have HB := n5_; clear n0_ n1_ n2_ n3_ n4_ n5_; (try clear hb); (try clear hb2); (try clear hk); (try clear hi); (try clear ho0); obtain ⟨Ao19, co19, eo19⟩ := Kd.R_slice HO635.out; subst eo19) | ((with_reducible refine gate_callee (f := 40) rfl ?_); refine goesL_ (some 37) rfl rfl Try.func40 (by kernel_rfl) rfl #[.int .i64 a0, .int .i64 a1, .slice Ao19 t633.length co19] rfl (by (try simp only [List.map_toArray, List.map_cons, List.map_nil]); first | done | rfl | (simp only [List.length_drop, List.length_take]; rfl)) ?_; (with_reducible refine (impl_LogFrom.calls k a0 a1 _ _ t633 t636 t637 t640 t643 _ ?side1 ?side2 A9.out).mono ?_); (case side1 => repeat (first | exact (Kd.R_reads' HO635.out).2.2 | (with_reducible refine Kd.C_alloc ?_ _) | (with_reducible refine Kd.C_drewN ?_ _) | (with_reducible refine Kd.C_drew ?_))); (case side2 => exact (Kd.R_reads' HO635.out).2.1); rintro e w20 ⟨v638, v641, rfl, ho0, ho1, hb⟩; refine ⟨_, rfl, ?_⟩; have n0_ := Aside0.mk (Kd.R_below (by (with_reducible repeat (first | apply Kd.R_alloc | apply Kd.R_drewN | apply Kd.R_drew)); exact HO623.out) hb); have n1_ := Aside0.mk (Kd.R_elder' (by (with_reducible repeat (first | apply Kd.R_alloc | apply Kd.R_drewN | apply Kd.R_drew)); exact HO627.out) (Kd.R_base ho0) hb); have n2_ := Aside0.mk (Kd.R_elder' (by (with_reducible repeat (first | apply Kd.R_alloc | apply Kd.R_drewN | apply Kd.R_drew)); exact HO630.out) (Kd.R_base ho1) hb); have n3_ := Aside0.mk (Kd.R_below (by (with_reducible repeat (first | apply Kd.R_alloc | apply Kd.R_drewN | apply Kd.R_drew)); exact HO635.out) hb); have n4_ := Aside0.mk (Kd.R_lower (Kd.R_new' ho0 (Kd.R_lt (by (with_reducible repeat (first | apply Kd.R_alloc | apply Kd.R_drewN | apply Kd.R_drew)); exact HO627.out))) (below_size (by repeat (first | (with_reducible first | exact HB.out | apply below_alloc | apply pw_below_drewN | apply below_drew1 | refine below_set ?_ GE632.out) | exact HB.out)))); have n5_ := Aside0.mk (Kd.R_lower (Kd.R_new' ho1 (Kd.R_lt (by (with_reducible repeat (first | apply Kd.R_alloc | apply Kd.R_drewN | apply Kd.R_drew)); exact HO630.out))) (below_size (by repeat (first | (with_reducible first | exact HB.out | apply below_alloc | apply pw_below_drewN | apply below_drew1 | refine below_set ?_ GE632.out) | exact HB.out)))); have n6_ := Aside0.mk (blk_below (g := gb632) (o := .cells #[.int .i64 t624, .slice Ao16 t625.length co16, .slice Ao17 t628.length co17] 31 (0, 0)) (by (with_reducible repeat (first | refine blk_drewN ?_ _ | refine blk_drew ?_ | refine blk_alloc ?_ _)); exact BK632.out) hb); have n7_ := Aside0.mk (below_step (by repeat (first | (with_reducible first | exact HB.out | apply below_alloc | apply pw_below_drewN | apply below_drew1 | refine below_set ?_ GE632.out) | exact HB.out)) hb); clear HO623; clear HO627; clear HO630; clear HO635; clear BK632; clear HB; have HO623 := n0_; have HO627 := n1_; have HO630 := n2_; have HO635 := n3_; have HO639 := n4_; have HO642 := n5_; have BK632 := n6_; have HB := n7_; clear n0_ n1_ n2_ n3_ n4_ n5_ n6_ n7_; (try clear hb); (try clear hb2); (try clear hk); (try clear hi); (try clear ho0); (try clear ho1)) | ((with_reducible refine gate_dst (N := 11) rfl ?_); refine box_event ?hg (N := 11) ?hd (cs := #[.int .i64 0, .slice none 0 0, .slice none 0 0]) (t := 31) ?hr ?_; (case hd => rfl); (case hg => rfl); (case hr => first | (go_simp; done) | (go_simp; rfl)); intro gb644 hg w21 hbox hb; have n0_ := Aside0.mk (Kd.R_below (by (with_reducible repeat (first | apply Kd.R_alloc | apply Kd.R_drewN | apply Kd.R_drew)); exact HO623.out) hb); have n1_ := Aside0.mk (Kd.R_below (by (with_reducible repeat (first | apply Kd.R_alloc | apply Kd.R_drewN | apply Kd.R_drew)); exact HO627.out) hb); have n2_ := Aside0.mk (Kd.R_below (by (with_reducible repeat (first | apply Kd.R_alloc | apply Kd.R_drewN | apply Kd.R_drew)); exact HO630.out) hb); have n3_ := Aside0.mk (Kd.R_below (by (with_reducible repeat (first | apply Kd.R_alloc | apply Kd.R_drewN | apply Kd.R_drew)); exact HO635.out) hb); have n4_ := Aside0.mk (Kd.R_below (by (with_reducible repeat (first | apply Kd.R_alloc | apply Kd.R_drewN | apply Kd.R_drew)); exact HO639.out) hb); have n5_ := Aside0.mk (Kd.R_below (by (with_reducible repeat (first | apply Kd.R_alloc | apply Kd.R_drewN | apply Kd.R_drew)); exact HO642.out) hb); have n6_ := Aside0.mk (blk_below (g := gb632) (o := .cells #[.int .i64 t624, .slice Ao16 t625.length co16, .slice Ao17 t628.length co17] 31 (0, 0)) (by (with_reducible repeat (first | refine blk_drewN ?_ _ | refine blk_drew ?_ | refine blk_alloc ?_ _)); exact BK632.out) hb); have n7_ := Aside0.mk (below_step (by repeat (first | (with_reducible first | exact HB.out | apply below_alloc | apply pw_below_drewN | apply below_drew1 | refine below_set ?_ GE632.out) | exact HB.out)) hb); have n8_ := Aside0.mk (hbox); have n9_ := Aside0.mk ((by rw [hg]; exact (below_size (by repeat (first | (with_reducible first | exact HB.out | apply below_alloc | apply pw_below_drewN | apply below_drew1 | refine below_set ?_ GE632.out) | exact HB.out))) : w.heap.size ≤ gb644)); have n10_ := Aside0.mk ((by rw [hg]; exact (below_size (by repeat (first | (with_reducible first | exact HB.out | apply below_alloc | apply pw_below_drewN | apply below_drew1 | refine below_set ?_ GE632.out) | exact HB.out))) : w.heap.size ≤ gb644)); have n11_ := Aside0.mk ((by rw [hg]; exact Nat.ne_of_lt (blk_lt (g := gb632) (o := .cells #[.int .i64 t624, .slice Ao16 t625.length co16, .slice Ao17 t628.length co17] 31 (0, 0)) (by (with_reducible repeat (first | refine blk_drewN ?_ _ | refine blk_drew ?_ | refine blk_alloc ?_ _)); exact BK632.out)) : gb632 ≠ gb644)); have n12_ := Aside0.mk ((by rw [hg]; exact Nat.ne_of_gt (blk_lt (g := gb632) (o := .cells #[.int .i64 t624, .slice Ao16 t625.length co16, .slice Ao17 t628.length co17] 31 (0, 0)) (by (with_reducible repeat (first | refine blk_drewN ?_ _ | refine blk_drew ?_ | refine blk_alloc ?_ _)); exact BK632.out)) : gb644 ≠ gb632)); clear HO623; clear HO627; clear HO630; clear HO635; clear HO639; clear HO642; clear BK632; clear HB; have HO623 := n0_; have HO627 := n1_; have HO630 := n2_; have HO635 := n3_; have HO639 := n4_; have HO642 := n5_; have BK632 := n6_; have HB := n7_; have BK644 := n8_; have GW644 := n9_; have GE644 := n10_; have NB632_644 := n11_; have NB644_632 := n12_; clear n0_ n1_ n2_ n3_ n4_ n5_ n6_ n7_ n8_ n9_ n10_ n11_ n12_; clear hb hbox hg; have hnb22 := NB644_632.out; have hnc22 := NB632_644.out; have hcz23_0 : w21.cell? ⟨gb644, 0, none⟩ = some (.int .i64 0) := (blk_cell BK644.out 0).trans rfl; have hcz23_1 : w21.cell? ⟨gb644, 1, none⟩ = some (.slice none 0 0) := (blk_cell BK644.out 1).trans rfl; have hcz23_2 : w21.cell? ⟨gb644, 2, none⟩ = some (.slice none 0 0) := (blk_cell BK644.out 2).trans rfl; have hfz23_0 := blk_frozen BK644.out 0; have hfz23_1 := blk_frozen BK644.out 1; have hfz23_2 := blk_frozen BK644.out 2; obtain ⟨Ao24, co24, eo24⟩ := Kd.R_slice HO639.out; subst eo24; obtain ⟨Ao25, co25, eo25⟩ := Kd.R_slice HO642.out; subst eo25))
    (try simp only [Act.put, List.setIfInBounds_toArray, List.set_cons_zero, List.set_cons_succ])
    go_cut [48] (fun v48 wc => ∃ (kq : Nat) (x48_9 : Bool), v48 = .bool x48_9 ∧ Aside0 (laws_FnExactLogFrom.j0 kq a0 a1 l2 t631 t633 t643 x48_9 t624 t625 t628 t636 t637 t640 = some r) ∧ Aside0 (kq ≤ k) ∧ Aside0 (Kd.R k82 82 wc w.heap.size (fun _ => True) (.slice Ao19 t633.length co19) t633) ∧ Aside0 (Kd.R (Kd.int .u16) 42 wc w.heap.size (fun k_ => some k_ ≠ ((.slice Ao24 t637.length co24) : Value).ownBlock) (.slice Ao16 t625.length co16) t625) ∧ Aside0 (Kd.R (Kd.int .i16) 71 wc w.heap.size (fun k_ => some k_ ≠ ((.slice Ao25 t640.length co25) : Value).ownBlock) (.slice Ao17 t628.length co17) t628) ∧ Aside0 (Kd.R (Kd.int .u16) 42 wc w.heap.size (fun k_ => some k_ ≠ ((.slice Ao16 t625.length co16) : Value).ownBlock) (.slice Ao24 t637.length co24) t637) ∧ Aside0 (Kd.R (Kd.int .i16) 71 wc w.heap.size (fun k_ => some k_ ≠ ((.slice Ao17 t628.length co17) : Value).ownBlock) (.slice Ao25 t640.length co25) t640) ∧ Aside0 (wc.heap[gb632]? = some (.cells #[.int .i64 t624, (.slice Ao16 t625.length co16), (.slice Ao17 t628.length co17)] 31 (0, 0))) ∧ Aside0 (wc.heap[gb644]? = some (.cells #[.int .i64 t636, (.slice Ao24 t637.length co24), (.slice Ao25 t640.length co25)] 31 (0, 0))) ∧ Aside0 (Below w.heap.size w wc))
    case first =>
      have H := HC10.out
      clear HC10
      replace H := Option.bind_eq_some_iff.mp H
      obtain ⟨t645, A260, H⟩ := H
      replace H : (if t645 = true then (laws_FnExactLogFrom.j0 k a0 a1 l2 t631 t633 t643 (t643 != t631) t624 t625 t628 t636 t637 t640) else (laws_FnExactLogFrom.j0 k a0 a1 l2 t631 t633 t643 true t624 t625 t628 t636 t637 t640)) = some r := H
      have A26 := Aside0.mk A260
      clear A260
      by_cases c27 : t645 = true
      · subst c27
        have H1 : (laws_FnExactLogFrom.j0 k a0 a1 l2 t631 t633 t643 (t643 != t631) t624 t625 t628 t636 t637 t640) = some r := by rw [if_pos rfl] at H; exact H
        clear H
        have H := H1
        clear H1
        have H' := Aside0.mk H
        clear H
        have hnb28 := NB644_632.out
        have hnc28 := NB632_644.out
        have hcz29_0 : w21.cell? ⟨gb644, 0, none⟩ = some (.int .i64 0) := (blk_cell BK644.out 0).trans rfl
        have hcz29_1 : w21.cell? ⟨gb644, 1, none⟩ = some (.slice none 0 0) := (blk_cell BK644.out 1).trans rfl
        have hcz29_2 : w21.cell? ⟨gb644, 2, none⟩ = some (.slice none 0 0) := (blk_cell BK644.out 2).trans rfl
        have hfz29_0 := blk_frozen BK644.out 0
        have hfz29_1 := blk_frozen BK644.out 1
        have hfz29_2 := blk_frozen BK644.out 2
        have hcz30_0 : w21.cell? ⟨gb632, 0, none⟩ = some (.int .i64 t624) := (blk_cell BK632.out 0).trans rfl
        have hcz30_1 : w21.cell? ⟨gb632, 1, none⟩ = some (.slice Ao16 t625.length co16) := (blk_cell BK632.out 1).trans rfl
        have hcz30_2 : w21.cell? ⟨gb632, 2, none⟩ = some (.slice Ao17 t628.length co17) := (blk_cell BK632.out 2).trans rfl
        have hfz30_0 := blk_frozen BK632.out 0
        have hfz30_1 := blk_frozen BK632.out 1
        have hfz30_2 := blk_frozen BK632.out 2
        go_wp2_with (first | ((with_reducible refine gate_callee (f := 17) rfl ?_); refine goesL_ (some 42) rfl rfl Try.func17 (by kernel_rfl) rfl #[.agg #[.int .i64 t636, .slice Ao24 t637.length co24, .slice Ao25 t640.length co25], .agg #[.int .i64 t624, .slice Ao16 t625.length co16, .slice Ao17 t628.length co17]] rfl (by (try simp only [List.map_toArray, List.map_cons, List.map_nil]); first | done | rfl | (simp only [List.length_drop, List.length_take]; rfl)) ?_; (with_reducible refine (laws_eqLog.calls k t636 _ _ t637 _ _ t640 t624 _ _ t625 _ _ t628 true _ ?side1 ?side2 ?side3 ?side4 ?side5 ?side6 ?side7 ?side8 A26.out).mono ?_); (case side1 => refine (Kd.R_reads' (e := 42) (base := w.heap.size) (ok := fun k_ => (True ∧ some k_ ≠ (.slice Ao16 t625.length co16 : Value).ownBlock)) (n := t637.length) (c := co24) ?_).2.2; exact (by (with_reducible repeat (first | apply Kd.R_alloc | apply Kd.R_drewN | apply Kd.R_drew)); exact (Kd.R_mono (Kd.R_far (p := ⟨gb644, 2, none⟩) (Kd.R_far (p := ⟨gb644, 1, none⟩) (Kd.R_far (p := ⟨gb644, 0, none⟩) (Kd.R_types HO639.out BK644.out (by decide)) (fun _ hk => hk.2) (.int .i64 t636)) (fun _ hk => hk.2) (.slice Ao24 t637.length co24)) (fun _ hk => hk.2) (.slice Ao25 t640.length co25)) (fun _ h_ => h_.1)))); (case side2 => exact (Kd.R_reads' HO639.out).2.1); (case side3 => refine (Kd.R_reads' (e := 71) (base := w.heap.size) (ok := fun k_ => (True ∧ some k_ ≠ (.slice Ao17 t628.length co17 : Value).ownBlock)) (n := t640.length) (c := co25) ?_).2.2; exact (by (with_reducible repeat (first | apply Kd.R_alloc | apply Kd.R_drewN | apply Kd.R_drew)); exact (Kd.R_mono (Kd.R_far (p := ⟨gb644, 2, none⟩) (Kd.R_far (p := ⟨gb644, 1, none⟩) (Kd.R_far (p := ⟨gb644, 0, none⟩) (Kd.R_types HO642.out BK644.out (by decide)) (fun _ hk => hk.2) (.int .i64 t636)) (fun _ hk => hk.2) (.slice Ao24 t637.length co24)) (fun _ hk => hk.2) (.slice Ao25 t640.length co25)) (fun _ h_ => h_.1)))); (case side4 => exact (Kd.R_reads' HO642.out).2.1); (case side5 => refine (Kd.R_reads' (e := 42) (base := w.heap.size) (ok := fun k_ => (True ∧ some k_ ≠ (.slice Ao24 t637.length co24 : Value).ownBlock)) (n := t625.length) (c := co16) ?_).2.2; exact (by (with_reducible repeat (first | apply Kd.R_alloc | apply Kd.R_drewN | apply Kd.R_drew)); exact (Kd.R_mono (Kd.R_far (p := ⟨gb644, 2, none⟩) (Kd.R_far (p := ⟨gb644, 1, none⟩) (Kd.R_far (p := ⟨gb644, 0, none⟩) (Kd.R_types HO627.out BK644.out (by decide)) (fun _ hk => hk.2) (.int .i64 t636)) (fun _ hk => hk.2) (.slice Ao24 t637.length co24)) (fun _ hk => hk.2) (.slice Ao25 t640.length co25)) (fun _ h_ => h_.1)))); (case side6 => exact (Kd.R_reads' HO627.out).2.1); (case side7 => refine (Kd.R_reads' (e := 71) (base := w.heap.size) (ok := fun k_ => (True ∧ some k_ ≠ (.slice Ao25 t640.length co25 : Value).ownBlock)) (n := t628.length) (c := co17) ?_).2.2; exact (by (with_reducible repeat (first | apply Kd.R_alloc | apply Kd.R_drewN | apply Kd.R_drew)); exact (Kd.R_mono (Kd.R_far (p := ⟨gb644, 2, none⟩) (Kd.R_far (p := ⟨gb644, 1, none⟩) (Kd.R_far (p := ⟨gb644, 0, none⟩) (Kd.R_types HO630.out BK644.out (by decide)) (fun _ hk => hk.2) (.int .i64 t636)) (fun _ hk => hk.2) (.slice Ao24 t637.length co24)) (fun _ hk => hk.2) (.slice Ao25 t640.length co25)) (fun _ h_ => h_.1)))); (case side8 => exact (Kd.R_reads' HO630.out).2.1); rintro e w31 ⟨rfl, hb⟩; refine ⟨_, rfl, ?_⟩; have n0_ := Aside0.mk (Kd.R_below (by (with_reducible repeat (first | apply Kd.R_alloc | apply Kd.R_drewN | apply Kd.R_drew)); exact (Kd.R_mono (Kd.R_far (p := ⟨gb644, 2, none⟩) (Kd.R_far (p := ⟨gb644, 1, none⟩) (Kd.R_far (p := ⟨gb644, 0, none⟩) (Kd.R_types HO623.out BK644.out (by decide)) (fun _ hk => hk.2) (.int .i64 t636)) (fun _ hk => hk.2) (.slice Ao24 t637.length co24)) (fun _ hk => hk.2) (.slice Ao25 t640.length co25)) (fun _ h_ => h_.1))) hb); have n1_ := Aside0.mk (Kd.R_below (by (with_reducible repeat (first | apply Kd.R_alloc | apply Kd.R_drewN | apply Kd.R_drew)); exact (Kd.R_mono (Kd.R_far (p := ⟨gb644, 2, none⟩) (Kd.R_far (p := ⟨gb644, 1, none⟩) (Kd.R_far (p := ⟨gb644, 0, none⟩) (Kd.R_types HO627.out BK644.out (by decide)) (fun _ hk => hk.2) (.int .i64 t636)) (fun _ hk => hk.2) (.slice Ao24 t637.length co24)) (fun _ hk => hk.2) (.slice Ao25 t640.length co25)) (fun _ h_ => h_.1))) hb); have n2_ := Aside0.mk (Kd.R_below (by (with_reducible repeat (first | apply Kd.R_alloc | apply Kd.R_drewN | apply Kd.R_drew)); exact (Kd.R_mono (Kd.R_far (p := ⟨gb644, 2, none⟩) (Kd.R_far (p := ⟨gb644, 1, none⟩) (Kd.R_far (p := ⟨gb644, 0, none⟩) (Kd.R_types HO630.out BK644.out (by decide)) (fun _ hk => hk.2) (.int .i64 t636)) (fun _ hk => hk.2) (.slice Ao24 t637.length co24)) (fun _ hk => hk.2) (.slice Ao25 t640.length co25)) (fun _ h_ => h_.1))) hb); have n3_ := Aside0.mk (Kd.R_below (by (with_reducible repeat (first | apply Kd.R_alloc | apply Kd.R_drewN | apply Kd.R_drew)); exact (Kd.R_mono (Kd.R_far (p := ⟨gb644, 2, none⟩) (Kd.R_far (p := ⟨gb644, 1, none⟩) (Kd.R_far (p := ⟨gb644, 0, none⟩) (Kd.R_types HO635.out BK644.out (by decide)) (fun _ hk => hk.2) (.int .i64 t636)) (fun _ hk => hk.2) (.slice Ao24 t637.length co24)) (fun _ hk => hk.2) (.slice Ao25 t640.length co25)) (fun _ h_ => h_.1))) hb); have n4_ := Aside0.mk (Kd.R_below (by (with_reducible repeat (first | apply Kd.R_alloc | apply Kd.R_drewN | apply Kd.R_drew)); exact (Kd.R_mono (Kd.R_far (p := ⟨gb644, 2, none⟩) (Kd.R_far (p := ⟨gb644, 1, none⟩) (Kd.R_far (p := ⟨gb644, 0, none⟩) (Kd.R_types HO639.out BK644.out (by decide)) (fun _ hk => hk.2) (.int .i64 t636)) (fun _ hk => hk.2) (.slice Ao24 t637.length co24)) (fun _ hk => hk.2) (.slice Ao25 t640.length co25)) (fun _ h_ => h_.1))) hb); have n5_ := Aside0.mk (Kd.R_below (by (with_reducible repeat (first | apply Kd.R_alloc | apply Kd.R_drewN | apply Kd.R_drew)); exact (Kd.R_mono (Kd.R_far (p := ⟨gb644, 2, none⟩) (Kd.R_far (p := ⟨gb644, 1, none⟩) (Kd.R_far (p := ⟨gb644, 0, none⟩) (Kd.R_types HO642.out BK644.out (by decide)) (fun _ hk => hk.2) (.int .i64 t636)) (fun _ hk => hk.2) (.slice Ao24 t637.length co24)) (fun _ hk => hk.2) (.slice Ao25 t640.length co25)) (fun _ h_ => h_.1))) hb); have n6_ := Aside0.mk (blk_below (g := gb632) (o := .cells #[.int .i64 t624, .slice Ao16 t625.length co16, .slice Ao17 t628.length co17] 31 (0, 0)) (by (with_reducible repeat (first | refine blk_drewN ?_ _ | refine blk_drew ?_ | refine blk_alloc ?_ _)); refine blk_far ?_ NB632_644.out _; (with_reducible repeat (first | refine blk_drewN ?_ _ | refine blk_drew ?_ | refine blk_alloc ?_ _)); refine blk_far ?_ NB632_644.out _; (with_reducible repeat (first | refine blk_drewN ?_ _ | refine blk_drew ?_ | refine blk_alloc ?_ _)); refine blk_far ?_ NB632_644.out _; (with_reducible repeat (first | refine blk_drewN ?_ _ | refine blk_drew ?_ | refine blk_alloc ?_ _)); exact BK632.out) hb); have n7_ := Aside0.mk (blk_below (g := gb644) (o := .cells #[.int .i64 t636, .slice Ao24 t637.length co24, .slice Ao25 t640.length co25] 31 (0, 0)) (by (with_reducible repeat (first | refine blk_drewN ?_ _ | refine blk_drew ?_ | refine blk_alloc ?_ _)); refine blk_put (cs := #[.int .i64 t636, .slice Ao24 t637.length co24, .slice none 0 0]) ?_ 2 _ rfl; (with_reducible repeat (first | refine blk_drewN ?_ _ | refine blk_drew ?_ | refine blk_alloc ?_ _)); refine blk_put (cs := #[.int .i64 t636, .slice none 0 0, .slice none 0 0]) ?_ 1 _ rfl; (with_reducible repeat (first | refine blk_drewN ?_ _ | refine blk_drew ?_ | refine blk_alloc ?_ _)); refine blk_put (cs := #[.int .i64 0, .slice none 0 0, .slice none 0 0]) ?_ 0 _ rfl; (with_reducible repeat (first | refine blk_drewN ?_ _ | refine blk_drew ?_ | refine blk_alloc ?_ _)); exact BK644.out) hb); have n8_ := Aside0.mk (below_step (by repeat (first | (with_reducible first | exact HB.out | apply below_alloc | apply pw_below_drewN | apply below_drew1 | refine below_set ?_ GE632.out | refine below_set ?_ GE644.out) | exact HB.out)) hb); clear HO623; clear HO627; clear HO630; clear HO635; clear HO639; clear HO642; clear BK632; clear BK644; clear HB; have HO623 := n0_; have HO627 := n1_; have HO630 := n2_; have HO635 := n3_; have HO639 := n4_; have HO642 := n5_; have BK632 := n6_; have BK644 := n7_; have HB := n8_; clear n0_ n1_ n2_ n3_ n4_ n5_ n6_ n7_ n8_; (try clear hb); (try clear hb2); (try clear hk); (try clear hi)))
        go_meet
        case rel => exact ⟨_, ((t643 != t631)), (by first | rfl | (simp; done) | (simp [*]; done)), H', ⟨by first | omega | exact Nat.le_refl _⟩, ⟨by (with_reducible repeat (first | apply Kd.R_alloc | apply Kd.R_drewN | apply Kd.R_drew)); exact Kd.R_mono HO635.out (fun _ hk => trivial)⟩, ⟨by (with_reducible repeat (first | apply Kd.R_alloc | apply Kd.R_drewN | apply Kd.R_drew)); exact Kd.R_mono HO627.out (fun _ hk => hk.2)⟩, ⟨by (with_reducible repeat (first | apply Kd.R_alloc | apply Kd.R_drewN | apply Kd.R_drew)); exact Kd.R_mono HO630.out (fun _ hk => hk.2)⟩, ⟨by (with_reducible repeat (first | apply Kd.R_alloc | apply Kd.R_drewN | apply Kd.R_drew)); exact Kd.R_mono HO639.out (fun _ hk => hk.2)⟩, ⟨by (with_reducible repeat (first | apply Kd.R_alloc | apply Kd.R_drewN | apply Kd.R_drew)); exact Kd.R_mono HO642.out (fun _ hk => hk.2)⟩, ⟨by (with_reducible repeat (first | refine blk_drewN ?_ _ | refine blk_drew ?_ | refine blk_alloc ?_ _)); exact BK632.out⟩, ⟨by (with_reducible repeat (first | refine blk_drewN ?_ _ | refine blk_drew ?_ | refine blk_alloc ?_ _)); exact BK644.out⟩, ⟨by repeat (first | (with_reducible first | exact HB.out | apply below_alloc | apply pw_below_drewN | apply below_drew1 | refine below_set ?_ GE632.out | refine below_set ?_ GE644.out) | exact HB.out)⟩⟩
      · replace c27 := Bool.eq_false_iff.mpr c27
        subst c27
        have H1 : (laws_FnExactLogFrom.j0 k a0 a1 l2 t631 t633 t643 true t624 t625 t628 t636 t637 t640) = some r := by rw [if_neg (show ¬ (false = true) by decide)] at H; exact H
        clear H
        have H := H1
        clear H1
        have H' := Aside0.mk H
        clear H
        have hnb32 := NB644_632.out
        have hnc32 := NB632_644.out
        have hcz33_0 : w21.cell? ⟨gb644, 0, none⟩ = some (.int .i64 0) := (blk_cell BK644.out 0).trans rfl
        have hcz33_1 : w21.cell? ⟨gb644, 1, none⟩ = some (.slice none 0 0) := (blk_cell BK644.out 1).trans rfl
        have hcz33_2 : w21.cell? ⟨gb644, 2, none⟩ = some (.slice none 0 0) := (blk_cell BK644.out 2).trans rfl
        have hfz33_0 := blk_frozen BK644.out 0
        have hfz33_1 := blk_frozen BK644.out 1
        have hfz33_2 := blk_frozen BK644.out 2
        have hcz34_0 : w21.cell? ⟨gb632, 0, none⟩ = some (.int .i64 t624) := (blk_cell BK632.out 0).trans rfl
        have hcz34_1 : w21.cell? ⟨gb632, 1, none⟩ = some (.slice Ao16 t625.length co16) := (blk_cell BK632.out 1).trans rfl
        have hcz34_2 : w21.cell? ⟨gb632, 2, none⟩ = some (.slice Ao17 t628.length co17) := (blk_cell BK632.out 2).trans rfl
        have hfz34_0 := blk_frozen BK632.out 0
        have hfz34_1 := blk_frozen BK632.out 1
        have hfz34_2 := blk_frozen BK632.out 2
        go_wp2_with (first | ((with_reducible refine gate_callee (f := 17) rfl ?_); refine goesL_ (some 42) rfl rfl Try.func17 (by kernel_rfl) rfl #[.agg #[.int .i64 t636, .slice Ao24 t637.length co24, .slice Ao25 t640.length co25], .agg #[.int .i64 t624, .slice Ao16 t625.length co16, .slice Ao17 t628.length co17]] rfl (by (try simp only [List.map_toArray, List.map_cons, List.map_nil]); first | done | rfl | (simp only [List.length_drop, List.length_take]; rfl)) ?_; (with_reducible refine (laws_eqLog.calls k t636 _ _ t637 _ _ t640 t624 _ _ t625 _ _ t628 false _ ?side1 ?side2 ?side3 ?side4 ?side5 ?side6 ?side7 ?side8 A26.out).mono ?_); (case side1 => refine (Kd.R_reads' (e := 42) (base := w.heap.size) (ok := fun k_ => (True ∧ some k_ ≠ (.slice Ao16 t625.length co16 : Value).ownBlock)) (n := t637.length) (c := co24) ?_).2.2; exact (by (with_reducible repeat (first | apply Kd.R_alloc | apply Kd.R_drewN | apply Kd.R_drew)); exact (Kd.R_mono (Kd.R_far (p := ⟨gb644, 2, none⟩) (Kd.R_far (p := ⟨gb644, 1, none⟩) (Kd.R_far (p := ⟨gb644, 0, none⟩) (Kd.R_types HO639.out BK644.out (by decide)) (fun _ hk => hk.2) (.int .i64 t636)) (fun _ hk => hk.2) (.slice Ao24 t637.length co24)) (fun _ hk => hk.2) (.slice Ao25 t640.length co25)) (fun _ h_ => h_.1)))); (case side2 => exact (Kd.R_reads' HO639.out).2.1); (case side3 => refine (Kd.R_reads' (e := 71) (base := w.heap.size) (ok := fun k_ => (True ∧ some k_ ≠ (.slice Ao17 t628.length co17 : Value).ownBlock)) (n := t640.length) (c := co25) ?_).2.2; exact (by (with_reducible repeat (first | apply Kd.R_alloc | apply Kd.R_drewN | apply Kd.R_drew)); exact (Kd.R_mono (Kd.R_far (p := ⟨gb644, 2, none⟩) (Kd.R_far (p := ⟨gb644, 1, none⟩) (Kd.R_far (p := ⟨gb644, 0, none⟩) (Kd.R_types HO642.out BK644.out (by decide)) (fun _ hk => hk.2) (.int .i64 t636)) (fun _ hk => hk.2) (.slice Ao24 t637.length co24)) (fun _ hk => hk.2) (.slice Ao25 t640.length co25)) (fun _ h_ => h_.1)))); (case side4 => exact (Kd.R_reads' HO642.out).2.1); (case side5 => refine (Kd.R_reads' (e := 42) (base := w.heap.size) (ok := fun k_ => (True ∧ some k_ ≠ (.slice Ao24 t637.length co24 : Value).ownBlock)) (n := t625.length) (c := co16) ?_).2.2; exact (by (with_reducible repeat (first | apply Kd.R_alloc | apply Kd.R_drewN | apply Kd.R_drew)); exact (Kd.R_mono (Kd.R_far (p := ⟨gb644, 2, none⟩) (Kd.R_far (p := ⟨gb644, 1, none⟩) (Kd.R_far (p := ⟨gb644, 0, none⟩) (Kd.R_types HO627.out BK644.out (by decide)) (fun _ hk => hk.2) (.int .i64 t636)) (fun _ hk => hk.2) (.slice Ao24 t637.length co24)) (fun _ hk => hk.2) (.slice Ao25 t640.length co25)) (fun _ h_ => h_.1)))); (case side6 => exact (Kd.R_reads' HO627.out).2.1); (case side7 => refine (Kd.R_reads' (e := 71) (base := w.heap.size) (ok := fun k_ => (True ∧ some k_ ≠ (.slice Ao25 t640.length co25 : Value).ownBlock)) (n := t628.length) (c := co17) ?_).2.2; exact (by (with_reducible repeat (first | apply Kd.R_alloc | apply Kd.R_drewN | apply Kd.R_drew)); exact (Kd.R_mono (Kd.R_far (p := ⟨gb644, 2, none⟩) (Kd.R_far (p := ⟨gb644, 1, none⟩) (Kd.R_far (p := ⟨gb644, 0, none⟩) (Kd.R_types HO630.out BK644.out (by decide)) (fun _ hk => hk.2) (.int .i64 t636)) (fun _ hk => hk.2) (.slice Ao24 t637.length co24)) (fun _ hk => hk.2) (.slice Ao25 t640.length co25)) (fun _ h_ => h_.1)))); (case side8 => exact (Kd.R_reads' HO630.out).2.1); rintro e w35 ⟨rfl, hb⟩; refine ⟨_, rfl, ?_⟩; have n0_ := Aside0.mk (Kd.R_below (by (with_reducible repeat (first | apply Kd.R_alloc | apply Kd.R_drewN | apply Kd.R_drew)); exact (Kd.R_mono (Kd.R_far (p := ⟨gb644, 2, none⟩) (Kd.R_far (p := ⟨gb644, 1, none⟩) (Kd.R_far (p := ⟨gb644, 0, none⟩) (Kd.R_types HO623.out BK644.out (by decide)) (fun _ hk => hk.2) (.int .i64 t636)) (fun _ hk => hk.2) (.slice Ao24 t637.length co24)) (fun _ hk => hk.2) (.slice Ao25 t640.length co25)) (fun _ h_ => h_.1))) hb); have n1_ := Aside0.mk (Kd.R_below (by (with_reducible repeat (first | apply Kd.R_alloc | apply Kd.R_drewN | apply Kd.R_drew)); exact (Kd.R_mono (Kd.R_far (p := ⟨gb644, 2, none⟩) (Kd.R_far (p := ⟨gb644, 1, none⟩) (Kd.R_far (p := ⟨gb644, 0, none⟩) (Kd.R_types HO627.out BK644.out (by decide)) (fun _ hk => hk.2) (.int .i64 t636)) (fun _ hk => hk.2) (.slice Ao24 t637.length co24)) (fun _ hk => hk.2) (.slice Ao25 t640.length co25)) (fun _ h_ => h_.1))) hb); have n2_ := Aside0.mk (Kd.R_below (by (with_reducible repeat (first | apply Kd.R_alloc | apply Kd.R_drewN | apply Kd.R_drew)); exact (Kd.R_mono (Kd.R_far (p := ⟨gb644, 2, none⟩) (Kd.R_far (p := ⟨gb644, 1, none⟩) (Kd.R_far (p := ⟨gb644, 0, none⟩) (Kd.R_types HO630.out BK644.out (by decide)) (fun _ hk => hk.2) (.int .i64 t636)) (fun _ hk => hk.2) (.slice Ao24 t637.length co24)) (fun _ hk => hk.2) (.slice Ao25 t640.length co25)) (fun _ h_ => h_.1))) hb); have n3_ := Aside0.mk (Kd.R_below (by (with_reducible repeat (first | apply Kd.R_alloc | apply Kd.R_drewN | apply Kd.R_drew)); exact (Kd.R_mono (Kd.R_far (p := ⟨gb644, 2, none⟩) (Kd.R_far (p := ⟨gb644, 1, none⟩) (Kd.R_far (p := ⟨gb644, 0, none⟩) (Kd.R_types HO635.out BK644.out (by decide)) (fun _ hk => hk.2) (.int .i64 t636)) (fun _ hk => hk.2) (.slice Ao24 t637.length co24)) (fun _ hk => hk.2) (.slice Ao25 t640.length co25)) (fun _ h_ => h_.1))) hb); have n4_ := Aside0.mk (Kd.R_below (by (with_reducible repeat (first | apply Kd.R_alloc | apply Kd.R_drewN | apply Kd.R_drew)); exact (Kd.R_mono (Kd.R_far (p := ⟨gb644, 2, none⟩) (Kd.R_far (p := ⟨gb644, 1, none⟩) (Kd.R_far (p := ⟨gb644, 0, none⟩) (Kd.R_types HO639.out BK644.out (by decide)) (fun _ hk => hk.2) (.int .i64 t636)) (fun _ hk => hk.2) (.slice Ao24 t637.length co24)) (fun _ hk => hk.2) (.slice Ao25 t640.length co25)) (fun _ h_ => h_.1))) hb); have n5_ := Aside0.mk (Kd.R_below (by (with_reducible repeat (first | apply Kd.R_alloc | apply Kd.R_drewN | apply Kd.R_drew)); exact (Kd.R_mono (Kd.R_far (p := ⟨gb644, 2, none⟩) (Kd.R_far (p := ⟨gb644, 1, none⟩) (Kd.R_far (p := ⟨gb644, 0, none⟩) (Kd.R_types HO642.out BK644.out (by decide)) (fun _ hk => hk.2) (.int .i64 t636)) (fun _ hk => hk.2) (.slice Ao24 t637.length co24)) (fun _ hk => hk.2) (.slice Ao25 t640.length co25)) (fun _ h_ => h_.1))) hb); have n6_ := Aside0.mk (blk_below (g := gb632) (o := .cells #[.int .i64 t624, .slice Ao16 t625.length co16, .slice Ao17 t628.length co17] 31 (0, 0)) (by (with_reducible repeat (first | refine blk_drewN ?_ _ | refine blk_drew ?_ | refine blk_alloc ?_ _)); refine blk_far ?_ NB632_644.out _; (with_reducible repeat (first | refine blk_drewN ?_ _ | refine blk_drew ?_ | refine blk_alloc ?_ _)); refine blk_far ?_ NB632_644.out _; (with_reducible repeat (first | refine blk_drewN ?_ _ | refine blk_drew ?_ | refine blk_alloc ?_ _)); refine blk_far ?_ NB632_644.out _; (with_reducible repeat (first | refine blk_drewN ?_ _ | refine blk_drew ?_ | refine blk_alloc ?_ _)); exact BK632.out) hb); have n7_ := Aside0.mk (blk_below (g := gb644) (o := .cells #[.int .i64 t636, .slice Ao24 t637.length co24, .slice Ao25 t640.length co25] 31 (0, 0)) (by (with_reducible repeat (first | refine blk_drewN ?_ _ | refine blk_drew ?_ | refine blk_alloc ?_ _)); refine blk_put (cs := #[.int .i64 t636, .slice Ao24 t637.length co24, .slice none 0 0]) ?_ 2 _ rfl; (with_reducible repeat (first | refine blk_drewN ?_ _ | refine blk_drew ?_ | refine blk_alloc ?_ _)); refine blk_put (cs := #[.int .i64 t636, .slice none 0 0, .slice none 0 0]) ?_ 1 _ rfl; (with_reducible repeat (first | refine blk_drewN ?_ _ | refine blk_drew ?_ | refine blk_alloc ?_ _)); refine blk_put (cs := #[.int .i64 0, .slice none 0 0, .slice none 0 0]) ?_ 0 _ rfl; (with_reducible repeat (first | refine blk_drewN ?_ _ | refine blk_drew ?_ | refine blk_alloc ?_ _)); exact BK644.out) hb); have n8_ := Aside0.mk (below_step (by repeat (first | (with_reducible first | exact HB.out | apply below_alloc | apply pw_below_drewN | apply below_drew1 | refine below_set ?_ GE632.out | refine below_set ?_ GE644.out) | exact HB.out)) hb); clear HO623; clear HO627; clear HO630; clear HO635; clear HO639; clear HO642; clear BK632; clear BK644; clear HB; have HO623 := n0_; have HO627 := n1_; have HO630 := n2_; have HO635 := n3_; have HO639 := n4_; have HO642 := n5_; have BK632 := n6_; have BK644 := n7_; have HB := n8_; clear n0_ n1_ n2_ n3_ n4_ n5_ n6_ n7_ n8_; (try clear hb); (try clear hb2); (try clear hk); (try clear hi)))
        go_meet
        case rel => exact ⟨_, (true), (by first | rfl | (simp; done) | (simp [*]; done)), H', ⟨by first | omega | exact Nat.le_refl _⟩, ⟨by (with_reducible repeat (first | apply Kd.R_alloc | apply Kd.R_drewN | apply Kd.R_drew)); exact Kd.R_mono HO635.out (fun _ hk => trivial)⟩, ⟨by (with_reducible repeat (first | apply Kd.R_alloc | apply Kd.R_drewN | apply Kd.R_drew)); exact Kd.R_mono HO627.out (fun _ hk => hk.2)⟩, ⟨by (with_reducible repeat (first | apply Kd.R_alloc | apply Kd.R_drewN | apply Kd.R_drew)); exact Kd.R_mono HO630.out (fun _ hk => hk.2)⟩, ⟨by (with_reducible repeat (first | apply Kd.R_alloc | apply Kd.R_drewN | apply Kd.R_drew)); exact Kd.R_mono HO639.out (fun _ hk => hk.2)⟩, ⟨by (with_reducible repeat (first | apply Kd.R_alloc | apply Kd.R_drewN | apply Kd.R_drew)); exact Kd.R_mono HO642.out (fun _ hk => hk.2)⟩, ⟨by (with_reducible repeat (first | refine blk_drewN ?_ _ | refine blk_drew ?_ | refine blk_alloc ?_ _)); exact BK632.out⟩, ⟨by (with_reducible repeat (first | refine blk_drewN ?_ _ | refine blk_drew ?_ | refine blk_alloc ?_ _)); exact BK644.out⟩, ⟨by repeat (first | (with_reducible first | exact HB.out | apply below_alloc | apply pw_below_drewN | apply below_drew1 | refine below_set ?_ GE632.out | refine below_set ?_ GE644.out) | exact HB.out)⟩⟩
    case rest =>
      clear HC10
      try clear c1
      try clear c2
      try clear p2
      try clear c3
      try clear c4
      try clear c5
      try clear c5b0
      try clear c8
      try clear c17
      try clear c22
      try clear c27
      try clear c28
      try clear c32
      try clear c34
      try clear hcz15_0
      try clear hcz15_1
      try clear hcz15_2
      try clear hcz23_0
      try clear hcz23_1
      try clear hcz23_2
      try clear hcz29_0
      try clear hcz29_1
      try clear hcz29_2
      try clear hcz30_0
      try clear hcz30_1
      try clear hcz30_2
      try clear hcz33_0
      try clear hcz33_1
      try clear hcz33_2
      try clear hcz34_0
      try clear hcz34_1
      try clear hcz34_2
      try clear hfz15_0
      try clear hfz15_1
      try clear hfz15_2
      try clear hfz23_0
      try clear hfz23_1
      try clear hfz23_2
      try clear hfz29_0
      try clear hfz29_1
      try clear hfz29_2
      try clear hfz30_0
      try clear hfz30_1
      try clear hfz30_2
      try clear hfz33_0
      try clear hfz33_1
      try clear hfz33_2
      try clear hfz34_0
      try clear hfz34_1
      try clear hfz34_2
      obtain ⟨kq, x48_9, rfl, HA, HJ9, HO_10, HO_633001, HO_633002, HO_645001, HO_645002, BK632, BK644, HB⟩ := hcut
      cases kq with
      | zero => exact absurd HA.out (by simp [laws_FnExactLogFrom.j0])
      | succ kj9 =>
        have H := HA.out
        clear HA
        simp only [laws_FnExactLogFrom.j0] at H
        by_cases c36 : x48_9 = true
        · subst c36
          have H1 : (some false) = some r := by rw [if_pos rfl] at H; exact H
          clear H
          have H := H1
          clear H1
          exact absurd ((Option.some.inj H).trans HT.out) (by decide)
        · replace c36 := Bool.eq_false_iff.mpr c36
          subst c36
          have H1 : ((laws_toRecordS.f kj9 l2).bind fun t646 => ((laws_eqRecordS.f kj9 t633 t646).bind fun t649 => (if t649 = true then ((laws_markRecordS.f kj9 t633 1).bind fun bt650 => (if bt650.1 < 0 then (laws_FnExactLogFrom.j1 kj9 a0 a1 l2 t631 true t624 t625 t628 t636 t637 t640) else ((laws_eqLog.f kj9 t636 t637 t640 t624 t625 t628).bind fun t652 => (if t652 = true then (laws_FnExactLogFrom.j1 kj9 a0 a1 l2 t631 (t643 != t631) t624 t625 t628 t636 t637 t640) else (laws_FnExactLogFrom.j1 kj9 a0 a1 l2 t631 true t624 t625 t628 t636 t637 t640))))) else (some false)))) = some r := by rw [if_neg (show ¬ (false = true) by decide)] at H; exact H
          clear H
          have H := H1
          clear H1
          replace H := Option.bind_eq_some_iff.mp H
          obtain ⟨t646, A370, H⟩ := H
          replace H : ((laws_eqRecordS.f kj9 t633 t646).bind fun t649 => (if t649 = true then ((laws_markRecordS.f kj9 t633 1).bind fun bt650 => (if bt650.1 < 0 then (laws_FnExactLogFrom.j1 kj9 a0 a1 l2 t631 true t624 t625 t628 t636 t637 t640) else ((laws_eqLog.f kj9 t636 t637 t640 t624 t625 t628).bind fun t652 => (if t652 = true then (laws_FnExactLogFrom.j1 kj9 a0 a1 l2 t631 (t643 != t631) t624 t625 t628 t636 t637 t640) else (laws_FnExactLogFrom.j1 kj9 a0 a1 l2 t631 true t624 t625 t628 t636 t637 t640))))) else (some false))) = some r := H
          have A37 := Aside0.mk A370
          clear A370
          replace H := Option.bind_eq_some_iff.mp H
          obtain ⟨t649, A380, H⟩ := H
          replace H : (if t649 = true then ((laws_markRecordS.f kj9 t633 1).bind fun bt650 => (if bt650.1 < 0 then (laws_FnExactLogFrom.j1 kj9 a0 a1 l2 t631 true t624 t625 t628 t636 t637 t640) else ((laws_eqLog.f kj9 t636 t637 t640 t624 t625 t628).bind fun t652 => (if t652 = true then (laws_FnExactLogFrom.j1 kj9 a0 a1 l2 t631 (t643 != t631) t624 t625 t628 t636 t637 t640) else (laws_FnExactLogFrom.j1 kj9 a0 a1 l2 t631 true t624 t625 t628 t636 t637 t640))))) else (some false)) = some r := H
          have A38 := Aside0.mk A380
          clear A380
          by_cases c39 : t649 = true
          · subst c39
            have H1 : ((laws_markRecordS.f kj9 t633 1).bind fun bt650 => (if bt650.1 < 0 then (laws_FnExactLogFrom.j1 kj9 a0 a1 l2 t631 true t624 t625 t628 t636 t637 t640) else ((laws_eqLog.f kj9 t636 t637 t640 t624 t625 t628).bind fun t652 => (if t652 = true then (laws_FnExactLogFrom.j1 kj9 a0 a1 l2 t631 (t643 != t631) t624 t625 t628 t636 t637 t640) else (laws_FnExactLogFrom.j1 kj9 a0 a1 l2 t631 true t624 t625 t628 t636 t637 t640))))) = some r := by rw [if_pos rfl] at H; exact H
            clear H
            have H := H1
            clear H1
            replace H := Option.bind_eq_some_iff.mp H
            obtain ⟨⟨t650, t651⟩, A400, H⟩ := H
            replace H : (if t650 < 0 then (laws_FnExactLogFrom.j1 kj9 a0 a1 l2 t631 true t624 t625 t628 t636 t637 t640) else ((laws_eqLog.f kj9 t636 t637 t640 t624 t625 t628).bind fun t652 => (if t652 = true then (laws_FnExactLogFrom.j1 kj9 a0 a1 l2 t631 (t643 != t631) t624 t625 t628 t636 t637 t640) else (laws_FnExactLogFrom.j1 kj9 a0 a1 l2 t631 true t624 t625 t628 t636 t637 t640)))) = some r := H
            have A40 := Aside0.mk A400
            clear A400
            have HC41 := Aside0.mk H
            clear H
            go_upto_region 14 with (first | ((with_reducible refine gate_callee (f := 34) rfl ?_); refine goesL_ (some 51) rfl rfl Try.func34 (by kernel_rfl) rfl #[.slice A2 l2.length c2] rfl (by (try simp only [List.map_toArray, List.map_cons, List.map_nil]); first | done | rfl | (simp only [List.length_drop, List.length_take]; rfl)) ?_; (with_reducible refine (laws_toRecordS.calls kj9 _ _ l2 t646 _ ?side1 ?side2 A37.out).mono ?_); (case side1 => repeat (first | exact (Kd.C_below HR2.out HB.out) | (with_reducible refine Kd.C_alloc ?_ _) | (with_reducible refine Kd.C_drewN ?_ _) | (with_reducible refine Kd.C_drew ?_))); (case side2 => exact HC2.out); rintro e w42 ⟨v647, rfl, ho0, hb⟩; refine ⟨_, rfl, ?_⟩; have n0_ := Aside0.mk (Kd.R_elder' (by (with_reducible repeat (first | apply Kd.R_alloc | apply Kd.R_drewN | apply Kd.R_drew)); exact HO_10.out) (Kd.R_base ho0) hb); have n1_ := Aside0.mk (Kd.R_below (by (with_reducible repeat (first | apply Kd.R_alloc | apply Kd.R_drewN | apply Kd.R_drew)); exact HO_633001.out) hb); have n2_ := Aside0.mk (Kd.R_below (by (with_reducible repeat (first | apply Kd.R_alloc | apply Kd.R_drewN | apply Kd.R_drew)); exact HO_633002.out) hb); have n3_ := Aside0.mk (Kd.R_below (by (with_reducible repeat (first | apply Kd.R_alloc | apply Kd.R_drewN | apply Kd.R_drew)); exact HO_645001.out) hb); have n4_ := Aside0.mk (Kd.R_below (by (with_reducible repeat (first | apply Kd.R_alloc | apply Kd.R_drewN | apply Kd.R_drew)); exact HO_645002.out) hb); have n5_ := Aside0.mk (Kd.R_lower (Kd.R_new' ho0 (Kd.R_lt (by (with_reducible repeat (first | apply Kd.R_alloc | apply Kd.R_drewN | apply Kd.R_drew)); exact HO_10.out))) (below_size (by repeat (first | (with_reducible first | exact HB.out | apply below_alloc | apply pw_below_drewN | apply below_drew1 | refine below_set ?_ GE632.out | refine below_set ?_ GE644.out) | exact HB.out)))); have n6_ := Aside0.mk (blk_below (g := gb632) (o := .cells #[.int .i64 t624, .slice Ao16 t625.length co16, .slice Ao17 t628.length co17] 31 (0, 0)) (by (with_reducible repeat (first | refine blk_drewN ?_ _ | refine blk_drew ?_ | refine blk_alloc ?_ _)); exact BK632.out) hb); have n7_ := Aside0.mk (blk_below (g := gb644) (o := .cells #[.int .i64 t636, .slice Ao24 t637.length co24, .slice Ao25 t640.length co25] 31 (0, 0)) (by (with_reducible repeat (first | refine blk_drewN ?_ _ | refine blk_drew ?_ | refine blk_alloc ?_ _)); exact BK644.out) hb); have n8_ := Aside0.mk (below_step (by repeat (first | (with_reducible first | exact HB.out | apply below_alloc | apply pw_below_drewN | apply below_drew1 | refine below_set ?_ GE632.out | refine below_set ?_ GE644.out) | exact HB.out)) hb); clear HO_10; clear HO_633001; clear HO_633002; clear HO_645001; clear HO_645002; clear BK632; clear BK644; clear HB; have HO_10 := n0_; have HO_633001 := n1_; have HO_633002 := n2_; have HO_645001 := n3_; have HO_645002 := n4_; have HO648 := n5_; have BK632 := n6_; have BK644 := n7_; have HB := n8_; clear n0_ n1_ n2_ n3_ n4_ n5_ n6_ n7_ n8_; (try clear hb); (try clear hb2); (try clear hk); (try clear hi); (try clear ho0); obtain ⟨Ao43, co43, eo43⟩ := Kd.R_slice HO648.out; subst eo43) | ((with_reducible refine gate_callee (f := 36) rfl ?_); refine goesL_ (some 52) rfl rfl Try.func36 (by kernel_rfl) rfl #[.slice Ao19 t633.length co19, .slice Ao43 t646.length co43] rfl (by (try simp only [List.map_toArray, List.map_cons, List.map_nil]); first | done | rfl | (simp only [List.length_drop, List.length_take]; rfl)) ?_; (with_reducible refine (laws_eqRecordS.calls kj9 _ _ t633 _ _ t646 true _ ?side1 ?side2 ?side3 ?side4 A38.out).mono ?_); (case side1 => repeat (first | exact (Kd.R_reads' HO_10.out).2.2 | (with_reducible refine Kd.C_alloc ?_ _) | (with_reducible refine Kd.C_drewN ?_ _) | (with_reducible refine Kd.C_drew ?_))); (case side2 => exact (Kd.R_reads' HO_10.out).2.1); (case side3 => repeat (first | exact (Kd.R_reads' HO648.out).2.2 | (with_reducible refine Kd.C_alloc ?_ _) | (with_reducible refine Kd.C_drewN ?_ _) | (with_reducible refine Kd.C_drew ?_))); (case side4 => exact (Kd.R_reads' HO648.out).2.1); rintro e w44 ⟨rfl, hb⟩; refine ⟨_, rfl, ?_⟩; have n0_ := Aside0.mk (Kd.R_below (by (with_reducible repeat (first | apply Kd.R_alloc | apply Kd.R_drewN | apply Kd.R_drew)); exact HO_10.out) hb); have n1_ := Aside0.mk (Kd.R_below (by (with_reducible repeat (first | apply Kd.R_alloc | apply Kd.R_drewN | apply Kd.R_drew)); exact HO_633001.out) hb); have n2_ := Aside0.mk (Kd.R_below (by (with_reducible repeat (first | apply Kd.R_alloc | apply Kd.R_drewN | apply Kd.R_drew)); exact HO_633002.out) hb); have n3_ := Aside0.mk (Kd.R_below (by (with_reducible repeat (first | apply Kd.R_alloc | apply Kd.R_drewN | apply Kd.R_drew)); exact HO_645001.out) hb); have n4_ := Aside0.mk (Kd.R_below (by (with_reducible repeat (first | apply Kd.R_alloc | apply Kd.R_drewN | apply Kd.R_drew)); exact HO_645002.out) hb); have n5_ := Aside0.mk (Kd.R_below (by (with_reducible repeat (first | apply Kd.R_alloc | apply Kd.R_drewN | apply Kd.R_drew)); exact HO648.out) hb); have n6_ := Aside0.mk (blk_below (g := gb632) (o := .cells #[.int .i64 t624, .slice Ao16 t625.length co16, .slice Ao17 t628.length co17] 31 (0, 0)) (by (with_reducible repeat (first | refine blk_drewN ?_ _ | refine blk_drew ?_ | refine blk_alloc ?_ _)); exact BK632.out) hb); have n7_ := Aside0.mk (blk_below (g := gb644) (o := .cells #[.int .i64 t636, .slice Ao24 t637.length co24, .slice Ao25 t640.length co25] 31 (0, 0)) (by (with_reducible repeat (first | refine blk_drewN ?_ _ | refine blk_drew ?_ | refine blk_alloc ?_ _)); exact BK644.out) hb); have n8_ := Aside0.mk (below_step (by repeat (first | (with_reducible first | exact HB.out | apply below_alloc | apply pw_below_drewN | apply below_drew1 | refine below_set ?_ GE632.out | refine below_set ?_ GE644.out) | exact HB.out)) hb); clear HO_10; clear HO_633001; clear HO_633002; clear HO_645001; clear HO_645002; clear HO648; clear BK632; clear BK644; clear HB; have HO_10 := n0_; have HO_633001 := n1_; have HO_633002 := n2_; have HO_645001 := n3_; have HO_645002 := n4_; have HO648 := n5_; have BK632 := n6_; have BK644 := n7_; have HB := n8_; clear n0_ n1_ n2_ n3_ n4_ n5_ n6_ n7_ n8_; (try clear hb); (try clear hb2); (try clear hk); (try clear hi)) | ((with_reducible refine gate_callee (f := 37) rfl ?_); refine goesL_ (some 56) rfl rfl Try.func37 (by kernel_rfl) rfl #[.slice Ao19 t633.length co19, .int .i64 1] rfl (by (try simp only [List.map_toArray, List.map_cons, List.map_nil]); first | done | rfl | (simp only [List.length_drop, List.length_take]; rfl)) ?_; (with_reducible refine (laws_markRecordS.calls kj9 (fun k_ => some k_ = (.slice Ao19 t633.length co19 : Value).ownBlock) (.slice Ao19 t633.length co19) t633 1 t650 t651 w _ ?side1 ?side2 A40.out).mono ?_); (case side1 => repeat (first | (with_reducible first | exact HB.out | apply below_alloc | apply pw_below_drewN | apply below_drew1 | refine below_set ?_ GE632.out | refine below_set ?_ GE644.out) | exact HB.out)); (case side2 => exact Kd.R_tight rfl HO_10.out); rintro e w45 ⟨rfl, hy0, hb, hkp⟩; refine ⟨_, rfl, ?_⟩; have n0_ := Aside0.mk (Kd.R_reok rfl hy0 (fun k_ e_ => HO_10.out.1 k_ e_)); have n1_ := Aside0.mk (Kd.R_mono (ok' := fun k_ => some k_ ≠ (.slice Ao24 t637.length co24 : Value).ownBlock) (Kd.R_keptB ((Kd.R_apart' HO_633001.out (Kd.R_typed HO_10.out) (by decide))) hkp (fun k_ hk_ hs_ => (hk_.2) hs_)) (fun k_ hk_ => hk_.1.1)); have n2_ := Aside0.mk (Kd.R_mono (ok' := fun k_ => some k_ ≠ (.slice Ao25 t640.length co25 : Value).ownBlock) (Kd.R_keptB ((Kd.R_apart' HO_633002.out (Kd.R_typed HO_10.out) (by decide))) hkp (fun k_ hk_ hs_ => (hk_.2) hs_)) (fun k_ hk_ => hk_.1.1)); have n3_ := Aside0.mk (Kd.R_mono (ok' := fun k_ => some k_ ≠ (.slice Ao16 t625.length co16 : Value).ownBlock) (Kd.R_keptB ((Kd.R_apart' HO_645001.out (Kd.R_typed HO_10.out) (by decide))) hkp (fun k_ hk_ hs_ => (hk_.2) hs_)) (fun k_ hk_ => hk_.1.1)); have n4_ := Aside0.mk (Kd.R_mono (ok' := fun k_ => some k_ ≠ (.slice Ao17 t628.length co17 : Value).ownBlock) (Kd.R_keptB ((Kd.R_apart' HO_645002.out (Kd.R_typed HO_10.out) (by decide))) hkp (fun k_ hk_ hs_ => (hk_.2) hs_)) (fun k_ hk_ => hk_.1.1)); have n5_ := Aside0.mk (blk_kept (by (with_reducible repeat (first | refine blk_drewN ?_ _ | refine blk_drew ?_ | refine blk_alloc ?_ _)); exact BK632.out) hkp (fun hs_ => (fun e_ => (Kd.R_ne HO_10.out BK632.out (by decide)) e_) hs_)); have n6_ := Aside0.mk (blk_kept (by (with_reducible repeat (first | refine blk_drewN ?_ _ | refine blk_drew ?_ | refine blk_alloc ?_ _)); exact BK644.out) hkp (fun hs_ => (fun e_ => (Kd.R_ne HO_10.out BK644.out (by decide)) e_) hs_)); have n7_ := Aside0.mk (Kd.R_mono (ok' := fun k_ => some k_ ≠ (.slice Ao19 t633.length co19 : Value).ownBlock) (Kd.R_keptB (HO648.out) hkp (fun k_ hk_ hs_ => (hk_.2) hs_)) (fun k_ hk_ => hk_.1.2)); have n8_ := Aside0.mk (hb); clear HO_10; clear HO_633001; clear HO_633002; clear HO_645001; clear HO_645002; clear BK632; clear BK644; clear HO648; clear HB; have HO_10 := n0_; have HO_633001 := n1_; have HO_633002 := n2_; have HO_645001 := n3_; have HO_645002 := n4_; have BK632 := n5_; have BK644 := n6_; have HO648 := n7_; have HB := n8_; clear n0_ n1_ n2_ n3_ n4_ n5_ n6_ n7_ n8_; (try clear hb); (try clear hkp); (try clear hy0)))
            (try simp only [Act.put, List.setIfInBounds_toArray, List.set_cons_zero, List.set_cons_succ])
            go_cut [69] (fun v69 wc => ∃ (kq : Nat) (x69_40 : Bool), v69 = .bool x69_40 ∧ Aside0 (laws_FnExactLogFrom.j1 kq a0 a1 l2 t631 x69_40 t624 t625 t628 t636 t637 t640 = some r) ∧ Aside0 (kq ≤ kj9) ∧ Aside0 (Kd.R (Kd.int .u16) 42 wc w.heap.size (fun k_ => some k_ ≠ ((.slice Ao24 t637.length co24) : Value).ownBlock) (.slice Ao16 t625.length co16) t625) ∧ Aside0 (Kd.R (Kd.int .i16) 71 wc w.heap.size (fun k_ => some k_ ≠ ((.slice Ao25 t640.length co25) : Value).ownBlock) (.slice Ao17 t628.length co17) t628) ∧ Aside0 (Kd.R (Kd.int .u16) 42 wc w.heap.size (fun k_ => some k_ ≠ ((.slice Ao16 t625.length co16) : Value).ownBlock) (.slice Ao24 t637.length co24) t637) ∧ Aside0 (Kd.R (Kd.int .i16) 71 wc w.heap.size (fun k_ => some k_ ≠ ((.slice Ao17 t628.length co17) : Value).ownBlock) (.slice Ao25 t640.length co25) t640) ∧ Aside0 (wc.heap[gb632]? = some (.cells #[.int .i64 t624, (.slice Ao16 t625.length co16), (.slice Ao17 t628.length co17)] 31 (0, 0))) ∧ Aside0 (wc.heap[gb644]? = some (.cells #[.int .i64 t636, (.slice Ao24 t637.length co24), (.slice Ao25 t640.length co25)] 31 (0, 0))) ∧ Aside0 (Below w.heap.size w wc))
            case first =>
              have H := HC41.out
              clear HC41
              by_cases c46 : t650 < 0
              · rw [if_pos c46] at H
                have c46b0 : decide (t650 < 0) = true := decide_eq_true c46
                clear c46
                (first | rw [c46b0] | (simp only [i64_w, i32_w]; rw [c46b0]) | skip)
                have H' := Aside0.mk H
                clear H
                go_wp2
                go_meet
                case rel => exact ⟨_, (true), (by first | rfl | (simp; done) | (simp [*]; done)), H', ⟨by have := HJ9.out; first | omega | exact Nat.le_refl _⟩, ⟨by (with_reducible repeat (first | apply Kd.R_alloc | apply Kd.R_drewN | apply Kd.R_drew)); exact HO_633001.out⟩, ⟨by (with_reducible repeat (first | apply Kd.R_alloc | apply Kd.R_drewN | apply Kd.R_drew)); exact HO_633002.out⟩, ⟨by (with_reducible repeat (first | apply Kd.R_alloc | apply Kd.R_drewN | apply Kd.R_drew)); exact HO_645001.out⟩, ⟨by (with_reducible repeat (first | apply Kd.R_alloc | apply Kd.R_drewN | apply Kd.R_drew)); exact HO_645002.out⟩, ⟨by (with_reducible repeat (first | refine blk_drewN ?_ _ | refine blk_drew ?_ | refine blk_alloc ?_ _)); exact BK632.out⟩, ⟨by (with_reducible repeat (first | refine blk_drewN ?_ _ | refine blk_drew ?_ | refine blk_alloc ?_ _)); exact BK644.out⟩, ⟨by repeat (first | (with_reducible first | exact HB.out | apply below_alloc | apply pw_below_drewN | apply below_drew1 | refine below_set ?_ GE632.out | refine below_set ?_ GE644.out) | exact HB.out)⟩⟩
              · rw [if_neg c46] at H
                have c46b0 : decide (t650 < 0) = false := decide_eq_false c46
                clear c46
                (first | rw [c46b0] | (simp only [i64_w, i32_w]; rw [c46b0]) | skip)
                replace H := Option.bind_eq_some_iff.mp H
                obtain ⟨t652, A470, H⟩ := H
                replace H : (if t652 = true then (laws_FnExactLogFrom.j1 kj9 a0 a1 l2 t631 (t643 != t631) t624 t625 t628 t636 t637 t640) else (laws_FnExactLogFrom.j1 kj9 a0 a1 l2 t631 true t624 t625 t628 t636 t637 t640)) = some r := H
                have A47 := Aside0.mk A470
                clear A470
                by_cases c48 : t652 = true
                · subst c48
                  have H1 : (laws_FnExactLogFrom.j1 kj9 a0 a1 l2 t631 (t643 != t631) t624 t625 t628 t636 t637 t640) = some r := by rw [if_pos rfl] at H; exact H
                  clear H
                  have H := H1
                  clear H1
                  have H' := Aside0.mk H
                  clear H
                  have hnb49 := NB644_632.out
                  have hnc49 := NB632_644.out
                  have hcz50_0 : w45.cell? ⟨gb644, 0, none⟩ = some (.int .i64 t636) := (blk_cell BK644.out 0).trans rfl
                  have hcz50_1 : w45.cell? ⟨gb644, 1, none⟩ = some (.slice Ao24 t637.length co24) := (blk_cell BK644.out 1).trans rfl
                  have hcz50_2 : w45.cell? ⟨gb644, 2, none⟩ = some (.slice Ao25 t640.length co25) := (blk_cell BK644.out 2).trans rfl
                  have hfz50_0 := blk_frozen BK644.out 0
                  have hfz50_1 := blk_frozen BK644.out 1
                  have hfz50_2 := blk_frozen BK644.out 2
                  have hcz51_0 : w45.cell? ⟨gb632, 0, none⟩ = some (.int .i64 t624) := (blk_cell BK632.out 0).trans rfl
                  have hcz51_1 : w45.cell? ⟨gb632, 1, none⟩ = some (.slice Ao16 t625.length co16) := (blk_cell BK632.out 1).trans rfl
                  have hcz51_2 : w45.cell? ⟨gb632, 2, none⟩ = some (.slice Ao17 t628.length co17) := (blk_cell BK632.out 2).trans rfl
                  have hfz51_0 := blk_frozen BK632.out 0
                  have hfz51_1 := blk_frozen BK632.out 1
                  have hfz51_2 := blk_frozen BK632.out 2
                  go_wp2_with (first | (go_at_call 17; (with_reducible refine (laws_eqLog.calls kj9 t636 _ _ t637 _ _ t640 t624 _ _ t625 _ _ t628 true _ ?side1 ?side2 ?side3 ?side4 ?side5 ?side6 ?side7 ?side8 A47.out).mono ?_); (case side1 => repeat (first | exact (Kd.R_reads' HO_645001.out).2.2 | (with_reducible refine Kd.C_alloc ?_ _) | (with_reducible refine Kd.C_drewN ?_ _) | (with_reducible refine Kd.C_drew ?_))); (case side2 => exact (Kd.R_reads' HO_645001.out).2.1); (case side3 => repeat (first | exact (Kd.R_reads' HO_645002.out).2.2 | (with_reducible refine Kd.C_alloc ?_ _) | (with_reducible refine Kd.C_drewN ?_ _) | (with_reducible refine Kd.C_drew ?_))); (case side4 => exact (Kd.R_reads' HO_645002.out).2.1); (case side5 => repeat (first | exact (Kd.R_reads' HO_633001.out).2.2 | (with_reducible refine Kd.C_alloc ?_ _) | (with_reducible refine Kd.C_drewN ?_ _) | (with_reducible refine Kd.C_drew ?_))); (case side6 => exact (Kd.R_reads' HO_633001.out).2.1); (case side7 => repeat (first | exact (Kd.R_reads' HO_633002.out).2.2 | (with_reducible refine Kd.C_alloc ?_ _) | (with_reducible refine Kd.C_drewN ?_ _) | (with_reducible refine Kd.C_drew ?_))); (case side8 => exact (Kd.R_reads' HO_633002.out).2.1); rintro e w52 ⟨rfl, hb⟩; have n0_ := Aside0.mk (Kd.R_below (by (with_reducible repeat (first | apply Kd.R_alloc | apply Kd.R_drewN | apply Kd.R_drew)); exact HO_10.out) hb); have n1_ := Aside0.mk (Kd.R_below (by (with_reducible repeat (first | apply Kd.R_alloc | apply Kd.R_drewN | apply Kd.R_drew)); exact HO_633001.out) hb); have n2_ := Aside0.mk (Kd.R_below (by (with_reducible repeat (first | apply Kd.R_alloc | apply Kd.R_drewN | apply Kd.R_drew)); exact HO_633002.out) hb); have n3_ := Aside0.mk (Kd.R_below (by (with_reducible repeat (first | apply Kd.R_alloc | apply Kd.R_drewN | apply Kd.R_drew)); exact HO_645001.out) hb); have n4_ := Aside0.mk (Kd.R_below (by (with_reducible repeat (first | apply Kd.R_alloc | apply Kd.R_drewN | apply Kd.R_drew)); exact HO_645002.out) hb); have n5_ := Aside0.mk (Kd.R_below (by (with_reducible repeat (first | apply Kd.R_alloc | apply Kd.R_drewN | apply Kd.R_drew)); exact HO648.out) hb); have n6_ := Aside0.mk (blk_below (g := gb632) (o := .cells #[.int .i64 t624, .slice Ao16 t625.length co16, .slice Ao17 t628.length co17] 31 (0, 0)) (by (with_reducible repeat (first | refine blk_drewN ?_ _ | refine blk_drew ?_ | refine blk_alloc ?_ _)); exact BK632.out) hb); have n7_ := Aside0.mk (blk_below (g := gb644) (o := .cells #[.int .i64 t636, .slice Ao24 t637.length co24, .slice Ao25 t640.length co25] 31 (0, 0)) (by (with_reducible repeat (first | refine blk_drewN ?_ _ | refine blk_drew ?_ | refine blk_alloc ?_ _)); exact BK644.out) hb); have n8_ := Aside0.mk (below_step (by repeat (first | (with_reducible first | exact HB.out | apply below_alloc | apply pw_below_drewN | apply below_drew1 | refine below_set ?_ GE632.out | refine below_set ?_ GE644.out) | exact HB.out)) hb); clear HO_10; clear HO_633001; clear HO_633002; clear HO_645001; clear HO_645002; clear HO648; clear BK632; clear BK644; clear HB; have HO_10 := n0_; have HO_633001 := n1_; have HO_633002 := n2_; have HO_645001 := n3_; have HO_645002 := n4_; have HO648 := n5_; have BK632 := n6_; have BK644 := n7_; have HB := n8_; clear n0_ n1_ n2_ n3_ n4_ n5_ n6_ n7_ n8_; (try clear hb); (try clear hb2); (try clear hk); (try clear hi)))
                  go_meet
                  case rel => exact ⟨_, ((t643 != t631)), (by first | rfl | (simp; done) | (simp [*]; done)), H', ⟨by have := HJ9.out; first | omega | exact Nat.le_refl _⟩, ⟨by (with_reducible repeat (first | apply Kd.R_alloc | apply Kd.R_drewN | apply Kd.R_drew)); exact HO_633001.out⟩, ⟨by (with_reducible repeat (first | apply Kd.R_alloc | apply Kd.R_drewN | apply Kd.R_drew)); exact HO_633002.out⟩, ⟨by (with_reducible repeat (first | apply Kd.R_alloc | apply Kd.R_drewN | apply Kd.R_drew)); exact HO_645001.out⟩, ⟨by (with_reducible repeat (first | apply Kd.R_alloc | apply Kd.R_drewN | apply Kd.R_drew)); exact HO_645002.out⟩, ⟨by (with_reducible repeat (first | refine blk_drewN ?_ _ | refine blk_drew ?_ | refine blk_alloc ?_ _)); exact BK632.out⟩, ⟨by (with_reducible repeat (first | refine blk_drewN ?_ _ | refine blk_drew ?_ | refine blk_alloc ?_ _)); exact BK644.out⟩, ⟨by repeat (first | (with_reducible first | exact HB.out | apply below_alloc | apply pw_below_drewN | apply below_drew1 | refine below_set ?_ GE632.out | refine below_set ?_ GE644.out) | exact HB.out)⟩⟩
                · replace c48 := Bool.eq_false_iff.mpr c48
                  subst c48
                  have H1 : (laws_FnExactLogFrom.j1 kj9 a0 a1 l2 t631 true t624 t625 t628 t636 t637 t640) = some r := by rw [if_neg (show ¬ (false = true) by decide)] at H; exact H
                  clear H
                  have H := H1
                  clear H1
                  have H' := Aside0.mk H
                  clear H
                  have hnb53 := NB644_632.out
                  have hnc53 := NB632_644.out
                  have hcz54_0 : w45.cell? ⟨gb644, 0, none⟩ = some (.int .i64 t636) := (blk_cell BK644.out 0).trans rfl
                  have hcz54_1 : w45.cell? ⟨gb644, 1, none⟩ = some (.slice Ao24 t637.length co24) := (blk_cell BK644.out 1).trans rfl
                  have hcz54_2 : w45.cell? ⟨gb644, 2, none⟩ = some (.slice Ao25 t640.length co25) := (blk_cell BK644.out 2).trans rfl
                  have hfz54_0 := blk_frozen BK644.out 0
                  have hfz54_1 := blk_frozen BK644.out 1
                  have hfz54_2 := blk_frozen BK644.out 2
                  have hcz55_0 : w45.cell? ⟨gb632, 0, none⟩ = some (.int .i64 t624) := (blk_cell BK632.out 0).trans rfl
                  have hcz55_1 : w45.cell? ⟨gb632, 1, none⟩ = some (.slice Ao16 t625.length co16) := (blk_cell BK632.out 1).trans rfl
                  have hcz55_2 : w45.cell? ⟨gb632, 2, none⟩ = some (.slice Ao17 t628.length co17) := (blk_cell BK632.out 2).trans rfl
                  have hfz55_0 := blk_frozen BK632.out 0
                  have hfz55_1 := blk_frozen BK632.out 1
                  have hfz55_2 := blk_frozen BK632.out 2
                  go_wp2_with (first | (go_at_call 17; (with_reducible refine (laws_eqLog.calls kj9 t636 _ _ t637 _ _ t640 t624 _ _ t625 _ _ t628 false _ ?side1 ?side2 ?side3 ?side4 ?side5 ?side6 ?side7 ?side8 A47.out).mono ?_); (case side1 => repeat (first | exact (Kd.R_reads' HO_645001.out).2.2 | (with_reducible refine Kd.C_alloc ?_ _) | (with_reducible refine Kd.C_drewN ?_ _) | (with_reducible refine Kd.C_drew ?_))); (case side2 => exact (Kd.R_reads' HO_645001.out).2.1); (case side3 => repeat (first | exact (Kd.R_reads' HO_645002.out).2.2 | (with_reducible refine Kd.C_alloc ?_ _) | (with_reducible refine Kd.C_drewN ?_ _) | (with_reducible refine Kd.C_drew ?_))); (case side4 => exact (Kd.R_reads' HO_645002.out).2.1); (case side5 => repeat (first | exact (Kd.R_reads' HO_633001.out).2.2 | (with_reducible refine Kd.C_alloc ?_ _) | (with_reducible refine Kd.C_drewN ?_ _) | (with_reducible refine Kd.C_drew ?_))); (case side6 => exact (Kd.R_reads' HO_633001.out).2.1); (case side7 => repeat (first | exact (Kd.R_reads' HO_633002.out).2.2 | (with_reducible refine Kd.C_alloc ?_ _) | (with_reducible refine Kd.C_drewN ?_ _) | (with_reducible refine Kd.C_drew ?_))); (case side8 => exact (Kd.R_reads' HO_633002.out).2.1); rintro e w56 ⟨rfl, hb⟩; have n0_ := Aside0.mk (Kd.R_below (by (with_reducible repeat (first | apply Kd.R_alloc | apply Kd.R_drewN | apply Kd.R_drew)); exact HO_10.out) hb); have n1_ := Aside0.mk (Kd.R_below (by (with_reducible repeat (first | apply Kd.R_alloc | apply Kd.R_drewN | apply Kd.R_drew)); exact HO_633001.out) hb); have n2_ := Aside0.mk (Kd.R_below (by (with_reducible repeat (first | apply Kd.R_alloc | apply Kd.R_drewN | apply Kd.R_drew)); exact HO_633002.out) hb); have n3_ := Aside0.mk (Kd.R_below (by (with_reducible repeat (first | apply Kd.R_alloc | apply Kd.R_drewN | apply Kd.R_drew)); exact HO_645001.out) hb); have n4_ := Aside0.mk (Kd.R_below (by (with_reducible repeat (first | apply Kd.R_alloc | apply Kd.R_drewN | apply Kd.R_drew)); exact HO_645002.out) hb); have n5_ := Aside0.mk (Kd.R_below (by (with_reducible repeat (first | apply Kd.R_alloc | apply Kd.R_drewN | apply Kd.R_drew)); exact HO648.out) hb); have n6_ := Aside0.mk (blk_below (g := gb632) (o := .cells #[.int .i64 t624, .slice Ao16 t625.length co16, .slice Ao17 t628.length co17] 31 (0, 0)) (by (with_reducible repeat (first | refine blk_drewN ?_ _ | refine blk_drew ?_ | refine blk_alloc ?_ _)); exact BK632.out) hb); have n7_ := Aside0.mk (blk_below (g := gb644) (o := .cells #[.int .i64 t636, .slice Ao24 t637.length co24, .slice Ao25 t640.length co25] 31 (0, 0)) (by (with_reducible repeat (first | refine blk_drewN ?_ _ | refine blk_drew ?_ | refine blk_alloc ?_ _)); exact BK644.out) hb); have n8_ := Aside0.mk (below_step (by repeat (first | (with_reducible first | exact HB.out | apply below_alloc | apply pw_below_drewN | apply below_drew1 | refine below_set ?_ GE632.out | refine below_set ?_ GE644.out) | exact HB.out)) hb); clear HO_10; clear HO_633001; clear HO_633002; clear HO_645001; clear HO_645002; clear HO648; clear BK632; clear BK644; clear HB; have HO_10 := n0_; have HO_633001 := n1_; have HO_633002 := n2_; have HO_645001 := n3_; have HO_645002 := n4_; have HO648 := n5_; have BK632 := n6_; have BK644 := n7_; have HB := n8_; clear n0_ n1_ n2_ n3_ n4_ n5_ n6_ n7_ n8_; (try clear hb); (try clear hb2); (try clear hk); (try clear hi)))
                  go_meet
                  case rel => exact ⟨_, (true), (by first | rfl | (simp; done) | (simp [*]; done)), H', ⟨by have := HJ9.out; first | omega | exact Nat.le_refl _⟩, ⟨by (with_reducible repeat (first | apply Kd.R_alloc | apply Kd.R_drewN | apply Kd.R_drew)); exact HO_633001.out⟩, ⟨by (with_reducible repeat (first | apply Kd.R_alloc | apply Kd.R_drewN | apply Kd.R_drew)); exact HO_633002.out⟩, ⟨by (with_reducible repeat (first | apply Kd.R_alloc | apply Kd.R_drewN | apply Kd.R_drew)); exact HO_645001.out⟩, ⟨by (with_reducible repeat (first | apply Kd.R_alloc | apply Kd.R_drewN | apply Kd.R_drew)); exact HO_645002.out⟩, ⟨by (with_reducible repeat (first | refine blk_drewN ?_ _ | refine blk_drew ?_ | refine blk_alloc ?_ _)); exact BK632.out⟩, ⟨by (with_reducible repeat (first | refine blk_drewN ?_ _ | refine blk_drew ?_ | refine blk_alloc ?_ _)); exact BK644.out⟩, ⟨by repeat (first | (with_reducible first | exact HB.out | apply below_alloc | apply pw_below_drewN | apply below_drew1 | refine below_set ?_ GE632.out | refine below_set ?_ GE644.out) | exact HB.out)⟩⟩
            case rest =>
              clear HC41
              try clear c1
              try clear c2
              try clear p2
              try clear c3
              try clear c4
              try clear c5
              try clear c5b0
              try clear c8
              try clear c17
              try clear c22
              try clear c27
              try clear c28
              try clear c32
              try clear c34
              try clear c36
              try clear c37
              try clear c39
              try clear c40
              try clear c46
              try clear c46b0
              try clear c48
              try clear c49
              try clear c53
              try clear hcz15_0
              try clear hcz15_1
              try clear hcz15_2
              try clear hcz23_0
              try clear hcz23_1
              try clear hcz23_2
              try clear hcz29_0
              try clear hcz29_1
              try clear hcz29_2
              try clear hcz30_0
              try clear hcz30_1
              try clear hcz30_2
              try clear hcz33_0
              try clear hcz33_1
              try clear hcz33_2
              try clear hcz34_0
              try clear hcz34_1
              try clear hcz34_2
              try clear hcz50_0
              try clear hcz50_1
              try clear hcz50_2
              try clear hcz51_0
              try clear hcz51_1
              try clear hcz51_2
              try clear hcz54_0
              try clear hcz54_1
              try clear hcz54_2
              try clear hcz55_0
              try clear hcz55_1
              try clear hcz55_2
              try clear hfz15_0
              try clear hfz15_1
              try clear hfz15_2
              try clear hfz23_0
              try clear hfz23_1
              try clear hfz23_2
              try clear hfz29_0
              try clear hfz29_1
              try clear hfz29_2
              try clear hfz30_0
              try clear hfz30_1
              try clear hfz30_2
              try clear hfz33_0
              try clear hfz33_1
              try clear hfz33_2
              try clear hfz34_0
              try clear hfz34_1
              try clear hfz34_2
              try clear hfz50_0
              try clear hfz50_1
              try clear hfz50_2
              try clear hfz51_0
              try clear hfz51_1
              try clear hfz51_2
              try clear hfz54_0
              try clear hfz54_1
              try clear hfz54_2
              try clear hfz55_0
              try clear hfz55_1
              try clear hfz55_2
              try clear p2
              obtain ⟨kq, x69_40, rfl, HA, HJ40, HO_633001, HO_633002, HO_645001, HO_645002, BK632, BK644, HB⟩ := hcut
              cases kq with
              | zero => exact absurd HA.out (by simp [laws_FnExactLogFrom.j1])
              | succ kj40 =>
                have H := HA.out
                clear HA
                simp only [laws_FnExactLogFrom.j1] at H
                by_cases c57 : x69_40 = true
                · subst c57
                  have H1 : (some false) = some r := by rw [if_pos rfl] at H; exact H
                  clear H
                  have H := H1
                  clear H1
                  exact absurd ((Option.some.inj H).trans HT.out) (by decide)
                · replace c57 := Bool.eq_false_iff.mpr c57
                  subst c57
                  have H1 : ((laws_markLog.f kj40 t636 t637 t640 1).bind fun bt653 => ((laws_heldLog.f kj40 t636 bt653.2.1 bt653.2.2 1).bind fun t656 => (if t656 < 0 then (some false) else (if t656 = bt653.1 then ((laws_toRecordS.f kj40 l2).bind fun t657 => ((impl_LogFrom.f kj40 a0 a1 t657).bind fun bt660 => ((laws_eqLog.f kj40 bt660.1 bt660.2.1 bt660.2.2.1 t624 t625 t628).bind fun t669 => (if t669 = true then (laws_FnExactLogFrom.j2 kj40 bt653.1 (bt660.2.2.2 != t631) t636 bt653.2.1 bt653.2.2) else (laws_FnExactLogFrom.j2 kj40 bt653.1 true t636 bt653.2.1 bt653.2.2))))) else (some false))))) = some r := by rw [if_neg (show ¬ (false = true) by decide)] at H; exact H
                  clear H
                  have H := H1
                  clear H1
                  replace H := Option.bind_eq_some_iff.mp H
                  obtain ⟨⟨t653, t654, t655⟩, A580, H⟩ := H
                  replace H : ((laws_heldLog.f kj40 t636 t654 t655 1).bind fun t656 => (if t656 < 0 then (some false) else (if t656 = t653 then ((laws_toRecordS.f kj40 l2).bind fun t657 => ((impl_LogFrom.f kj40 a0 a1 t657).bind fun bt660 => ((laws_eqLog.f kj40 bt660.1 bt660.2.1 bt660.2.2.1 t624 t625 t628).bind fun t669 => (if t669 = true then (laws_FnExactLogFrom.j2 kj40 t653 (bt660.2.2.2 != t631) t636 t654 t655) else (laws_FnExactLogFrom.j2 kj40 t653 true t636 t654 t655))))) else (some false)))) = some r := H
                  have A58 := Aside0.mk A580
                  clear A580
                  replace H := Option.bind_eq_some_iff.mp H
                  obtain ⟨t656, A590, H⟩ := H
                  replace H : (if t656 < 0 then (some false) else (if t656 = t653 then ((laws_toRecordS.f kj40 l2).bind fun t657 => ((impl_LogFrom.f kj40 a0 a1 t657).bind fun bt660 => ((laws_eqLog.f kj40 bt660.1 bt660.2.1 bt660.2.2.1 t624 t625 t628).bind fun t669 => (if t669 = true then (laws_FnExactLogFrom.j2 kj40 t653 (bt660.2.2.2 != t631) t636 t654 t655) else (laws_FnExactLogFrom.j2 kj40 t653 true t636 t654 t655))))) else (some false))) = some r := H
                  have A59 := Aside0.mk A590
                  clear A590
                  by_cases c60 : t656 < 0
                  · rw [if_pos c60] at H
                    have c60b0 : decide (t656 < 0) = true := decide_eq_true c60
                    clear c60
                    exact absurd ((Option.some.inj H).trans HT.out) (by decide)
                  · rw [if_neg c60] at H
                    have c60b0 : decide (t656 < 0) = false := decide_eq_false c60
                    clear c60
                    by_cases c61 : t656 = t653
                    · rw [if_pos c61] at H
                      have c61b0 : (t656 == t653) = true := beq_iff_eq.mpr c61
                      have c61b1 : (t656 != t653) = false := bne_eq_false_iff_eq.mpr c61
                      clear c61
                      replace H := Option.bind_eq_some_iff.mp H
                      obtain ⟨t657, A620, H⟩ := H
                      replace H : ((impl_LogFrom.f kj40 a0 a1 t657).bind fun bt660 => ((laws_eqLog.f kj40 bt660.1 bt660.2.1 bt660.2.2.1 t624 t625 t628).bind fun t669 => (if t669 = true then (laws_FnExactLogFrom.j2 kj40 t653 (bt660.2.2.2 != t631) t636 t654 t655) else (laws_FnExactLogFrom.j2 kj40 t653 true t636 t654 t655)))) = some r := H
                      have A62 := Aside0.mk A620
                      clear A620
                      replace H := Option.bind_eq_some_iff.mp H
                      obtain ⟨⟨t660, t661, t664, t667⟩, A630, H⟩ := H
                      replace H : ((laws_eqLog.f kj40 t660 t661 t664 t624 t625 t628).bind fun t669 => (if t669 = true then (laws_FnExactLogFrom.j2 kj40 t653 (t667 != t631) t636 t654 t655) else (laws_FnExactLogFrom.j2 kj40 t653 true t636 t654 t655))) = some r := H
                      have A63 := Aside0.mk A630
                      clear A630
                      have HC64 := Aside0.mk H
                      clear H
                      have hnb65 := NB644_632.out
                      have hnc65 := NB632_644.out
                      have hcz66_0 : wc.cell? ⟨gb644, 0, none⟩ = some (.int .i64 t636) := (blk_cell BK644.out 0).trans rfl
                      have hcz66_1 : wc.cell? ⟨gb644, 1, none⟩ = some (.slice Ao24 t637.length co24) := (blk_cell BK644.out 1).trans rfl
                      have hcz66_2 : wc.cell? ⟨gb644, 2, none⟩ = some (.slice Ao25 t640.length co25) := (blk_cell BK644.out 2).trans rfl
                      have hfz66_0 := blk_frozen BK644.out 0
                      have hfz66_1 := blk_frozen BK644.out 1
                      have hfz66_2 := blk_frozen BK644.out 2
                      go_upto_region 25 with (first | ((with_reducible refine gate_callee (f := 30) rfl ?_); refine goesL_ (some 72) rfl rfl Try.func30 (by kernel_rfl) rfl #[.agg #[.int .i64 t636, .slice Ao24 t637.length co24, .slice Ao25 t640.length co25], .int .i64 1] rfl (by (try simp only [List.map_toArray, List.map_cons, List.map_nil]); first | done | rfl | (simp only [List.length_drop, List.length_take]; rfl)) ?_; (with_reducible refine (laws_markLog.calls kj40 t636 (fun k_ => some k_ = (.slice Ao24 t637.length co24 : Value).ownBlock) (.slice Ao24 t637.length co24) t637 (fun k_ => some k_ = (.slice Ao25 t640.length co25 : Value).ownBlock) (.slice Ao25 t640.length co25) t640 1 t653 t654 t655 w _ ?side1 ?side2 ?side3 A58.out).mono ?_); (case side1 => repeat (first | (with_reducible first | exact HB.out | apply below_alloc | apply pw_below_drewN | apply below_drew1 | refine below_set ?_ GE632.out | refine below_set ?_ GE644.out) | exact HB.out)); (case side2 => exact Kd.R_tight rfl HO_645001.out); (case side3 => exact Kd.R_tight rfl HO_645002.out); rintro e w67 ⟨rfl, hy0, hy1, hb, hkp⟩; refine ⟨_, rfl, ?_⟩; have n0_ := Aside0.mk (Kd.R_mono (ok' := fun k_ => some k_ ≠ (.slice Ao24 t637.length co24 : Value).ownBlock) (Kd.R_keptB ((Kd.R_apart' HO_633001.out (Kd.R_typed HO_645002.out) (by decide))) hkp (fun k_ hk_ hs_ => Or.elim hs_ (fun e_ => (hk_.1) e_) (fun e_ => (hk_.2) e_))) (fun k_ hk_ => hk_.1.1)); have n1_ := Aside0.mk (Kd.R_mono (ok' := fun k_ => some k_ ≠ (.slice Ao25 t640.length co25 : Value).ownBlock) (Kd.R_keptB ((Kd.R_apart' HO_633002.out (Kd.R_typed HO_645001.out) (by decide))) hkp (fun k_ hk_ hs_ => Or.elim hs_ (fun e_ => (hk_.2) e_) (fun e_ => (hk_.1) e_))) (fun k_ hk_ => hk_.1.1)); have n2_ := Aside0.mk (Kd.R_reok rfl hy0 (fun k_ e_ => HO_645001.out.1 k_ e_)); have n3_ := Aside0.mk (Kd.R_reok rfl hy1 (fun k_ e_ => HO_645002.out.1 k_ e_)); have n4_ := Aside0.mk (blk_kept (by (with_reducible repeat (first | refine blk_drewN ?_ _ | refine blk_drew ?_ | refine blk_alloc ?_ _)); exact BK632.out) hkp (fun hs_ => Or.elim hs_ (fun e_ => (fun e_ => (Kd.R_ne HO_645001.out BK632.out (by decide)) e_) e_) (fun e_ => (fun e_ => (Kd.R_ne HO_645002.out BK632.out (by decide)) e_) e_))); have n5_ := Aside0.mk (blk_kept (by (with_reducible repeat (first | refine blk_drewN ?_ _ | refine blk_drew ?_ | refine blk_alloc ?_ _)); exact BK644.out) hkp (fun hs_ => Or.elim hs_ (fun e_ => (fun e_ => (Kd.R_ne HO_645001.out BK644.out (by decide)) e_) e_) (fun e_ => (fun e_ => (Kd.R_ne HO_645002.out BK644.out (by decide)) e_) e_))); have n6_ := Aside0.mk (hb); clear HO_633001; clear HO_633002; clear HO_645001; clear HO_645002; clear BK632; clear BK644; clear HB; have HO_633001 := n0_; have HO_633002 := n1_; have HO_645001 := n2_; have HO_645002 := n3_; have BK632 := n4_; have BK644 := n5_; have HB := n6_; clear n0_ n1_ n2_ n3_ n4_ n5_ n6_; (try clear hb); (try clear hkp); (try clear hy0); (try clear hy1); have hcz68_0 : w67.cell? ⟨gb644, 0, none⟩ = some (.int .i64 t636) := (blk_cell BK644.out 0).trans rfl; have hcz68_1 : w67.cell? ⟨gb644, 1, none⟩ = some (.slice Ao24 t637.length co24) := (blk_cell BK644.out 1).trans rfl; have hcz68_2 : w67.cell? ⟨gb644, 2, none⟩ = some (.slice Ao25 t640.length co25) := (blk_cell BK644.out 2).trans rfl; have hfz68_0 := blk_frozen BK644.out 0; have hfz68_1 := blk_frozen BK644.out 1; have hfz68_2 := blk_frozen BK644.out 2) | ((with_reducible refine gate_callee (f := 31) rfl ?_); refine goesL_ (some 75) rfl rfl Try.func31 (by kernel_rfl) rfl #[.agg #[.int .i64 t636, .slice Ao24 t654.length co24, .slice Ao25 t655.length co25], .int .i64 1] rfl (by (try simp only [List.map_toArray, List.map_cons, List.map_nil]); first | done | (rw [show t654.length = t637.length from (Kd.R_reads' HO_645001.out).1.symm, show t655.length = t640.length from (Kd.R_reads' HO_645002.out).1.symm] <;> rfl) | rfl | (simp only [List.length_drop, List.length_take]; rfl)) ?_; (with_reducible refine (laws_heldLog.calls kj40 t636 _ _ t654 _ _ t655 1 t656 _ ?side1 ?side2 ?side3 ?side4 A59.out).mono ?_); (case side1 => repeat (first | exact (Kd.R_reads' HO_645001.out).2.2 | (with_reducible refine Kd.C_alloc ?_ _) | (with_reducible refine Kd.C_drewN ?_ _) | (with_reducible refine Kd.C_drew ?_))); (case side2 => rw [show t654.length = t637.length from (Kd.R_reads' HO_645001.out).1.symm]; exact (Kd.R_reads' HO_645001.out).2.1); (case side3 => repeat (first | exact (Kd.R_reads' HO_645002.out).2.2 | (with_reducible refine Kd.C_alloc ?_ _) | (with_reducible refine Kd.C_drewN ?_ _) | (with_reducible refine Kd.C_drew ?_))); (case side4 => rw [show t655.length = t640.length from (Kd.R_reads' HO_645002.out).1.symm]; exact (Kd.R_reads' HO_645002.out).2.1); rintro e w69 ⟨rfl, hb⟩; refine ⟨_, rfl, ?_⟩; have n0_ := Aside0.mk (Kd.R_below (by (with_reducible repeat (first | apply Kd.R_alloc | apply Kd.R_drewN | apply Kd.R_drew)); exact HO_633001.out) hb); have n1_ := Aside0.mk (Kd.R_below (by (with_reducible repeat (first | apply Kd.R_alloc | apply Kd.R_drewN | apply Kd.R_drew)); exact HO_633002.out) hb); have n2_ := Aside0.mk (Kd.R_below (by (with_reducible repeat (first | apply Kd.R_alloc | apply Kd.R_drewN | apply Kd.R_drew)); exact HO_645001.out) hb); have n3_ := Aside0.mk (Kd.R_below (by (with_reducible repeat (first | apply Kd.R_alloc | apply Kd.R_drewN | apply Kd.R_drew)); exact HO_645002.out) hb); have n4_ := Aside0.mk (blk_below (g := gb632) (o := .cells #[.int .i64 t624, .slice Ao16 t625.length co16, .slice Ao17 t628.length co17] 31 (0, 0)) (by (with_reducible repeat (first | refine blk_drewN ?_ _ | refine blk_drew ?_ | refine blk_alloc ?_ _)); exact BK632.out) hb); have n5_ := Aside0.mk (blk_below (g := gb644) (o := .cells #[.int .i64 t636, .slice Ao24 t637.length co24, .slice Ao25 t640.length co25] 31 (0, 0)) (by (with_reducible repeat (first | refine blk_drewN ?_ _ | refine blk_drew ?_ | refine blk_alloc ?_ _)); exact BK644.out) hb); have n6_ := Aside0.mk (below_step (by repeat (first | (with_reducible first | exact HB.out | apply below_alloc | apply pw_below_drewN | apply below_drew1 | refine below_set ?_ GE632.out | refine below_set ?_ GE644.out) | exact HB.out)) hb); clear HO_633001; clear HO_633002; clear HO_645001; clear HO_645002; clear BK632; clear BK644; clear HB; have HO_633001 := n0_; have HO_633002 := n1_; have HO_645001 := n2_; have HO_645002 := n3_; have BK632 := n4_; have BK644 := n5_; have HB := n6_; clear n0_ n1_ n2_ n3_ n4_ n5_ n6_; (try clear hb); (try clear hb2); (try clear hk); (try clear hi)) | ((with_reducible refine gate_callee (f := 34) rfl ?_); refine goesL_ (some 85) rfl rfl Try.func34 (by kernel_rfl) rfl #[.slice A2 l2.length c2] rfl (by (try simp only [List.map_toArray, List.map_cons, List.map_nil]); first | done | rfl | (simp only [List.length_drop, List.length_take]; rfl)) ?_; (with_reducible refine (laws_toRecordS.calls kj40 _ _ l2 t657 _ ?side1 ?side2 A62.out).mono ?_); (case side1 => repeat (first | exact (Kd.C_below HR2.out HB.out) | (with_reducible refine Kd.C_alloc ?_ _) | (with_reducible refine Kd.C_drewN ?_ _) | (with_reducible refine Kd.C_drew ?_))); (case side2 => exact HC2.out); rintro e w70 ⟨v658, rfl, ho0, hb⟩; refine ⟨_, rfl, ?_⟩; have n0_ := Aside0.mk (Kd.R_below (by (with_reducible repeat (first | apply Kd.R_alloc | apply Kd.R_drewN | apply Kd.R_drew)); exact HO_633001.out) hb); have n1_ := Aside0.mk (Kd.R_below (by (with_reducible repeat (first | apply Kd.R_alloc | apply Kd.R_drewN | apply Kd.R_drew)); exact HO_633002.out) hb); have n2_ := Aside0.mk (Kd.R_below (by (with_reducible repeat (first | apply Kd.R_alloc | apply Kd.R_drewN | apply Kd.R_drew)); exact HO_645001.out) hb); have n3_ := Aside0.mk (Kd.R_below (by (with_reducible repeat (first | apply Kd.R_alloc | apply Kd.R_drewN | apply Kd.R_drew)); exact HO_645002.out) hb); have n4_ := Aside0.mk (Kd.R_lower ho0 (below_size (by repeat (first | (with_reducible first | exact HB.out | apply below_alloc | apply pw_below_drewN | apply below_drew1 | refine below_set ?_ GE632.out | refine below_set ?_ GE644.out) | exact HB.out)))); have n5_ := Aside0.mk (blk_below (g := gb632) (o := .cells #[.int .i64 t624, .slice Ao16 t625.length co16, .slice Ao17 t628.length co17] 31 (0, 0)) (by (with_reducible repeat (first | refine blk_drewN ?_ _ | refine blk_drew ?_ | refine blk_alloc ?_ _)); exact BK632.out) hb); have n6_ := Aside0.mk (blk_below (g := gb644) (o := .cells #[.int .i64 t636, .slice Ao24 t637.length co24, .slice Ao25 t640.length co25] 31 (0, 0)) (by (with_reducible repeat (first | refine blk_drewN ?_ _ | refine blk_drew ?_ | refine blk_alloc ?_ _)); exact BK644.out) hb); have n7_ := Aside0.mk (below_step (by repeat (first | (with_reducible first | exact HB.out | apply below_alloc | apply pw_below_drewN | apply below_drew1 | refine below_set ?_ GE632.out | refine below_set ?_ GE644.out) | exact HB.out)) hb); clear HO_633001; clear HO_633002; clear HO_645001; clear HO_645002; clear BK632; clear BK644; clear HB; have HO_633001 := n0_; have HO_633002 := n1_; have HO_645001 := n2_; have HO_645002 := n3_; have HO659 := n4_; have BK632 := n5_; have BK644 := n6_; have HB := n7_; clear n0_ n1_ n2_ n3_ n4_ n5_ n6_ n7_; (try clear hb); (try clear hb2); (try clear hk); (try clear hi); (try clear ho0); obtain ⟨Ao71, co71, eo71⟩ := Kd.R_slice HO659.out; subst eo71) | ((with_reducible refine gate_callee (f := 40) rfl ?_); refine goesL_ (some 86) rfl rfl Try.func40 (by kernel_rfl) rfl #[.int .i64 a0, .int .i64 a1, .slice Ao71 t657.length co71] rfl (by (try simp only [List.map_toArray, List.map_cons, List.map_nil]); first | done | rfl | (simp only [List.length_drop, List.length_take]; rfl)) ?_; (with_reducible refine (impl_LogFrom.calls kj40 a0 a1 _ _ t657 t660 t661 t664 t667 _ ?side1 ?side2 A63.out).mono ?_); (case side1 => repeat (first | exact (Kd.R_reads' HO659.out).2.2 | (with_reducible refine Kd.C_alloc ?_ _) | (with_reducible refine Kd.C_drewN ?_ _) | (with_reducible refine Kd.C_drew ?_))); (case side2 => exact (Kd.R_reads' HO659.out).2.1); rintro e w72 ⟨v662, v665, rfl, ho0, ho1, hb⟩; refine ⟨_, rfl, ?_⟩; have n0_ := Aside0.mk (Kd.R_elder' (by (with_reducible repeat (first | apply Kd.R_alloc | apply Kd.R_drewN | apply Kd.R_drew)); exact HO_633001.out) (Kd.R_base ho0) hb); have n1_ := Aside0.mk (Kd.R_elder' (by (with_reducible repeat (first | apply Kd.R_alloc | apply Kd.R_drewN | apply Kd.R_drew)); exact HO_633002.out) (Kd.R_base ho1) hb); have n2_ := Aside0.mk (Kd.R_elder' (by (with_reducible repeat (first | apply Kd.R_alloc | apply Kd.R_drewN | apply Kd.R_drew)); exact HO_645001.out) (Kd.R_base ho0) hb); have n3_ := Aside0.mk (Kd.R_elder' (by (with_reducible repeat (first | apply Kd.R_alloc | apply Kd.R_drewN | apply Kd.R_drew)); exact HO_645002.out) (Kd.R_base ho1) hb); have n4_ := Aside0.mk (Kd.R_below (by (with_reducible repeat (first | apply Kd.R_alloc | apply Kd.R_drewN | apply Kd.R_drew)); exact HO659.out) hb); have n5_ := Aside0.mk (Kd.R_lower (Kd.R_new' (Kd.R_new' ho0 (Kd.R_lt (by (with_reducible repeat (first | apply Kd.R_alloc | apply Kd.R_drewN | apply Kd.R_drew)); exact HO_633001.out))) (Kd.R_lt (by (with_reducible repeat (first | apply Kd.R_alloc | apply Kd.R_drewN | apply Kd.R_drew)); exact HO_645001.out))) (below_size (by repeat (first | (with_reducible first | exact HB.out | apply below_alloc | apply pw_below_drewN | apply below_drew1 | refine below_set ?_ GE632.out | refine below_set ?_ GE644.out) | exact HB.out)))); have n6_ := Aside0.mk (Kd.R_lower (Kd.R_new' (Kd.R_new' ho1 (Kd.R_lt (by (with_reducible repeat (first | apply Kd.R_alloc | apply Kd.R_drewN | apply Kd.R_drew)); exact HO_633002.out))) (Kd.R_lt (by (with_reducible repeat (first | apply Kd.R_alloc | apply Kd.R_drewN | apply Kd.R_drew)); exact HO_645002.out))) (below_size (by repeat (first | (with_reducible first | exact HB.out | apply below_alloc | apply pw_below_drewN | apply below_drew1 | refine below_set ?_ GE632.out | refine below_set ?_ GE644.out) | exact HB.out)))); have n7_ := Aside0.mk (blk_below (g := gb632) (o := .cells #[.int .i64 t624, .slice Ao16 t625.length co16, .slice Ao17 t628.length co17] 31 (0, 0)) (by (with_reducible repeat (first | refine blk_drewN ?_ _ | refine blk_drew ?_ | refine blk_alloc ?_ _)); exact BK632.out) hb); have n8_ := Aside0.mk (blk_below (g := gb644) (o := .cells #[.int .i64 t636, .slice Ao24 t637.length co24, .slice Ao25 t640.length co25] 31 (0, 0)) (by (with_reducible repeat (first | refine blk_drewN ?_ _ | refine blk_drew ?_ | refine blk_alloc ?_ _)); exact BK644.out) hb); have n9_ := Aside0.mk (below_step (by repeat (first | (with_reducible first | exact HB.out | apply below_alloc | apply pw_below_drewN | apply below_drew1 | refine below_set ?_ GE632.out | refine below_set ?_ GE644.out) | exact HB.out)) hb); clear HO_633001; clear HO_633002; clear HO_645001; clear HO_645002; clear HO659; clear BK632; clear BK644; clear HB; have HO_633001 := n0_; have HO_633002 := n1_; have HO_645001 := n2_; have HO_645002 := n3_; have HO659 := n4_; have HO663 := n5_; have HO666 := n6_; have BK632 := n7_; have BK644 := n8_; have HB := n9_; clear n0_ n1_ n2_ n3_ n4_ n5_ n6_ n7_ n8_ n9_; (try clear hb); (try clear hb2); (try clear hk); (try clear hi); (try clear ho0); (try clear ho1)) | ((with_reducible refine gate_dst (N := 16) rfl ?_); refine box_event ?hg (N := 16) ?hd (cs := #[.int .i64 0, .slice none 0 0, .slice none 0 0]) (t := 31) ?hr ?_; (case hd => rfl); (case hg => rfl); (case hr => first | (go_simp; done) | (go_simp; rfl)); intro gb668 hg w73 hbox hb; have n0_ := Aside0.mk (Kd.R_below (by (with_reducible repeat (first | apply Kd.R_alloc | apply Kd.R_drewN | apply Kd.R_drew)); exact HO_633001.out) hb); have n1_ := Aside0.mk (Kd.R_below (by (with_reducible repeat (first | apply Kd.R_alloc | apply Kd.R_drewN | apply Kd.R_drew)); exact HO_633002.out) hb); have n2_ := Aside0.mk (Kd.R_below (by (with_reducible repeat (first | apply Kd.R_alloc | apply Kd.R_drewN | apply Kd.R_drew)); exact HO_645001.out) hb); have n3_ := Aside0.mk (Kd.R_below (by (with_reducible repeat (first | apply Kd.R_alloc | apply Kd.R_drewN | apply Kd.R_drew)); exact HO_645002.out) hb); have n4_ := Aside0.mk (Kd.R_below (by (with_reducible repeat (first | apply Kd.R_alloc | apply Kd.R_drewN | apply Kd.R_drew)); exact HO659.out) hb); have n5_ := Aside0.mk (Kd.R_below (by (with_reducible repeat (first | apply Kd.R_alloc | apply Kd.R_drewN | apply Kd.R_drew)); exact HO663.out) hb); have n6_ := Aside0.mk (Kd.R_below (by (with_reducible repeat (first | apply Kd.R_alloc | apply Kd.R_drewN | apply Kd.R_drew)); exact HO666.out) hb); have n7_ := Aside0.mk (blk_below (g := gb632) (o := .cells #[.int .i64 t624, .slice Ao16 t625.length co16, .slice Ao17 t628.length co17] 31 (0, 0)) (by (with_reducible repeat (first | refine blk_drewN ?_ _ | refine blk_drew ?_ | refine blk_alloc ?_ _)); exact BK632.out) hb); have n8_ := Aside0.mk (blk_below (g := gb644) (o := .cells #[.int .i64 t636, .slice Ao24 t637.length co24, .slice Ao25 t640.length co25] 31 (0, 0)) (by (with_reducible repeat (first | refine blk_drewN ?_ _ | refine blk_drew ?_ | refine blk_alloc ?_ _)); exact BK644.out) hb); have n9_ := Aside0.mk (below_step (by repeat (first | (with_reducible first | exact HB.out | apply below_alloc | apply pw_below_drewN | apply below_drew1 | refine below_set ?_ GE632.out | refine below_set ?_ GE644.out) | exact HB.out)) hb); have n10_ := Aside0.mk (hbox); have n11_ := Aside0.mk ((by rw [hg]; exact (below_size (by repeat (first | (with_reducible first | exact HB.out | apply below_alloc | apply pw_below_drewN | apply below_drew1 | refine below_set ?_ GE632.out | refine below_set ?_ GE644.out) | exact HB.out))) : w.heap.size ≤ gb668)); have n12_ := Aside0.mk ((by rw [hg]; exact (below_size (by repeat (first | (with_reducible first | exact HB.out | apply below_alloc | apply pw_below_drewN | apply below_drew1 | refine below_set ?_ GE632.out | refine below_set ?_ GE644.out) | exact HB.out))) : w.heap.size ≤ gb668)); have n13_ := Aside0.mk ((by rw [hg]; exact Nat.ne_of_lt (blk_lt (g := gb632) (o := .cells #[.int .i64 t624, .slice Ao16 t625.length co16, .slice Ao17 t628.length co17] 31 (0, 0)) (by (with_reducible repeat (first | refine blk_drewN ?_ _ | refine blk_drew ?_ | refine blk_alloc ?_ _)); exact BK632.out)) : gb632 ≠ gb668)); have n14_ := Aside0.mk ((by rw [hg]; exact Nat.ne_of_gt (blk_lt (g := gb632) (o := .cells #[.int .i64 t624, .slice Ao16 t625.length co16, .slice Ao17 t628.length co17] 31 (0, 0)) (by (with_reducible repeat (first | refine blk_drewN ?_ _ | refine blk_drew ?_ | refine blk_alloc ?_ _)); exact BK632.out)) : gb668 ≠ gb632)); have n15_ := Aside0.mk ((by rw [hg]; exact Nat.ne_of_lt (blk_lt (g := gb644) (o := .cells #[.int .i64 t636, .slice Ao24 t637.length co24, .slice Ao25 t640.length co25] 31 (0, 0)) (by (with_reducible repeat (first | refine blk_drewN ?_ _ | refine blk_drew ?_ | refine blk_alloc ?_ _)); exact BK644.out)) : gb644 ≠ gb668)); have n16_ := Aside0.mk ((by rw [hg]; exact Nat.ne_of_gt (blk_lt (g := gb644) (o := .cells #[.int .i64 t636, .slice Ao24 t637.length co24, .slice Ao25 t640.length co25] 31 (0, 0)) (by (with_reducible repeat (first | refine blk_drewN ?_ _ | refine blk_drew ?_ | refine blk_alloc ?_ _)); exact BK644.out)) : gb668 ≠ gb644)); clear HO_633001; clear HO_633002; clear HO_645001; clear HO_645002; clear HO659; clear HO663; clear HO666; clear BK632; clear BK644; clear HB; have HO_633001 := n0_; have HO_633002 := n1_; have HO_645001 := n2_; have HO_645002 := n3_; have HO659 := n4_; have HO663 := n5_; have HO666 := n6_; have BK632 := n7_; have BK644 := n8_; have HB := n9_; have BK668 := n10_; have GW668 := n11_; have GE668 := n12_; have NB632_668 := n13_; have NB668_632 := n14_; have NB644_668 := n15_; have NB668_644 := n16_; clear n0_ n1_ n2_ n3_ n4_ n5_ n6_ n7_ n8_ n9_ n10_ n11_ n12_ n13_ n14_ n15_ n16_; clear hb hbox hg; have hnb74 := NB668_632.out; have hnc74 := NB632_668.out; have hnb75 := NB668_644.out; have hnc75 := NB644_668.out; have hcz76_0 : w73.cell? ⟨gb668, 0, none⟩ = some (.int .i64 0) := (blk_cell BK668.out 0).trans rfl; have hcz76_1 : w73.cell? ⟨gb668, 1, none⟩ = some (.slice none 0 0) := (blk_cell BK668.out 1).trans rfl; have hcz76_2 : w73.cell? ⟨gb668, 2, none⟩ = some (.slice none 0 0) := (blk_cell BK668.out 2).trans rfl; have hfz76_0 := blk_frozen BK668.out 0; have hfz76_1 := blk_frozen BK668.out 1; have hfz76_2 := blk_frozen BK668.out 2; obtain ⟨Ao77, co77, eo77⟩ := Kd.R_slice HO663.out; subst eo77; obtain ⟨Ao78, co78, eo78⟩ := Kd.R_slice HO666.out; subst eo78))
                      (try simp only [Act.put, List.setIfInBounds_toArray, List.set_cons_zero, List.set_cons_succ])
                      go_cut [97] (fun v97 wc => ∃ (kq : Nat) (x97_63 : Bool), v97 = .bool x97_63 ∧ Aside0 (laws_FnExactLogFrom.j2 kq t653 x97_63 t636 t654 t655 = some r) ∧ Aside0 (kq ≤ kj40) ∧ Aside0 (Kd.R (Kd.int .u16) 42 wc w.heap.size (fun k_ => some k_ ≠ ((.slice Ao24 t637.length co24) : Value).ownBlock ∧ some k_ ≠ ((.slice Ao77 t661.length co77) : Value).ownBlock) (.slice Ao16 t625.length co16) t625) ∧ Aside0 (Kd.R (Kd.int .i16) 71 wc w.heap.size (fun k_ => some k_ ≠ ((.slice Ao25 t640.length co25) : Value).ownBlock ∧ some k_ ≠ ((.slice Ao78 t664.length co78) : Value).ownBlock) (.slice Ao17 t628.length co17) t628) ∧ Aside0 (Kd.R (Kd.int .u16) 42 wc w.heap.size (fun k_ => some k_ ≠ ((.slice Ao16 t625.length co16) : Value).ownBlock ∧ some k_ ≠ ((.slice Ao77 t661.length co77) : Value).ownBlock) (.slice Ao24 t637.length co24) t654) ∧ Aside0 (Kd.R (Kd.int .i16) 71 wc w.heap.size (fun k_ => some k_ ≠ ((.slice Ao17 t628.length co17) : Value).ownBlock ∧ some k_ ≠ ((.slice Ao78 t664.length co78) : Value).ownBlock) (.slice Ao25 t640.length co25) t655) ∧ Aside0 (Kd.R (Kd.int .u16) 42 wc w.heap.size (fun k_ => some k_ ≠ ((.slice Ao16 t625.length co16) : Value).ownBlock ∧ some k_ ≠ ((.slice Ao24 t637.length co24) : Value).ownBlock) (.slice Ao77 t661.length co77) t661) ∧ Aside0 (Kd.R (Kd.int .i16) 71 wc w.heap.size (fun k_ => some k_ ≠ ((.slice Ao17 t628.length co17) : Value).ownBlock ∧ some k_ ≠ ((.slice Ao25 t640.length co25) : Value).ownBlock) (.slice Ao78 t664.length co78) t664) ∧ Aside0 (wc.heap[gb632]? = some (.cells #[.int .i64 t624, (.slice Ao16 t625.length co16), (.slice Ao17 t628.length co17)] 31 (0, 0))) ∧ Aside0 (wc.heap[gb644]? = some (.cells #[.int .i64 t636, (.slice Ao24 t637.length co24), (.slice Ao25 t640.length co25)] 31 (0, 0))) ∧ Aside0 (wc.heap[gb668]? = some (.cells #[.int .i64 t660, (.slice Ao77 t661.length co77), (.slice Ao78 t664.length co78)] 31 (0, 0))) ∧ Aside0 (Below w.heap.size w wc))
                      case first =>
                        have H := HC64.out
                        clear HC64
                        replace H := Option.bind_eq_some_iff.mp H
                        obtain ⟨t669, A790, H⟩ := H
                        replace H : (if t669 = true then (laws_FnExactLogFrom.j2 kj40 t653 (t667 != t631) t636 t654 t655) else (laws_FnExactLogFrom.j2 kj40 t653 true t636 t654 t655)) = some r := H
                        have A79 := Aside0.mk A790
                        clear A790
                        by_cases c80 : t669 = true
                        · subst c80
                          have H1 : (laws_FnExactLogFrom.j2 kj40 t653 (t667 != t631) t636 t654 t655) = some r := by rw [if_pos rfl] at H; exact H
                          clear H
                          have H := H1
                          clear H1
                          have H' := Aside0.mk H
                          clear H
                          have hnb81 := NB668_632.out
                          have hnc81 := NB632_668.out
                          have hnb82 := NB668_644.out
                          have hnc82 := NB644_668.out
                          have hcz83_0 : w73.cell? ⟨gb668, 0, none⟩ = some (.int .i64 0) := (blk_cell BK668.out 0).trans rfl
                          have hcz83_1 : w73.cell? ⟨gb668, 1, none⟩ = some (.slice none 0 0) := (blk_cell BK668.out 1).trans rfl
                          have hcz83_2 : w73.cell? ⟨gb668, 2, none⟩ = some (.slice none 0 0) := (blk_cell BK668.out 2).trans rfl
                          have hfz83_0 := blk_frozen BK668.out 0
                          have hfz83_1 := blk_frozen BK668.out 1
                          have hfz83_2 := blk_frozen BK668.out 2
                          have hnb84 := NB632_644.out
                          have hnc84 := NB644_632.out
                          have hcz85_0 : w73.cell? ⟨gb632, 0, none⟩ = some (.int .i64 t624) := (blk_cell BK632.out 0).trans rfl
                          have hcz85_1 : w73.cell? ⟨gb632, 1, none⟩ = some (.slice Ao16 t625.length co16) := (blk_cell BK632.out 1).trans rfl
                          have hcz85_2 : w73.cell? ⟨gb632, 2, none⟩ = some (.slice Ao17 t628.length co17) := (blk_cell BK632.out 2).trans rfl
                          have hfz85_0 := blk_frozen BK632.out 0
                          have hfz85_1 := blk_frozen BK632.out 1
                          have hfz85_2 := blk_frozen BK632.out 2
                          go_wp2_with (first | ((with_reducible refine gate_callee (f := 17) rfl ?_); refine goesL_ (some 91) rfl rfl Try.func17 (by kernel_rfl) rfl #[.agg #[.int .i64 t660, .slice Ao77 t661.length co77, .slice Ao78 t664.length co78], .agg #[.int .i64 t624, .slice Ao16 t625.length co16, .slice Ao17 t628.length co17]] rfl (by (try simp only [List.map_toArray, List.map_cons, List.map_nil]); first | done | rfl | (simp only [List.length_drop, List.length_take]; rfl)) ?_; (with_reducible refine (laws_eqLog.calls kj40 t660 _ _ t661 _ _ t664 t624 _ _ t625 _ _ t628 true _ ?side1 ?side2 ?side3 ?side4 ?side5 ?side6 ?side7 ?side8 A79.out).mono ?_); (case side1 => refine (Kd.R_reads' (e := 42) (base := w.heap.size) (ok := fun k_ => ((True ∧ some k_ ≠ (.slice Ao16 t625.length co16 : Value).ownBlock) ∧ some k_ ≠ (.slice Ao24 t637.length co24 : Value).ownBlock)) (n := t661.length) (c := co77) ?_).2.2; exact (by (with_reducible repeat (first | apply Kd.R_alloc | apply Kd.R_drewN | apply Kd.R_drew)); exact (Kd.R_mono (Kd.R_far (p := ⟨gb668, 2, none⟩) (Kd.R_far (p := ⟨gb668, 1, none⟩) (Kd.R_far (p := ⟨gb668, 0, none⟩) (Kd.R_types HO663.out BK668.out (by decide)) (fun _ hk => hk.2) (.int .i64 t660)) (fun _ hk => hk.2) (.slice Ao77 t661.length co77)) (fun _ hk => hk.2) (.slice Ao78 t664.length co78)) (fun _ h_ => h_.1)))); (case side2 => exact (Kd.R_reads' HO663.out).2.1); (case side3 => refine (Kd.R_reads' (e := 71) (base := w.heap.size) (ok := fun k_ => ((True ∧ some k_ ≠ (.slice Ao17 t628.length co17 : Value).ownBlock) ∧ some k_ ≠ (.slice Ao25 t640.length co25 : Value).ownBlock)) (n := t664.length) (c := co78) ?_).2.2; exact (by (with_reducible repeat (first | apply Kd.R_alloc | apply Kd.R_drewN | apply Kd.R_drew)); exact (Kd.R_mono (Kd.R_far (p := ⟨gb668, 2, none⟩) (Kd.R_far (p := ⟨gb668, 1, none⟩) (Kd.R_far (p := ⟨gb668, 0, none⟩) (Kd.R_types HO666.out BK668.out (by decide)) (fun _ hk => hk.2) (.int .i64 t660)) (fun _ hk => hk.2) (.slice Ao77 t661.length co77)) (fun _ hk => hk.2) (.slice Ao78 t664.length co78)) (fun _ h_ => h_.1)))); (case side4 => exact (Kd.R_reads' HO666.out).2.1); (case side5 => refine (Kd.R_reads' (e := 42) (base := w.heap.size) (ok := fun k_ => (some k_ ≠ (.slice Ao24 t637.length co24 : Value).ownBlock ∧ some k_ ≠ (.slice Ao77 t661.length co77 : Value).ownBlock)) (n := t625.length) (c := co16) ?_).2.2; exact (by (with_reducible repeat (first | apply Kd.R_alloc | apply Kd.R_drewN | apply Kd.R_drew)); exact (Kd.R_mono (Kd.R_far (p := ⟨gb668, 2, none⟩) (Kd.R_far (p := ⟨gb668, 1, none⟩) (Kd.R_far (p := ⟨gb668, 0, none⟩) (Kd.R_types HO_633001.out BK668.out (by decide)) (fun _ hk => hk.2) (.int .i64 t660)) (fun _ hk => hk.2) (.slice Ao77 t661.length co77)) (fun _ hk => hk.2) (.slice Ao78 t664.length co78)) (fun _ h_ => h_.1)))); (case side6 => exact (Kd.R_reads' HO_633001.out).2.1); (case side7 => refine (Kd.R_reads' (e := 71) (base := w.heap.size) (ok := fun k_ => (some k_ ≠ (.slice Ao25 t640.length co25 : Value).ownBlock ∧ some k_ ≠ (.slice Ao78 t664.length co78 : Value).ownBlock)) (n := t628.length) (c := co17) ?_).2.2; exact (by (with_reducible repeat (first | apply Kd.R_alloc | apply Kd.R_drewN | apply Kd.R_drew)); exact (Kd.R_mono (Kd.R_far (p := ⟨gb668, 2, none⟩) (Kd.R_far (p := ⟨gb668, 1, none⟩) (Kd.R_far (p := ⟨gb668, 0, none⟩) (Kd.R_types HO_633002.out BK668.out (by decide)) (fun _ hk => hk.2) (.int .i64 t660)) (fun _ hk => hk.2) (.slice Ao77 t661.length co77)) (fun _ hk => hk.2) (.slice Ao78 t664.length co78)) (fun _ h_ => h_.1)))); (case side8 => exact (Kd.R_reads' HO_633002.out).2.1); rintro e w86 ⟨rfl, hb⟩; refine ⟨_, rfl, ?_⟩; have n0_ := Aside0.mk (Kd.R_below (by (with_reducible repeat (first | apply Kd.R_alloc | apply Kd.R_drewN | apply Kd.R_drew)); exact (Kd.R_mono (Kd.R_far (p := ⟨gb668, 2, none⟩) (Kd.R_far (p := ⟨gb668, 1, none⟩) (Kd.R_far (p := ⟨gb668, 0, none⟩) (Kd.R_types HO_633001.out BK668.out (by decide)) (fun _ hk => hk.2) (.int .i64 t660)) (fun _ hk => hk.2) (.slice Ao77 t661.length co77)) (fun _ hk => hk.2) (.slice Ao78 t664.length co78)) (fun _ h_ => h_.1))) hb); have n1_ := Aside0.mk (Kd.R_below (by (with_reducible repeat (first | apply Kd.R_alloc | apply Kd.R_drewN | apply Kd.R_drew)); exact (Kd.R_mono (Kd.R_far (p := ⟨gb668, 2, none⟩) (Kd.R_far (p := ⟨gb668, 1, none⟩) (Kd.R_far (p := ⟨gb668, 0, none⟩) (Kd.R_types HO_633002.out BK668.out (by decide)) (fun _ hk => hk.2) (.int .i64 t660)) (fun _ hk => hk.2) (.slice Ao77 t661.length co77)) (fun _ hk => hk.2) (.slice Ao78 t664.length co78)) (fun _ h_ => h_.1))) hb); have n2_ := Aside0.mk (Kd.R_below (by (with_reducible repeat (first | apply Kd.R_alloc | apply Kd.R_drewN | apply Kd.R_drew)); exact (Kd.R_mono (Kd.R_far (p := ⟨gb668, 2, none⟩) (Kd.R_far (p := ⟨gb668, 1, none⟩) (Kd.R_far (p := ⟨gb668, 0, none⟩) (Kd.R_types HO_645001.out BK668.out (by decide)) (fun _ hk => hk.2) (.int .i64 t660)) (fun _ hk => hk.2) (.slice Ao77 t661.length co77)) (fun _ hk => hk.2) (.slice Ao78 t664.length co78)) (fun _ h_ => h_.1))) hb); have n3_ := Aside0.mk (Kd.R_below (by (with_reducible repeat (first | apply Kd.R_alloc | apply Kd.R_drewN | apply Kd.R_drew)); exact (Kd.R_mono (Kd.R_far (p := ⟨gb668, 2, none⟩) (Kd.R_far (p := ⟨gb668, 1, none⟩) (Kd.R_far (p := ⟨gb668, 0, none⟩) (Kd.R_types HO_645002.out BK668.out (by decide)) (fun _ hk => hk.2) (.int .i64 t660)) (fun _ hk => hk.2) (.slice Ao77 t661.length co77)) (fun _ hk => hk.2) (.slice Ao78 t664.length co78)) (fun _ h_ => h_.1))) hb); have n4_ := Aside0.mk (Kd.R_below (by (with_reducible repeat (first | apply Kd.R_alloc | apply Kd.R_drewN | apply Kd.R_drew)); exact (Kd.R_mono (Kd.R_far (p := ⟨gb668, 2, none⟩) (Kd.R_far (p := ⟨gb668, 1, none⟩) (Kd.R_far (p := ⟨gb668, 0, none⟩) (Kd.R_types HO659.out BK668.out (by decide)) (fun _ hk => hk.2) (.int .i64 t660)) (fun _ hk => hk.2) (.slice Ao77 t661.length co77)) (fun _ hk => hk.2) (.slice Ao78 t664.length co78)) (fun _ h_ => h_.1))) hb); have n5_ := Aside0.mk (Kd.R_below (by (with_reducible repeat (first | apply Kd.R_alloc | apply Kd.R_drewN | apply Kd.R_drew)); exact (Kd.R_mono (Kd.R_far (p := ⟨gb668, 2, none⟩) (Kd.R_far (p := ⟨gb668, 1, none⟩) (Kd.R_far (p := ⟨gb668, 0, none⟩) (Kd.R_types HO663.out BK668.out (by decide)) (fun _ hk => hk.2) (.int .i64 t660)) (fun _ hk => hk.2) (.slice Ao77 t661.length co77)) (fun _ hk => hk.2) (.slice Ao78 t664.length co78)) (fun _ h_ => h_.1))) hb); have n6_ := Aside0.mk (Kd.R_below (by (with_reducible repeat (first | apply Kd.R_alloc | apply Kd.R_drewN | apply Kd.R_drew)); exact (Kd.R_mono (Kd.R_far (p := ⟨gb668, 2, none⟩) (Kd.R_far (p := ⟨gb668, 1, none⟩) (Kd.R_far (p := ⟨gb668, 0, none⟩) (Kd.R_types HO666.out BK668.out (by decide)) (fun _ hk => hk.2) (.int .i64 t660)) (fun _ hk => hk.2) (.slice Ao77 t661.length co77)) (fun _ hk => hk.2) (.slice Ao78 t664.length co78)) (fun _ h_ => h_.1))) hb); have n7_ := Aside0.mk (blk_below (g := gb632) (o := .cells #[.int .i64 t624, .slice Ao16 t625.length co16, .slice Ao17 t628.length co17] 31 (0, 0)) (by (with_reducible repeat (first | refine blk_drewN ?_ _ | refine blk_drew ?_ | refine blk_alloc ?_ _)); refine blk_far ?_ NB632_668.out _; (with_reducible repeat (first | refine blk_drewN ?_ _ | refine blk_drew ?_ | refine blk_alloc ?_ _)); refine blk_far ?_ NB632_668.out _; (with_reducible repeat (first | refine blk_drewN ?_ _ | refine blk_drew ?_ | refine blk_alloc ?_ _)); refine blk_far ?_ NB632_668.out _; (with_reducible repeat (first | refine blk_drewN ?_ _ | refine blk_drew ?_ | refine blk_alloc ?_ _)); exact BK632.out) hb); have n8_ := Aside0.mk (blk_below (g := gb644) (o := .cells #[.int .i64 t636, .slice Ao24 t637.length co24, .slice Ao25 t640.length co25] 31 (0, 0)) (by (with_reducible repeat (first | refine blk_drewN ?_ _ | refine blk_drew ?_ | refine blk_alloc ?_ _)); refine blk_far ?_ NB644_668.out _; (with_reducible repeat (first | refine blk_drewN ?_ _ | refine blk_drew ?_ | refine blk_alloc ?_ _)); refine blk_far ?_ NB644_668.out _; (with_reducible repeat (first | refine blk_drewN ?_ _ | refine blk_drew ?_ | refine blk_alloc ?_ _)); refine blk_far ?_ NB644_668.out _; (with_reducible repeat (first | refine blk_drewN ?_ _ | refine blk_drew ?_ | refine blk_alloc ?_ _)); exact BK644.out) hb); have n9_ := Aside0.mk (blk_below (g := gb668) (o := .cells #[.int .i64 t660, .slice Ao77 t661.length co77, .slice Ao78 t664.length co78] 31 (0, 0)) (by (with_reducible repeat (first | refine blk_drewN ?_ _ | refine blk_drew ?_ | refine blk_alloc ?_ _)); refine blk_put (cs := #[.int .i64 t660, .slice Ao77 t661.length co77, .slice none 0 0]) ?_ 2 _ rfl; (with_reducible repeat (first | refine blk_drewN ?_ _ | refine blk_drew ?_ | refine blk_alloc ?_ _)); refine blk_put (cs := #[.int .i64 t660, .slice none 0 0, .slice none 0 0]) ?_ 1 _ rfl; (with_reducible repeat (first | refine blk_drewN ?_ _ | refine blk_drew ?_ | refine blk_alloc ?_ _)); refine blk_put (cs := #[.int .i64 0, .slice none 0 0, .slice none 0 0]) ?_ 0 _ rfl; (with_reducible repeat (first | refine blk_drewN ?_ _ | refine blk_drew ?_ | refine blk_alloc ?_ _)); exact BK668.out) hb); have n10_ := Aside0.mk (below_step (by repeat (first | (with_reducible first | exact HB.out | apply below_alloc | apply pw_below_drewN | apply below_drew1 | refine below_set ?_ GE632.out | refine below_set ?_ GE644.out | refine below_set ?_ GE668.out) | exact HB.out)) hb); clear HO_633001; clear HO_633002; clear HO_645001; clear HO_645002; clear HO659; clear HO663; clear HO666; clear BK632; clear BK644; clear BK668; clear HB; have HO_633001 := n0_; have HO_633002 := n1_; have HO_645001 := n2_; have HO_645002 := n3_; have HO659 := n4_; have HO663 := n5_; have HO666 := n6_; have BK632 := n7_; have BK644 := n8_; have BK668 := n9_; have HB := n10_; clear n0_ n1_ n2_ n3_ n4_ n5_ n6_ n7_ n8_ n9_ n10_; (try clear hb); (try clear hb2); (try clear hk); (try clear hi)))
                          go_meet
                          case rel => exact ⟨_, ((t667 != t631)), (by first | rfl | (simp; done) | (simp [*]; done)), H', ⟨by have := HJ9.out; have := HJ40.out; first | omega | exact Nat.le_refl _⟩, ⟨by (with_reducible repeat (first | apply Kd.R_alloc | apply Kd.R_drewN | apply Kd.R_drew)); exact HO_633001.out⟩, ⟨by (with_reducible repeat (first | apply Kd.R_alloc | apply Kd.R_drewN | apply Kd.R_drew)); exact HO_633002.out⟩, ⟨by (with_reducible repeat (first | apply Kd.R_alloc | apply Kd.R_drewN | apply Kd.R_drew)); exact HO_645001.out⟩, ⟨by (with_reducible repeat (first | apply Kd.R_alloc | apply Kd.R_drewN | apply Kd.R_drew)); exact HO_645002.out⟩, ⟨by (with_reducible repeat (first | apply Kd.R_alloc | apply Kd.R_drewN | apply Kd.R_drew)); exact Kd.R_mono HO663.out (fun _ hk => ⟨hk.1.2, hk.2⟩)⟩, ⟨by (with_reducible repeat (first | apply Kd.R_alloc | apply Kd.R_drewN | apply Kd.R_drew)); exact Kd.R_mono HO666.out (fun _ hk => ⟨hk.1.2, hk.2⟩)⟩, ⟨by (with_reducible repeat (first | refine blk_drewN ?_ _ | refine blk_drew ?_ | refine blk_alloc ?_ _)); exact BK632.out⟩, ⟨by (with_reducible repeat (first | refine blk_drewN ?_ _ | refine blk_drew ?_ | refine blk_alloc ?_ _)); exact BK644.out⟩, ⟨by (with_reducible repeat (first | refine blk_drewN ?_ _ | refine blk_drew ?_ | refine blk_alloc ?_ _)); exact BK668.out⟩, ⟨by repeat (first | (with_reducible first | exact HB.out | apply below_alloc | apply pw_below_drewN | apply below_drew1 | refine below_set ?_ GE632.out | refine below_set ?_ GE644.out | refine below_set ?_ GE668.out) | exact HB.out)⟩⟩
                        · replace c80 := Bool.eq_false_iff.mpr c80
                          subst c80
                          have H1 : (laws_FnExactLogFrom.j2 kj40 t653 true t636 t654 t655) = some r := by rw [if_neg (show ¬ (false = true) by decide)] at H; exact H
                          clear H
                          have H := H1
                          clear H1
                          have H' := Aside0.mk H
                          clear H
                          have hnb87 := NB668_632.out
                          have hnc87 := NB632_668.out
                          have hnb88 := NB668_644.out
                          have hnc88 := NB644_668.out
                          have hcz89_0 : w73.cell? ⟨gb668, 0, none⟩ = some (.int .i64 0) := (blk_cell BK668.out 0).trans rfl
                          have hcz89_1 : w73.cell? ⟨gb668, 1, none⟩ = some (.slice none 0 0) := (blk_cell BK668.out 1).trans rfl
                          have hcz89_2 : w73.cell? ⟨gb668, 2, none⟩ = some (.slice none 0 0) := (blk_cell BK668.out 2).trans rfl
                          have hfz89_0 := blk_frozen BK668.out 0
                          have hfz89_1 := blk_frozen BK668.out 1
                          have hfz89_2 := blk_frozen BK668.out 2
                          have hnb90 := NB632_644.out
                          have hnc90 := NB644_632.out
                          have hcz91_0 : w73.cell? ⟨gb632, 0, none⟩ = some (.int .i64 t624) := (blk_cell BK632.out 0).trans rfl
                          have hcz91_1 : w73.cell? ⟨gb632, 1, none⟩ = some (.slice Ao16 t625.length co16) := (blk_cell BK632.out 1).trans rfl
                          have hcz91_2 : w73.cell? ⟨gb632, 2, none⟩ = some (.slice Ao17 t628.length co17) := (blk_cell BK632.out 2).trans rfl
                          have hfz91_0 := blk_frozen BK632.out 0
                          have hfz91_1 := blk_frozen BK632.out 1
                          have hfz91_2 := blk_frozen BK632.out 2
                          go_wp2_with (first | ((with_reducible refine gate_callee (f := 17) rfl ?_); refine goesL_ (some 91) rfl rfl Try.func17 (by kernel_rfl) rfl #[.agg #[.int .i64 t660, .slice Ao77 t661.length co77, .slice Ao78 t664.length co78], .agg #[.int .i64 t624, .slice Ao16 t625.length co16, .slice Ao17 t628.length co17]] rfl (by (try simp only [List.map_toArray, List.map_cons, List.map_nil]); first | done | rfl | (simp only [List.length_drop, List.length_take]; rfl)) ?_; (with_reducible refine (laws_eqLog.calls kj40 t660 _ _ t661 _ _ t664 t624 _ _ t625 _ _ t628 false _ ?side1 ?side2 ?side3 ?side4 ?side5 ?side6 ?side7 ?side8 A79.out).mono ?_); (case side1 => refine (Kd.R_reads' (e := 42) (base := w.heap.size) (ok := fun k_ => ((True ∧ some k_ ≠ (.slice Ao16 t625.length co16 : Value).ownBlock) ∧ some k_ ≠ (.slice Ao24 t637.length co24 : Value).ownBlock)) (n := t661.length) (c := co77) ?_).2.2; exact (by (with_reducible repeat (first | apply Kd.R_alloc | apply Kd.R_drewN | apply Kd.R_drew)); exact (Kd.R_mono (Kd.R_far (p := ⟨gb668, 2, none⟩) (Kd.R_far (p := ⟨gb668, 1, none⟩) (Kd.R_far (p := ⟨gb668, 0, none⟩) (Kd.R_types HO663.out BK668.out (by decide)) (fun _ hk => hk.2) (.int .i64 t660)) (fun _ hk => hk.2) (.slice Ao77 t661.length co77)) (fun _ hk => hk.2) (.slice Ao78 t664.length co78)) (fun _ h_ => h_.1)))); (case side2 => exact (Kd.R_reads' HO663.out).2.1); (case side3 => refine (Kd.R_reads' (e := 71) (base := w.heap.size) (ok := fun k_ => ((True ∧ some k_ ≠ (.slice Ao17 t628.length co17 : Value).ownBlock) ∧ some k_ ≠ (.slice Ao25 t640.length co25 : Value).ownBlock)) (n := t664.length) (c := co78) ?_).2.2; exact (by (with_reducible repeat (first | apply Kd.R_alloc | apply Kd.R_drewN | apply Kd.R_drew)); exact (Kd.R_mono (Kd.R_far (p := ⟨gb668, 2, none⟩) (Kd.R_far (p := ⟨gb668, 1, none⟩) (Kd.R_far (p := ⟨gb668, 0, none⟩) (Kd.R_types HO666.out BK668.out (by decide)) (fun _ hk => hk.2) (.int .i64 t660)) (fun _ hk => hk.2) (.slice Ao77 t661.length co77)) (fun _ hk => hk.2) (.slice Ao78 t664.length co78)) (fun _ h_ => h_.1)))); (case side4 => exact (Kd.R_reads' HO666.out).2.1); (case side5 => refine (Kd.R_reads' (e := 42) (base := w.heap.size) (ok := fun k_ => (some k_ ≠ (.slice Ao24 t637.length co24 : Value).ownBlock ∧ some k_ ≠ (.slice Ao77 t661.length co77 : Value).ownBlock)) (n := t625.length) (c := co16) ?_).2.2; exact (by (with_reducible repeat (first | apply Kd.R_alloc | apply Kd.R_drewN | apply Kd.R_drew)); exact (Kd.R_mono (Kd.R_far (p := ⟨gb668, 2, none⟩) (Kd.R_far (p := ⟨gb668, 1, none⟩) (Kd.R_far (p := ⟨gb668, 0, none⟩) (Kd.R_types HO_633001.out BK668.out (by decide)) (fun _ hk => hk.2) (.int .i64 t660)) (fun _ hk => hk.2) (.slice Ao77 t661.length co77)) (fun _ hk => hk.2) (.slice Ao78 t664.length co78)) (fun _ h_ => h_.1)))); (case side6 => exact (Kd.R_reads' HO_633001.out).2.1); (case side7 => refine (Kd.R_reads' (e := 71) (base := w.heap.size) (ok := fun k_ => (some k_ ≠ (.slice Ao25 t640.length co25 : Value).ownBlock ∧ some k_ ≠ (.slice Ao78 t664.length co78 : Value).ownBlock)) (n := t628.length) (c := co17) ?_).2.2; exact (by (with_reducible repeat (first | apply Kd.R_alloc | apply Kd.R_drewN | apply Kd.R_drew)); exact (Kd.R_mono (Kd.R_far (p := ⟨gb668, 2, none⟩) (Kd.R_far (p := ⟨gb668, 1, none⟩) (Kd.R_far (p := ⟨gb668, 0, none⟩) (Kd.R_types HO_633002.out BK668.out (by decide)) (fun _ hk => hk.2) (.int .i64 t660)) (fun _ hk => hk.2) (.slice Ao77 t661.length co77)) (fun _ hk => hk.2) (.slice Ao78 t664.length co78)) (fun _ h_ => h_.1)))); (case side8 => exact (Kd.R_reads' HO_633002.out).2.1); rintro e w92 ⟨rfl, hb⟩; refine ⟨_, rfl, ?_⟩; have n0_ := Aside0.mk (Kd.R_below (by (with_reducible repeat (first | apply Kd.R_alloc | apply Kd.R_drewN | apply Kd.R_drew)); exact (Kd.R_mono (Kd.R_far (p := ⟨gb668, 2, none⟩) (Kd.R_far (p := ⟨gb668, 1, none⟩) (Kd.R_far (p := ⟨gb668, 0, none⟩) (Kd.R_types HO_633001.out BK668.out (by decide)) (fun _ hk => hk.2) (.int .i64 t660)) (fun _ hk => hk.2) (.slice Ao77 t661.length co77)) (fun _ hk => hk.2) (.slice Ao78 t664.length co78)) (fun _ h_ => h_.1))) hb); have n1_ := Aside0.mk (Kd.R_below (by (with_reducible repeat (first | apply Kd.R_alloc | apply Kd.R_drewN | apply Kd.R_drew)); exact (Kd.R_mono (Kd.R_far (p := ⟨gb668, 2, none⟩) (Kd.R_far (p := ⟨gb668, 1, none⟩) (Kd.R_far (p := ⟨gb668, 0, none⟩) (Kd.R_types HO_633002.out BK668.out (by decide)) (fun _ hk => hk.2) (.int .i64 t660)) (fun _ hk => hk.2) (.slice Ao77 t661.length co77)) (fun _ hk => hk.2) (.slice Ao78 t664.length co78)) (fun _ h_ => h_.1))) hb); have n2_ := Aside0.mk (Kd.R_below (by (with_reducible repeat (first | apply Kd.R_alloc | apply Kd.R_drewN | apply Kd.R_drew)); exact (Kd.R_mono (Kd.R_far (p := ⟨gb668, 2, none⟩) (Kd.R_far (p := ⟨gb668, 1, none⟩) (Kd.R_far (p := ⟨gb668, 0, none⟩) (Kd.R_types HO_645001.out BK668.out (by decide)) (fun _ hk => hk.2) (.int .i64 t660)) (fun _ hk => hk.2) (.slice Ao77 t661.length co77)) (fun _ hk => hk.2) (.slice Ao78 t664.length co78)) (fun _ h_ => h_.1))) hb); have n3_ := Aside0.mk (Kd.R_below (by (with_reducible repeat (first | apply Kd.R_alloc | apply Kd.R_drewN | apply Kd.R_drew)); exact (Kd.R_mono (Kd.R_far (p := ⟨gb668, 2, none⟩) (Kd.R_far (p := ⟨gb668, 1, none⟩) (Kd.R_far (p := ⟨gb668, 0, none⟩) (Kd.R_types HO_645002.out BK668.out (by decide)) (fun _ hk => hk.2) (.int .i64 t660)) (fun _ hk => hk.2) (.slice Ao77 t661.length co77)) (fun _ hk => hk.2) (.slice Ao78 t664.length co78)) (fun _ h_ => h_.1))) hb); have n4_ := Aside0.mk (Kd.R_below (by (with_reducible repeat (first | apply Kd.R_alloc | apply Kd.R_drewN | apply Kd.R_drew)); exact (Kd.R_mono (Kd.R_far (p := ⟨gb668, 2, none⟩) (Kd.R_far (p := ⟨gb668, 1, none⟩) (Kd.R_far (p := ⟨gb668, 0, none⟩) (Kd.R_types HO659.out BK668.out (by decide)) (fun _ hk => hk.2) (.int .i64 t660)) (fun _ hk => hk.2) (.slice Ao77 t661.length co77)) (fun _ hk => hk.2) (.slice Ao78 t664.length co78)) (fun _ h_ => h_.1))) hb); have n5_ := Aside0.mk (Kd.R_below (by (with_reducible repeat (first | apply Kd.R_alloc | apply Kd.R_drewN | apply Kd.R_drew)); exact (Kd.R_mono (Kd.R_far (p := ⟨gb668, 2, none⟩) (Kd.R_far (p := ⟨gb668, 1, none⟩) (Kd.R_far (p := ⟨gb668, 0, none⟩) (Kd.R_types HO663.out BK668.out (by decide)) (fun _ hk => hk.2) (.int .i64 t660)) (fun _ hk => hk.2) (.slice Ao77 t661.length co77)) (fun _ hk => hk.2) (.slice Ao78 t664.length co78)) (fun _ h_ => h_.1))) hb); have n6_ := Aside0.mk (Kd.R_below (by (with_reducible repeat (first | apply Kd.R_alloc | apply Kd.R_drewN | apply Kd.R_drew)); exact (Kd.R_mono (Kd.R_far (p := ⟨gb668, 2, none⟩) (Kd.R_far (p := ⟨gb668, 1, none⟩) (Kd.R_far (p := ⟨gb668, 0, none⟩) (Kd.R_types HO666.out BK668.out (by decide)) (fun _ hk => hk.2) (.int .i64 t660)) (fun _ hk => hk.2) (.slice Ao77 t661.length co77)) (fun _ hk => hk.2) (.slice Ao78 t664.length co78)) (fun _ h_ => h_.1))) hb); have n7_ := Aside0.mk (blk_below (g := gb632) (o := .cells #[.int .i64 t624, .slice Ao16 t625.length co16, .slice Ao17 t628.length co17] 31 (0, 0)) (by (with_reducible repeat (first | refine blk_drewN ?_ _ | refine blk_drew ?_ | refine blk_alloc ?_ _)); refine blk_far ?_ NB632_668.out _; (with_reducible repeat (first | refine blk_drewN ?_ _ | refine blk_drew ?_ | refine blk_alloc ?_ _)); refine blk_far ?_ NB632_668.out _; (with_reducible repeat (first | refine blk_drewN ?_ _ | refine blk_drew ?_ | refine blk_alloc ?_ _)); refine blk_far ?_ NB632_668.out _; (with_reducible repeat (first | refine blk_drewN ?_ _ | refine blk_drew ?_ | refine blk_alloc ?_ _)); exact BK632.out) hb); have n8_ := Aside0.mk (blk_below (g := gb644) (o := .cells #[.int .i64 t636, .slice Ao24 t637.length co24, .slice Ao25 t640.length co25] 31 (0, 0)) (by (with_reducible repeat (first | refine blk_drewN ?_ _ | refine blk_drew ?_ | refine blk_alloc ?_ _)); refine blk_far ?_ NB644_668.out _; (with_reducible repeat (first | refine blk_drewN ?_ _ | refine blk_drew ?_ | refine blk_alloc ?_ _)); refine blk_far ?_ NB644_668.out _; (with_reducible repeat (first | refine blk_drewN ?_ _ | refine blk_drew ?_ | refine blk_alloc ?_ _)); refine blk_far ?_ NB644_668.out _; (with_reducible repeat (first | refine blk_drewN ?_ _ | refine blk_drew ?_ | refine blk_alloc ?_ _)); exact BK644.out) hb); have n9_ := Aside0.mk (blk_below (g := gb668) (o := .cells #[.int .i64 t660, .slice Ao77 t661.length co77, .slice Ao78 t664.length co78] 31 (0, 0)) (by (with_reducible repeat (first | refine blk_drewN ?_ _ | refine blk_drew ?_ | refine blk_alloc ?_ _)); refine blk_put (cs := #[.int .i64 t660, .slice Ao77 t661.length co77, .slice none 0 0]) ?_ 2 _ rfl; (with_reducible repeat (first | refine blk_drewN ?_ _ | refine blk_drew ?_ | refine blk_alloc ?_ _)); refine blk_put (cs := #[.int .i64 t660, .slice none 0 0, .slice none 0 0]) ?_ 1 _ rfl; (with_reducible repeat (first | refine blk_drewN ?_ _ | refine blk_drew ?_ | refine blk_alloc ?_ _)); refine blk_put (cs := #[.int .i64 0, .slice none 0 0, .slice none 0 0]) ?_ 0 _ rfl; (with_reducible repeat (first | refine blk_drewN ?_ _ | refine blk_drew ?_ | refine blk_alloc ?_ _)); exact BK668.out) hb); have n10_ := Aside0.mk (below_step (by repeat (first | (with_reducible first | exact HB.out | apply below_alloc | apply pw_below_drewN | apply below_drew1 | refine below_set ?_ GE632.out | refine below_set ?_ GE644.out | refine below_set ?_ GE668.out) | exact HB.out)) hb); clear HO_633001; clear HO_633002; clear HO_645001; clear HO_645002; clear HO659; clear HO663; clear HO666; clear BK632; clear BK644; clear BK668; clear HB; have HO_633001 := n0_; have HO_633002 := n1_; have HO_645001 := n2_; have HO_645002 := n3_; have HO659 := n4_; have HO663 := n5_; have HO666 := n6_; have BK632 := n7_; have BK644 := n8_; have BK668 := n9_; have HB := n10_; clear n0_ n1_ n2_ n3_ n4_ n5_ n6_ n7_ n8_ n9_ n10_; (try clear hb); (try clear hb2); (try clear hk); (try clear hi)))
                          go_meet
                          case rel => exact ⟨_, (true), (by first | rfl | (simp; done) | (simp [*]; done)), H', ⟨by have := HJ9.out; have := HJ40.out; first | omega | exact Nat.le_refl _⟩, ⟨by (with_reducible repeat (first | apply Kd.R_alloc | apply Kd.R_drewN | apply Kd.R_drew)); exact HO_633001.out⟩, ⟨by (with_reducible repeat (first | apply Kd.R_alloc | apply Kd.R_drewN | apply Kd.R_drew)); exact HO_633002.out⟩, ⟨by (with_reducible repeat (first | apply Kd.R_alloc | apply Kd.R_drewN | apply Kd.R_drew)); exact HO_645001.out⟩, ⟨by (with_reducible repeat (first | apply Kd.R_alloc | apply Kd.R_drewN | apply Kd.R_drew)); exact HO_645002.out⟩, ⟨by (with_reducible repeat (first | apply Kd.R_alloc | apply Kd.R_drewN | apply Kd.R_drew)); exact Kd.R_mono HO663.out (fun _ hk => ⟨hk.1.2, hk.2⟩)⟩, ⟨by (with_reducible repeat (first | apply Kd.R_alloc | apply Kd.R_drewN | apply Kd.R_drew)); exact Kd.R_mono HO666.out (fun _ hk => ⟨hk.1.2, hk.2⟩)⟩, ⟨by (with_reducible repeat (first | refine blk_drewN ?_ _ | refine blk_drew ?_ | refine blk_alloc ?_ _)); exact BK632.out⟩, ⟨by (with_reducible repeat (first | refine blk_drewN ?_ _ | refine blk_drew ?_ | refine blk_alloc ?_ _)); exact BK644.out⟩, ⟨by (with_reducible repeat (first | refine blk_drewN ?_ _ | refine blk_drew ?_ | refine blk_alloc ?_ _)); exact BK668.out⟩, ⟨by repeat (first | (with_reducible first | exact HB.out | apply below_alloc | apply pw_below_drewN | apply below_drew1 | refine below_set ?_ GE632.out | refine below_set ?_ GE644.out | refine below_set ?_ GE668.out) | exact HB.out)⟩⟩
                      case rest =>
                        clear HC64
                        try clear c1
                        try clear c2
                        try clear p2
                        try clear c3
                        try clear c4
                        try clear c5
                        try clear c5b0
                        try clear c6
                        try clear c7
                        try clear c8
                        try clear c9
                        try clear c17
                        try clear c22
                        try clear c27
                        try clear c28
                        try clear c30
                        try clear c31
                        try clear c32
                        try clear c34
                        try clear c36
                        try clear c37
                        try clear c39
                        try clear c40
                        try clear c46
                        try clear c46b0
                        try clear c48
                        try clear c49
                        try clear c53
                        try clear c57
                        try clear c60
                        try clear c60b0
                        try clear c61
                        try clear c61b0
                        try clear c61b1
                        try clear c65
                        try clear c74
                        try clear c75
                        try clear c80
                        try clear c81
                        try clear c82
                        try clear c84
                        try clear c87
                        try clear c88
                        try clear c90
                        try clear hcz15_0
                        try clear hcz15_1
                        try clear hcz15_2
                        try clear hcz23_0
                        try clear hcz23_1
                        try clear hcz23_2
                        try clear hcz29_0
                        try clear hcz29_1
                        try clear hcz29_2
                        try clear hcz30_0
                        try clear hcz30_1
                        try clear hcz30_2
                        try clear hcz33_0
                        try clear hcz33_1
                        try clear hcz33_2
                        try clear hcz34_0
                        try clear hcz34_1
                        try clear hcz34_2
                        try clear hcz50_0
                        try clear hcz50_1
                        try clear hcz50_2
                        try clear hcz51_0
                        try clear hcz51_1
                        try clear hcz51_2
                        try clear hcz54_0
                        try clear hcz54_1
                        try clear hcz54_2
                        try clear hcz55_0
                        try clear hcz55_1
                        try clear hcz55_2
                        try clear hcz66_0
                        try clear hcz66_1
                        try clear hcz66_2
                        try clear hcz68_0
                        try clear hcz68_1
                        try clear hcz68_2
                        try clear hcz76_0
                        try clear hcz76_1
                        try clear hcz76_2
                        try clear hcz83_0
                        try clear hcz83_1
                        try clear hcz83_2
                        try clear hcz85_0
                        try clear hcz85_1
                        try clear hcz85_2
                        try clear hcz89_0
                        try clear hcz89_1
                        try clear hcz89_2
                        try clear hcz91_0
                        try clear hcz91_1
                        try clear hcz91_2
                        try clear hfz15_0
                        try clear hfz15_1
                        try clear hfz15_2
                        try clear hfz23_0
                        try clear hfz23_1
                        try clear hfz23_2
                        try clear hfz29_0
                        try clear hfz29_1
                        try clear hfz29_2
                        try clear hfz30_0
                        try clear hfz30_1
                        try clear hfz30_2
                        try clear hfz33_0
                        try clear hfz33_1
                        try clear hfz33_2
                        try clear hfz34_0
                        try clear hfz34_1
                        try clear hfz34_2
                        try clear hfz50_0
                        try clear hfz50_1
                        try clear hfz50_2
                        try clear hfz51_0
                        try clear hfz51_1
                        try clear hfz51_2
                        try clear hfz54_0
                        try clear hfz54_1
                        try clear hfz54_2
                        try clear hfz55_0
                        try clear hfz55_1
                        try clear hfz55_2
                        try clear hfz66_0
                        try clear hfz66_1
                        try clear hfz66_2
                        try clear hfz68_0
                        try clear hfz68_1
                        try clear hfz68_2
                        try clear hfz76_0
                        try clear hfz76_1
                        try clear hfz76_2
                        try clear hfz83_0
                        try clear hfz83_1
                        try clear hfz83_2
                        try clear hfz85_0
                        try clear hfz85_1
                        try clear hfz85_2
                        try clear hfz89_0
                        try clear hfz89_1
                        try clear hfz89_2
                        try clear hfz91_0
                        try clear hfz91_1
                        try clear hfz91_2
                        try clear p2
                        obtain ⟨kq, x97_63, rfl, HA, HJ63, HO_633001, HO_633002, HO_645001, HO_645002, HO_669001, HO_669002, BK632, BK644, BK668, HB⟩ := hcut
                        have hl645001_63 := (Kd.R_reads' HO_645001.out).1
                        rw [hl645001_63] at HO_645001
                        (try simp only [hl645001_63])
                        (try simp only [hl645001_63] at BK632)
                        (try simp only [hl645001_63] at BK644)
                        (try simp only [hl645001_63] at BK668)
                        (try simp only [hl645001_63] at HO_633001)
                        (try simp only [hl645001_63] at HO_633002)
                        (try simp only [hl645001_63] at HO_645002)
                        (try simp only [hl645001_63] at HO_669001)
                        (try simp only [hl645001_63] at HO_669002)
                        have hl645002_63 := (Kd.R_reads' HO_645002.out).1
                        rw [hl645002_63] at HO_645002
                        (try simp only [hl645002_63])
                        (try simp only [hl645002_63] at BK632)
                        (try simp only [hl645002_63] at BK644)
                        (try simp only [hl645002_63] at BK668)
                        (try simp only [hl645002_63] at HO_633001)
                        (try simp only [hl645002_63] at HO_633002)
                        (try simp only [hl645002_63] at HO_645001)
                        (try simp only [hl645002_63] at HO_669001)
                        (try simp only [hl645002_63] at HO_669002)
                        cases kq with
                        | zero => exact absurd HA.out (by simp [laws_FnExactLogFrom.j2])
                        | succ kj63 =>
                          have H := HA.out
                          clear HA
                          simp only [laws_FnExactLogFrom.j2] at H
                          by_cases c93 : x97_63 = true
                          · subst c93
                            have H1 : (some false) = some r := by rw [if_pos rfl] at H; exact H
                            clear H
                            have H := H1
                            clear H1
                            exact absurd ((Option.some.inj H).trans HT.out) (by decide)
                          · replace c93 := Bool.eq_false_iff.mpr c93
                            subst c93
                            have H1 : ((laws_heldLog.f kj63 t636 t654 t655 1).bind fun t670 => (if t670 < 0 then (some false) else (if t670 = t653 then (some true) else (some false)))) = some r := by rw [if_neg (show ¬ (false = true) by decide)] at H; exact H
                            clear H
                            have H := H1
                            clear H1
                            replace H := Option.bind_eq_some_iff.mp H
                            obtain ⟨t670, A940, H⟩ := H
                            replace H : (if t670 < 0 then (some false) else (if t670 = t653 then (some true) else (some false))) = some r := H
                            have A94 := Aside0.mk A940
                            clear A940
                            by_cases c95 : t670 < 0
                            · rw [if_pos c95] at H
                              have c95b0 : decide (t670 < 0) = true := decide_eq_true c95
                              clear c95
                              exact absurd ((Option.some.inj H).trans HT.out) (by decide)
                            · rw [if_neg c95] at H
                              have c95b0 : decide (t670 < 0) = false := decide_eq_false c95
                              clear c95
                              by_cases c96 : t670 = t653
                              · rw [if_pos c96] at H
                                have c96b0 : (t670 == t653) = true := beq_iff_eq.mpr c96
                                have c96b1 : (t670 != t653) = false := bne_eq_false_iff_eq.mpr c96
                                clear c96
                                obtain rfl := Option.some.inj H
                                have hnb97 := NB644_632.out
                                have hnc97 := NB632_644.out
                                have hnb98 := NB644_668.out
                                have hnc98 := NB668_644.out
                                have hcz99_0 : wc.cell? ⟨gb644, 0, none⟩ = some (.int .i64 t636) := (blk_cell BK644.out 0).trans rfl
                                have hcz99_1 : wc.cell? ⟨gb644, 1, none⟩ = some (.slice Ao24 t654.length co24) := (blk_cell BK644.out 1).trans rfl
                                have hcz99_2 : wc.cell? ⟨gb644, 2, none⟩ = some (.slice Ao25 t655.length co25) := (blk_cell BK644.out 2).trans rfl
                                have hfz99_0 := blk_frozen BK644.out 0
                                have hfz99_1 := blk_frozen BK644.out 1
                                have hfz99_2 := blk_frozen BK644.out 2
                                go_wp2_with (first | ((with_reducible refine gate_callee (f := 31) rfl ?_); refine goesL_ (some 100) rfl rfl Try.func31 (by kernel_rfl) rfl #[.agg #[.int .i64 t636, .slice Ao24 t654.length co24, .slice Ao25 t655.length co25], .int .i64 1] rfl (by (try simp only [List.map_toArray, List.map_cons, List.map_nil]); first | done | rfl | (simp only [List.length_drop, List.length_take]; rfl)) ?_; (with_reducible refine (laws_heldLog.calls kj63 t636 _ _ t654 _ _ t655 1 t670 _ ?side1 ?side2 ?side3 ?side4 A94.out).mono ?_); (case side1 => repeat (first | exact (Kd.R_reads' HO_645001.out).2.2 | (with_reducible refine Kd.C_alloc ?_ _) | (with_reducible refine Kd.C_drewN ?_ _) | (with_reducible refine Kd.C_drew ?_))); (case side2 => exact (Kd.R_reads' HO_645001.out).2.1); (case side3 => repeat (first | exact (Kd.R_reads' HO_645002.out).2.2 | (with_reducible refine Kd.C_alloc ?_ _) | (with_reducible refine Kd.C_drewN ?_ _) | (with_reducible refine Kd.C_drew ?_))); (case side4 => exact (Kd.R_reads' HO_645002.out).2.1); rintro e w100 ⟨rfl, hb⟩; refine ⟨_, rfl, ?_⟩; have n0_ := Aside0.mk (Kd.R_below (by (with_reducible repeat (first | apply Kd.R_alloc | apply Kd.R_drewN | apply Kd.R_drew)); exact HO_633001.out) hb); have n1_ := Aside0.mk (Kd.R_below (by (with_reducible repeat (first | apply Kd.R_alloc | apply Kd.R_drewN | apply Kd.R_drew)); exact HO_633002.out) hb); have n2_ := Aside0.mk (Kd.R_below (by (with_reducible repeat (first | apply Kd.R_alloc | apply Kd.R_drewN | apply Kd.R_drew)); exact HO_645001.out) hb); have n3_ := Aside0.mk (Kd.R_below (by (with_reducible repeat (first | apply Kd.R_alloc | apply Kd.R_drewN | apply Kd.R_drew)); exact HO_645002.out) hb); have n4_ := Aside0.mk (Kd.R_below (by (with_reducible repeat (first | apply Kd.R_alloc | apply Kd.R_drewN | apply Kd.R_drew)); exact HO_669001.out) hb); have n5_ := Aside0.mk (Kd.R_below (by (with_reducible repeat (first | apply Kd.R_alloc | apply Kd.R_drewN | apply Kd.R_drew)); exact HO_669002.out) hb); have n6_ := Aside0.mk (blk_below (g := gb632) (o := .cells #[.int .i64 t624, .slice Ao16 t625.length co16, .slice Ao17 t628.length co17] 31 (0, 0)) (by (with_reducible repeat (first | refine blk_drewN ?_ _ | refine blk_drew ?_ | refine blk_alloc ?_ _)); exact BK632.out) hb); have n7_ := Aside0.mk (blk_below (g := gb644) (o := .cells #[.int .i64 t636, .slice Ao24 t654.length co24, .slice Ao25 t655.length co25] 31 (0, 0)) (by (with_reducible repeat (first | refine blk_drewN ?_ _ | refine blk_drew ?_ | refine blk_alloc ?_ _)); exact BK644.out) hb); have n8_ := Aside0.mk (blk_below (g := gb668) (o := .cells #[.int .i64 t660, .slice Ao77 t661.length co77, .slice Ao78 t664.length co78] 31 (0, 0)) (by (with_reducible repeat (first | refine blk_drewN ?_ _ | refine blk_drew ?_ | refine blk_alloc ?_ _)); exact BK668.out) hb); have n9_ := Aside0.mk (below_step (by repeat (first | (with_reducible first | exact HB.out | apply below_alloc | apply pw_below_drewN | apply below_drew1 | refine below_set ?_ GE632.out | refine below_set ?_ GE644.out | refine below_set ?_ GE668.out) | exact HB.out)) hb); clear HO_633001; clear HO_633002; clear HO_645001; clear HO_645002; clear HO_669001; clear HO_669002; clear BK632; clear BK644; clear BK668; clear HB; have HO_633001 := n0_; have HO_633002 := n1_; have HO_645001 := n2_; have HO_645002 := n3_; have HO_669001 := n4_; have HO_669002 := n5_; have BK632 := n6_; have BK644 := n7_; have BK668 := n8_; have HB := n9_; clear n0_ n1_ n2_ n3_ n4_ n5_ n6_ n7_ n8_ n9_; (try clear hb); (try clear hb2); (try clear hk); (try clear hi)))
                                go_ret
                                exact ⟨by first | rfl | (simp [errW_none, errW_some] <;> rfl) | (simp [*, errW_none, errW_some] <;> rfl), by repeat (first | (with_reducible first | exact HB.out | apply below_alloc | apply pw_below_drewN | apply below_drew1 | refine below_set ?_ GE632.out | refine below_set ?_ GE644.out | refine below_set ?_ GE668.out) | exact HB.out)⟩
                              · rw [if_neg c96] at H
                                have c96b0 : (t670 == t653) = false := beq_eq_false_iff_ne.mpr c96
                                have c96b1 : (t670 != t653) = true := bne_iff_ne.mpr c96
                                exact absurd ((Option.some.inj H).trans HT.out) (by decide)
                    · rw [if_neg c61] at H
                      have c61b0 : (t656 == t653) = false := beq_eq_false_iff_ne.mpr c61
                      have c61b1 : (t656 != t653) = true := bne_iff_ne.mpr c61
                      exact absurd ((Option.some.inj H).trans HT.out) (by decide)
          · replace c39 := Bool.eq_false_iff.mpr c39
            subst c39
            have H1 : (some false) = some r := by rw [if_neg (show ¬ (false = true) by decide)] at H; exact H
            clear H
            have H := H1
            clear H1
            exact absurd ((Option.some.inj H).trans HT.out) (by decide)

/-- THE ONE PURE STATEMENT of laws_FnExactLogFrom: mine. -/
def laws_FnExactLogFrom.Pure : Prop := ∀ (a0 : Int) (a1 : Int) (l2 : List (S104)), ((Lit.int .i64 a0).wf = true) → ((Lit.int .i64 a1).wf = true) → (l2.length ≤ 9223372036854775807 ∧ ∀ x_ ∈ l2, (((Lit.int .i8 x_.f0).wf = true) ∧ ((Lit.int .i8 x_.f1).wf = true) ∧ ((Lit.int .i16 x_.f2).wf = true))) → ∃ k, laws_FnExactLogFrom.f k a0 a1 l2 = some true

end Go.Proofs.Ytfmjfnnkkoekbaa.P
