-- Printed by wip/print (my turned copy of the kit's print) out of the translation; Lean checks it.
import Derived.Test.YtcjchobajjbhkaaP0
import Derived.Test.YtcjchobajjbhkaaP2
import Derived.Test.YtcjchobajjbhkaaP3
import Derived.Test.YtcjchobajjbhkaaP5
import Derived.Test.YtcjchobajjbhkaaP6
import Derived.Test.YtcjchobajjbhkaaP7
import Derived.Test.YtcjchobajjbhkaaP8
import Derived.Test.YtcjchobajjbhkaaP9
import Derived.Test.YtcjchobajjbhkaaP10
import Derived.Test.YtcjchobajjbhkaaP11
import Derived.Test.YtcjchobajjbhkaaP12
import Derived.Test.YtcjchobajjbhkaaP13
namespace Go.Proofs.Ytcjchobajjbhkaa.P
open Go.RowKit Go.Proofs.YtcjchobajjbhkaaW.PrintWords Go.Proofs.YtcjchobajjbhkaaW.PrintLast Go.Proofs.YtcjchobajjbhkaaW.PrintMore
attribute [local go_sem] max2_int min2_int max_two min_two max_three min_three max_four min_four   -- for this text's walks alone
set_option linter.unusedVariables false
set_option linter.unusedSimpArgs false

set_option maxHeartbeats 100000000 in
set_option maxRecDepth 100000 in
theorem laws_FnRecords.calls (k : Nat) (A0 : Option Addr) (c0 : Nat) (l0 : List Int) (A1 : Option Addr) (c1 : Nat) (l1 : List Int) (r : Bool) (w : World) (hr0 : Kd.C (Kd.int .u8) w A0 l0.length l0) (hc0 : l0.length ≤ c0) (hr1 : Kd.C (Kd.int .u8) w A1 l1.length l1) (hc1 : l1.length ≤ c1) (hT : r = true) (h : laws_FnRecords.f k l0 l1 = some r) :
    Calls Try.prog 3 #[.slice A0 l0.length c0, .slice A1 l1.length c1] w fun e w' => e = .returned (.bool r) ∧ Below w.heap.size w w' := by
 have hu31 := Try.underlying31
 have HR0 := ak hr0
 have HC0 := ak hc0
 clear hr0 hc0
 have HR1 := ak hr1
 have HC1 := ak hc1
 clear hr1 hc1
 have HT := ak hT
 clear hT
 have HB := ak (Below.refl w.heap.size w)
 have H : ((laws_a2Long.f l0 l1).bind fun t372 => (if t372 = true then (some true) else ((spec_A2Records.f k l0).bind fun t373 => ((impl_SortRecords.f k 5 4 t373).bind fun bt376 => ((spec_SortRecords.f k 5 4 t373).bind fun bt380 => ((impl_SortRecords.f k 5 4 bt380.1).bind fun bt384 => ((impl_LogFrom.f k 5 4 t373).bind fun bt388 => ((spec_LogFrom.f k 5 4 t373).bind fun bt397 => ((impl_LogFrom.f k 5 4 bt380.1).bind fun bt406 => ((impl_FirstBackward.f k 5 4 t373).bind fun bt415 => ((spec_FirstBackward.f k 5 4 t373).bind fun bt417 => (if bt376.2 = bt380.2 then (if bt376.2 = 0 then ((spec_A2SameRecords.f k bt376.1 bt380.1).bind fun t419 => (if t419 = true then (if (bt380.1.length : Int) = (t373.length : Int) then (if bt384.2 = 0 then ((spec_A2SameRecords.f k bt384.1 bt380.1).bind fun t420 => (if t420 = true then (if bt388.2.2.2 = bt397.2.2.2 then (if bt388.2.2.2 = 0 then ((spec_SameLog.f k bt388.1 bt388.2.1 bt388.2.2.1 bt397.1 bt397.2.1 bt397.2.2.1).bind fun t421 => (if t421 = true then ((impl_ValidLog.f k bt397.1 bt397.2.1 bt397.2.2.1).bind fun t422 => (if t422 = true then (if (bt397.2.1.length : Int) = 4 then (if bt406.2.2.2 = 0 then (if (bt406.2.1.length : Int) = 4 then ((spec_SameLog.f k bt406.1 bt406.2.1 bt406.2.2.1 bt397.1 bt397.2.1 bt397.2.2.1).bind fun t423 => (if t423 = true then (if bt415.2 = bt417.2 then (if bt415.1 = bt417.1 then ((impl_ValidRecords.f k 5 4 t373).bind fun t424 => (laws_FnRecords.j0 k l1 t373 bt380.1 bt415.2 bt417.1 (!t424) bt397.1 bt397.2.1 bt397.2.2.1)) else (laws_FnRecords.j0 k l1 t373 bt380.1 bt415.2 bt417.1 true bt397.1 bt397.2.1 bt397.2.2.1)) else (laws_FnRecords.j0 k l1 t373 bt380.1 bt415.2 bt417.1 true bt397.1 bt397.2.1 bt397.2.2.1)) else (laws_FnRecords.j0 k l1 t373 bt380.1 bt415.2 bt417.1 true bt397.1 bt397.2.1 bt397.2.2.1))) else (laws_FnRecords.j0 k l1 t373 bt380.1 bt415.2 bt417.1 true bt397.1 bt397.2.1 bt397.2.2.1)) else (laws_FnRecords.j0 k l1 t373 bt380.1 bt415.2 bt417.1 true bt397.1 bt397.2.1 bt397.2.2.1)) else (laws_FnRecords.j0 k l1 t373 bt380.1 bt415.2 bt417.1 true bt397.1 bt397.2.1 bt397.2.2.1)) else (laws_FnRecords.j0 k l1 t373 bt380.1 bt415.2 bt417.1 true bt397.1 bt397.2.1 bt397.2.2.1))) else (laws_FnRecords.j0 k l1 t373 bt380.1 bt415.2 bt417.1 true bt397.1 bt397.2.1 bt397.2.2.1))) else (laws_FnRecords.j0 k l1 t373 bt380.1 bt415.2 bt417.1 true bt397.1 bt397.2.1 bt397.2.2.1)) else (laws_FnRecords.j0 k l1 t373 bt380.1 bt415.2 bt417.1 true bt397.1 bt397.2.1 bt397.2.2.1)) else (laws_FnRecords.j0 k l1 t373 bt380.1 bt415.2 bt417.1 true bt397.1 bt397.2.1 bt397.2.2.1))) else (laws_FnRecords.j0 k l1 t373 bt380.1 bt415.2 bt417.1 true bt397.1 bt397.2.1 bt397.2.2.1)) else (laws_FnRecords.j0 k l1 t373 bt380.1 bt415.2 bt417.1 true bt397.1 bt397.2.1 bt397.2.2.1)) else (laws_FnRecords.j0 k l1 t373 bt380.1 bt415.2 bt417.1 true bt397.1 bt397.2.1 bt397.2.2.1))) else (laws_FnRecords.j0 k l1 t373 bt380.1 bt415.2 bt417.1 true bt397.1 bt397.2.1 bt397.2.2.1)) else (laws_FnRecords.j0 k l1 t373 bt380.1 bt415.2 bt417.1 true bt397.1 bt397.2.1 bt397.2.2.1))))))))))))) = some r := h
 clear h
 replace H := Option.bind_eq_some_iff.mp H
 obtain ⟨t372, A30, H⟩ := H
 replace H : (if t372 = true then (some true) else ((spec_A2Records.f k l0).bind fun t373 => ((impl_SortRecords.f k 5 4 t373).bind fun bt376 => ((spec_SortRecords.f k 5 4 t373).bind fun bt380 => ((impl_SortRecords.f k 5 4 bt380.1).bind fun bt384 => ((impl_LogFrom.f k 5 4 t373).bind fun bt388 => ((spec_LogFrom.f k 5 4 t373).bind fun bt397 => ((impl_LogFrom.f k 5 4 bt380.1).bind fun bt406 => ((impl_FirstBackward.f k 5 4 t373).bind fun bt415 => ((spec_FirstBackward.f k 5 4 t373).bind fun bt417 => (if bt376.2 = bt380.2 then (if bt376.2 = 0 then ((spec_A2SameRecords.f k bt376.1 bt380.1).bind fun t419 => (if t419 = true then (if (bt380.1.length : Int) = (t373.length : Int) then (if bt384.2 = 0 then ((spec_A2SameRecords.f k bt384.1 bt380.1).bind fun t420 => (if t420 = true then (if bt388.2.2.2 = bt397.2.2.2 then (if bt388.2.2.2 = 0 then ((spec_SameLog.f k bt388.1 bt388.2.1 bt388.2.2.1 bt397.1 bt397.2.1 bt397.2.2.1).bind fun t421 => (if t421 = true then ((impl_ValidLog.f k bt397.1 bt397.2.1 bt397.2.2.1).bind fun t422 => (if t422 = true then (if (bt397.2.1.length : Int) = 4 then (if bt406.2.2.2 = 0 then (if (bt406.2.1.length : Int) = 4 then ((spec_SameLog.f k bt406.1 bt406.2.1 bt406.2.2.1 bt397.1 bt397.2.1 bt397.2.2.1).bind fun t423 => (if t423 = true then (if bt415.2 = bt417.2 then (if bt415.1 = bt417.1 then ((impl_ValidRecords.f k 5 4 t373).bind fun t424 => (laws_FnRecords.j0 k l1 t373 bt380.1 bt415.2 bt417.1 (!t424) bt397.1 bt397.2.1 bt397.2.2.1)) else (laws_FnRecords.j0 k l1 t373 bt380.1 bt415.2 bt417.1 true bt397.1 bt397.2.1 bt397.2.2.1)) else (laws_FnRecords.j0 k l1 t373 bt380.1 bt415.2 bt417.1 true bt397.1 bt397.2.1 bt397.2.2.1)) else (laws_FnRecords.j0 k l1 t373 bt380.1 bt415.2 bt417.1 true bt397.1 bt397.2.1 bt397.2.2.1))) else (laws_FnRecords.j0 k l1 t373 bt380.1 bt415.2 bt417.1 true bt397.1 bt397.2.1 bt397.2.2.1)) else (laws_FnRecords.j0 k l1 t373 bt380.1 bt415.2 bt417.1 true bt397.1 bt397.2.1 bt397.2.2.1)) else (laws_FnRecords.j0 k l1 t373 bt380.1 bt415.2 bt417.1 true bt397.1 bt397.2.1 bt397.2.2.1)) else (laws_FnRecords.j0 k l1 t373 bt380.1 bt415.2 bt417.1 true bt397.1 bt397.2.1 bt397.2.2.1))) else (laws_FnRecords.j0 k l1 t373 bt380.1 bt415.2 bt417.1 true bt397.1 bt397.2.1 bt397.2.2.1))) else (laws_FnRecords.j0 k l1 t373 bt380.1 bt415.2 bt417.1 true bt397.1 bt397.2.1 bt397.2.2.1)) else (laws_FnRecords.j0 k l1 t373 bt380.1 bt415.2 bt417.1 true bt397.1 bt397.2.1 bt397.2.2.1)) else (laws_FnRecords.j0 k l1 t373 bt380.1 bt415.2 bt417.1 true bt397.1 bt397.2.1 bt397.2.2.1))) else (laws_FnRecords.j0 k l1 t373 bt380.1 bt415.2 bt417.1 true bt397.1 bt397.2.1 bt397.2.2.1)) else (laws_FnRecords.j0 k l1 t373 bt380.1 bt415.2 bt417.1 true bt397.1 bt397.2.1 bt397.2.2.1)) else (laws_FnRecords.j0 k l1 t373 bt380.1 bt415.2 bt417.1 true bt397.1 bt397.2.1 bt397.2.2.1))) else (laws_FnRecords.j0 k l1 t373 bt380.1 bt415.2 bt417.1 true bt397.1 bt397.2.1 bt397.2.2.1)) else (laws_FnRecords.j0 k l1 t373 bt380.1 bt415.2 bt417.1 true bt397.1 bt397.2.1 bt397.2.2.1)))))))))))) = some r := H
 have A3 := ak A30
 clear A30
 by_cases c4 : t372 = true
 {
 subst c4
 have H1 : (some true) = some r := by rw [if_pos rfl] at H; exact H
 clear H
 have H := H1
 clear H1
 obtain rfl := Option.some.inj H
 go_enter Try.func3, Try.ntmps3
 go_wp2_with (first | (go_at_call 4; (with_reducible refine (laws_a2Long.calls _ _ l0 _ _ l1 true _ ?side1 ?side2 ?side3 ?side4 A3.out).mono ?_); (case side1 => exact sD HR0); (case side2 => exact HC0.out); (case side3 => exact sD HR1); (case side4 => exact HC1.out); rintro e w' ⟨rfl, ⟨nd, rfl⟩⟩))
 repeat (go_quiet (fail))
 go_ret
 exact ⟨by first | rfl | (simp [errW_none, errW_some] <;> rfl) | (simp [*, errW_none, errW_some] <;> rfl), by repeat (first | (with_reducible first | exact HB.out | apply below_alloc | apply pw_below_drewN | apply below_drew1) | exact HB.out)⟩
 }
 {
 replace c4 := Bool.eq_false_iff.mpr c4
 subst c4
 have H1 : ((spec_A2Records.f k l0).bind fun t373 => ((impl_SortRecords.f k 5 4 t373).bind fun bt376 => ((spec_SortRecords.f k 5 4 t373).bind fun bt380 => ((impl_SortRecords.f k 5 4 bt380.1).bind fun bt384 => ((impl_LogFrom.f k 5 4 t373).bind fun bt388 => ((spec_LogFrom.f k 5 4 t373).bind fun bt397 => ((impl_LogFrom.f k 5 4 bt380.1).bind fun bt406 => ((impl_FirstBackward.f k 5 4 t373).bind fun bt415 => ((spec_FirstBackward.f k 5 4 t373).bind fun bt417 => (if bt376.2 = bt380.2 then (if bt376.2 = 0 then ((spec_A2SameRecords.f k bt376.1 bt380.1).bind fun t419 => (if t419 = true then (if (bt380.1.length : Int) = (t373.length : Int) then (if bt384.2 = 0 then ((spec_A2SameRecords.f k bt384.1 bt380.1).bind fun t420 => (if t420 = true then (if bt388.2.2.2 = bt397.2.2.2 then (if bt388.2.2.2 = 0 then ((spec_SameLog.f k bt388.1 bt388.2.1 bt388.2.2.1 bt397.1 bt397.2.1 bt397.2.2.1).bind fun t421 => (if t421 = true then ((impl_ValidLog.f k bt397.1 bt397.2.1 bt397.2.2.1).bind fun t422 => (if t422 = true then (if (bt397.2.1.length : Int) = 4 then (if bt406.2.2.2 = 0 then (if (bt406.2.1.length : Int) = 4 then ((spec_SameLog.f k bt406.1 bt406.2.1 bt406.2.2.1 bt397.1 bt397.2.1 bt397.2.2.1).bind fun t423 => (if t423 = true then (if bt415.2 = bt417.2 then (if bt415.1 = bt417.1 then ((impl_ValidRecords.f k 5 4 t373).bind fun t424 => (laws_FnRecords.j0 k l1 t373 bt380.1 bt415.2 bt417.1 (!t424) bt397.1 bt397.2.1 bt397.2.2.1)) else (laws_FnRecords.j0 k l1 t373 bt380.1 bt415.2 bt417.1 true bt397.1 bt397.2.1 bt397.2.2.1)) else (laws_FnRecords.j0 k l1 t373 bt380.1 bt415.2 bt417.1 true bt397.1 bt397.2.1 bt397.2.2.1)) else (laws_FnRecords.j0 k l1 t373 bt380.1 bt415.2 bt417.1 true bt397.1 bt397.2.1 bt397.2.2.1))) else (laws_FnRecords.j0 k l1 t373 bt380.1 bt415.2 bt417.1 true bt397.1 bt397.2.1 bt397.2.2.1)) else (laws_FnRecords.j0 k l1 t373 bt380.1 bt415.2 bt417.1 true bt397.1 bt397.2.1 bt397.2.2.1)) else (laws_FnRecords.j0 k l1 t373 bt380.1 bt415.2 bt417.1 true bt397.1 bt397.2.1 bt397.2.2.1)) else (laws_FnRecords.j0 k l1 t373 bt380.1 bt415.2 bt417.1 true bt397.1 bt397.2.1 bt397.2.2.1))) else (laws_FnRecords.j0 k l1 t373 bt380.1 bt415.2 bt417.1 true bt397.1 bt397.2.1 bt397.2.2.1))) else (laws_FnRecords.j0 k l1 t373 bt380.1 bt415.2 bt417.1 true bt397.1 bt397.2.1 bt397.2.2.1)) else (laws_FnRecords.j0 k l1 t373 bt380.1 bt415.2 bt417.1 true bt397.1 bt397.2.1 bt397.2.2.1)) else (laws_FnRecords.j0 k l1 t373 bt380.1 bt415.2 bt417.1 true bt397.1 bt397.2.1 bt397.2.2.1))) else (laws_FnRecords.j0 k l1 t373 bt380.1 bt415.2 bt417.1 true bt397.1 bt397.2.1 bt397.2.2.1)) else (laws_FnRecords.j0 k l1 t373 bt380.1 bt415.2 bt417.1 true bt397.1 bt397.2.1 bt397.2.2.1)) else (laws_FnRecords.j0 k l1 t373 bt380.1 bt415.2 bt417.1 true bt397.1 bt397.2.1 bt397.2.2.1))) else (laws_FnRecords.j0 k l1 t373 bt380.1 bt415.2 bt417.1 true bt397.1 bt397.2.1 bt397.2.2.1)) else (laws_FnRecords.j0 k l1 t373 bt380.1 bt415.2 bt417.1 true bt397.1 bt397.2.1 bt397.2.2.1))))))))))) = some r := by rw [if_neg (show ¬ (false = true) by decide)] at H; exact H
 clear H
 have H := H1
 clear H1
 replace H := Option.bind_eq_some_iff.mp H
 obtain ⟨t373, A50, H⟩ := H
 replace H : ((impl_SortRecords.f k 5 4 t373).bind fun bt376 => ((spec_SortRecords.f k 5 4 t373).bind fun bt380 => ((impl_SortRecords.f k 5 4 bt380.1).bind fun bt384 => ((impl_LogFrom.f k 5 4 t373).bind fun bt388 => ((spec_LogFrom.f k 5 4 t373).bind fun bt397 => ((impl_LogFrom.f k 5 4 bt380.1).bind fun bt406 => ((impl_FirstBackward.f k 5 4 t373).bind fun bt415 => ((spec_FirstBackward.f k 5 4 t373).bind fun bt417 => (if bt376.2 = bt380.2 then (if bt376.2 = 0 then ((spec_A2SameRecords.f k bt376.1 bt380.1).bind fun t419 => (if t419 = true then (if (bt380.1.length : Int) = (t373.length : Int) then (if bt384.2 = 0 then ((spec_A2SameRecords.f k bt384.1 bt380.1).bind fun t420 => (if t420 = true then (if bt388.2.2.2 = bt397.2.2.2 then (if bt388.2.2.2 = 0 then ((spec_SameLog.f k bt388.1 bt388.2.1 bt388.2.2.1 bt397.1 bt397.2.1 bt397.2.2.1).bind fun t421 => (if t421 = true then ((impl_ValidLog.f k bt397.1 bt397.2.1 bt397.2.2.1).bind fun t422 => (if t422 = true then (if (bt397.2.1.length : Int) = 4 then (if bt406.2.2.2 = 0 then (if (bt406.2.1.length : Int) = 4 then ((spec_SameLog.f k bt406.1 bt406.2.1 bt406.2.2.1 bt397.1 bt397.2.1 bt397.2.2.1).bind fun t423 => (if t423 = true then (if bt415.2 = bt417.2 then (if bt415.1 = bt417.1 then ((impl_ValidRecords.f k 5 4 t373).bind fun t424 => (laws_FnRecords.j0 k l1 t373 bt380.1 bt415.2 bt417.1 (!t424) bt397.1 bt397.2.1 bt397.2.2.1)) else (laws_FnRecords.j0 k l1 t373 bt380.1 bt415.2 bt417.1 true bt397.1 bt397.2.1 bt397.2.2.1)) else (laws_FnRecords.j0 k l1 t373 bt380.1 bt415.2 bt417.1 true bt397.1 bt397.2.1 bt397.2.2.1)) else (laws_FnRecords.j0 k l1 t373 bt380.1 bt415.2 bt417.1 true bt397.1 bt397.2.1 bt397.2.2.1))) else (laws_FnRecords.j0 k l1 t373 bt380.1 bt415.2 bt417.1 true bt397.1 bt397.2.1 bt397.2.2.1)) else (laws_FnRecords.j0 k l1 t373 bt380.1 bt415.2 bt417.1 true bt397.1 bt397.2.1 bt397.2.2.1)) else (laws_FnRecords.j0 k l1 t373 bt380.1 bt415.2 bt417.1 true bt397.1 bt397.2.1 bt397.2.2.1)) else (laws_FnRecords.j0 k l1 t373 bt380.1 bt415.2 bt417.1 true bt397.1 bt397.2.1 bt397.2.2.1))) else (laws_FnRecords.j0 k l1 t373 bt380.1 bt415.2 bt417.1 true bt397.1 bt397.2.1 bt397.2.2.1))) else (laws_FnRecords.j0 k l1 t373 bt380.1 bt415.2 bt417.1 true bt397.1 bt397.2.1 bt397.2.2.1)) else (laws_FnRecords.j0 k l1 t373 bt380.1 bt415.2 bt417.1 true bt397.1 bt397.2.1 bt397.2.2.1)) else (laws_FnRecords.j0 k l1 t373 bt380.1 bt415.2 bt417.1 true bt397.1 bt397.2.1 bt397.2.2.1))) else (laws_FnRecords.j0 k l1 t373 bt380.1 bt415.2 bt417.1 true bt397.1 bt397.2.1 bt397.2.2.1)) else (laws_FnRecords.j0 k l1 t373 bt380.1 bt415.2 bt417.1 true bt397.1 bt397.2.1 bt397.2.2.1)) else (laws_FnRecords.j0 k l1 t373 bt380.1 bt415.2 bt417.1 true bt397.1 bt397.2.1 bt397.2.2.1))) else (laws_FnRecords.j0 k l1 t373 bt380.1 bt415.2 bt417.1 true bt397.1 bt397.2.1 bt397.2.2.1)) else (laws_FnRecords.j0 k l1 t373 bt380.1 bt415.2 bt417.1 true bt397.1 bt397.2.1 bt397.2.2.1)))))))))) = some r := H
 have A5 := ak A50
 clear A50
 replace H := Option.bind_eq_some_iff.mp H
 obtain ⟨⟨t376, t377⟩, A60, H⟩ := H
 replace H : ((spec_SortRecords.f k 5 4 t373).bind fun bt380 => ((impl_SortRecords.f k 5 4 bt380.1).bind fun bt384 => ((impl_LogFrom.f k 5 4 t373).bind fun bt388 => ((spec_LogFrom.f k 5 4 t373).bind fun bt397 => ((impl_LogFrom.f k 5 4 bt380.1).bind fun bt406 => ((impl_FirstBackward.f k 5 4 t373).bind fun bt415 => ((spec_FirstBackward.f k 5 4 t373).bind fun bt417 => (if t377 = bt380.2 then (if t377 = 0 then ((spec_A2SameRecords.f k t376 bt380.1).bind fun t419 => (if t419 = true then (if (bt380.1.length : Int) = (t373.length : Int) then (if bt384.2 = 0 then ((spec_A2SameRecords.f k bt384.1 bt380.1).bind fun t420 => (if t420 = true then (if bt388.2.2.2 = bt397.2.2.2 then (if bt388.2.2.2 = 0 then ((spec_SameLog.f k bt388.1 bt388.2.1 bt388.2.2.1 bt397.1 bt397.2.1 bt397.2.2.1).bind fun t421 => (if t421 = true then ((impl_ValidLog.f k bt397.1 bt397.2.1 bt397.2.2.1).bind fun t422 => (if t422 = true then (if (bt397.2.1.length : Int) = 4 then (if bt406.2.2.2 = 0 then (if (bt406.2.1.length : Int) = 4 then ((spec_SameLog.f k bt406.1 bt406.2.1 bt406.2.2.1 bt397.1 bt397.2.1 bt397.2.2.1).bind fun t423 => (if t423 = true then (if bt415.2 = bt417.2 then (if bt415.1 = bt417.1 then ((impl_ValidRecords.f k 5 4 t373).bind fun t424 => (laws_FnRecords.j0 k l1 t373 bt380.1 bt415.2 bt417.1 (!t424) bt397.1 bt397.2.1 bt397.2.2.1)) else (laws_FnRecords.j0 k l1 t373 bt380.1 bt415.2 bt417.1 true bt397.1 bt397.2.1 bt397.2.2.1)) else (laws_FnRecords.j0 k l1 t373 bt380.1 bt415.2 bt417.1 true bt397.1 bt397.2.1 bt397.2.2.1)) else (laws_FnRecords.j0 k l1 t373 bt380.1 bt415.2 bt417.1 true bt397.1 bt397.2.1 bt397.2.2.1))) else (laws_FnRecords.j0 k l1 t373 bt380.1 bt415.2 bt417.1 true bt397.1 bt397.2.1 bt397.2.2.1)) else (laws_FnRecords.j0 k l1 t373 bt380.1 bt415.2 bt417.1 true bt397.1 bt397.2.1 bt397.2.2.1)) else (laws_FnRecords.j0 k l1 t373 bt380.1 bt415.2 bt417.1 true bt397.1 bt397.2.1 bt397.2.2.1)) else (laws_FnRecords.j0 k l1 t373 bt380.1 bt415.2 bt417.1 true bt397.1 bt397.2.1 bt397.2.2.1))) else (laws_FnRecords.j0 k l1 t373 bt380.1 bt415.2 bt417.1 true bt397.1 bt397.2.1 bt397.2.2.1))) else (laws_FnRecords.j0 k l1 t373 bt380.1 bt415.2 bt417.1 true bt397.1 bt397.2.1 bt397.2.2.1)) else (laws_FnRecords.j0 k l1 t373 bt380.1 bt415.2 bt417.1 true bt397.1 bt397.2.1 bt397.2.2.1)) else (laws_FnRecords.j0 k l1 t373 bt380.1 bt415.2 bt417.1 true bt397.1 bt397.2.1 bt397.2.2.1))) else (laws_FnRecords.j0 k l1 t373 bt380.1 bt415.2 bt417.1 true bt397.1 bt397.2.1 bt397.2.2.1)) else (laws_FnRecords.j0 k l1 t373 bt380.1 bt415.2 bt417.1 true bt397.1 bt397.2.1 bt397.2.2.1)) else (laws_FnRecords.j0 k l1 t373 bt380.1 bt415.2 bt417.1 true bt397.1 bt397.2.1 bt397.2.2.1))) else (laws_FnRecords.j0 k l1 t373 bt380.1 bt415.2 bt417.1 true bt397.1 bt397.2.1 bt397.2.2.1)) else (laws_FnRecords.j0 k l1 t373 bt380.1 bt415.2 bt417.1 true bt397.1 bt397.2.1 bt397.2.2.1))))))))) = some r := H
 have A6 := ak A60
 clear A60
 replace H := Option.bind_eq_some_iff.mp H
 obtain ⟨⟨t380, t381⟩, A70, H⟩ := H
 replace H : ((impl_SortRecords.f k 5 4 t380).bind fun bt384 => ((impl_LogFrom.f k 5 4 t373).bind fun bt388 => ((spec_LogFrom.f k 5 4 t373).bind fun bt397 => ((impl_LogFrom.f k 5 4 t380).bind fun bt406 => ((impl_FirstBackward.f k 5 4 t373).bind fun bt415 => ((spec_FirstBackward.f k 5 4 t373).bind fun bt417 => (if t377 = t381 then (if t377 = 0 then ((spec_A2SameRecords.f k t376 t380).bind fun t419 => (if t419 = true then (if (t380.length : Int) = (t373.length : Int) then (if bt384.2 = 0 then ((spec_A2SameRecords.f k bt384.1 t380).bind fun t420 => (if t420 = true then (if bt388.2.2.2 = bt397.2.2.2 then (if bt388.2.2.2 = 0 then ((spec_SameLog.f k bt388.1 bt388.2.1 bt388.2.2.1 bt397.1 bt397.2.1 bt397.2.2.1).bind fun t421 => (if t421 = true then ((impl_ValidLog.f k bt397.1 bt397.2.1 bt397.2.2.1).bind fun t422 => (if t422 = true then (if (bt397.2.1.length : Int) = 4 then (if bt406.2.2.2 = 0 then (if (bt406.2.1.length : Int) = 4 then ((spec_SameLog.f k bt406.1 bt406.2.1 bt406.2.2.1 bt397.1 bt397.2.1 bt397.2.2.1).bind fun t423 => (if t423 = true then (if bt415.2 = bt417.2 then (if bt415.1 = bt417.1 then ((impl_ValidRecords.f k 5 4 t373).bind fun t424 => (laws_FnRecords.j0 k l1 t373 t380 bt415.2 bt417.1 (!t424) bt397.1 bt397.2.1 bt397.2.2.1)) else (laws_FnRecords.j0 k l1 t373 t380 bt415.2 bt417.1 true bt397.1 bt397.2.1 bt397.2.2.1)) else (laws_FnRecords.j0 k l1 t373 t380 bt415.2 bt417.1 true bt397.1 bt397.2.1 bt397.2.2.1)) else (laws_FnRecords.j0 k l1 t373 t380 bt415.2 bt417.1 true bt397.1 bt397.2.1 bt397.2.2.1))) else (laws_FnRecords.j0 k l1 t373 t380 bt415.2 bt417.1 true bt397.1 bt397.2.1 bt397.2.2.1)) else (laws_FnRecords.j0 k l1 t373 t380 bt415.2 bt417.1 true bt397.1 bt397.2.1 bt397.2.2.1)) else (laws_FnRecords.j0 k l1 t373 t380 bt415.2 bt417.1 true bt397.1 bt397.2.1 bt397.2.2.1)) else (laws_FnRecords.j0 k l1 t373 t380 bt415.2 bt417.1 true bt397.1 bt397.2.1 bt397.2.2.1))) else (laws_FnRecords.j0 k l1 t373 t380 bt415.2 bt417.1 true bt397.1 bt397.2.1 bt397.2.2.1))) else (laws_FnRecords.j0 k l1 t373 t380 bt415.2 bt417.1 true bt397.1 bt397.2.1 bt397.2.2.1)) else (laws_FnRecords.j0 k l1 t373 t380 bt415.2 bt417.1 true bt397.1 bt397.2.1 bt397.2.2.1)) else (laws_FnRecords.j0 k l1 t373 t380 bt415.2 bt417.1 true bt397.1 bt397.2.1 bt397.2.2.1))) else (laws_FnRecords.j0 k l1 t373 t380 bt415.2 bt417.1 true bt397.1 bt397.2.1 bt397.2.2.1)) else (laws_FnRecords.j0 k l1 t373 t380 bt415.2 bt417.1 true bt397.1 bt397.2.1 bt397.2.2.1)) else (laws_FnRecords.j0 k l1 t373 t380 bt415.2 bt417.1 true bt397.1 bt397.2.1 bt397.2.2.1))) else (laws_FnRecords.j0 k l1 t373 t380 bt415.2 bt417.1 true bt397.1 bt397.2.1 bt397.2.2.1)) else (laws_FnRecords.j0 k l1 t373 t380 bt415.2 bt417.1 true bt397.1 bt397.2.1 bt397.2.2.1)))))))) = some r := H
 have A7 := ak A70
 clear A70
 replace H := Option.bind_eq_some_iff.mp H
 obtain ⟨⟨t384, t385⟩, A80, H⟩ := H
 replace H : ((impl_LogFrom.f k 5 4 t373).bind fun bt388 => ((spec_LogFrom.f k 5 4 t373).bind fun bt397 => ((impl_LogFrom.f k 5 4 t380).bind fun bt406 => ((impl_FirstBackward.f k 5 4 t373).bind fun bt415 => ((spec_FirstBackward.f k 5 4 t373).bind fun bt417 => (if t377 = t381 then (if t377 = 0 then ((spec_A2SameRecords.f k t376 t380).bind fun t419 => (if t419 = true then (if (t380.length : Int) = (t373.length : Int) then (if t385 = 0 then ((spec_A2SameRecords.f k t384 t380).bind fun t420 => (if t420 = true then (if bt388.2.2.2 = bt397.2.2.2 then (if bt388.2.2.2 = 0 then ((spec_SameLog.f k bt388.1 bt388.2.1 bt388.2.2.1 bt397.1 bt397.2.1 bt397.2.2.1).bind fun t421 => (if t421 = true then ((impl_ValidLog.f k bt397.1 bt397.2.1 bt397.2.2.1).bind fun t422 => (if t422 = true then (if (bt397.2.1.length : Int) = 4 then (if bt406.2.2.2 = 0 then (if (bt406.2.1.length : Int) = 4 then ((spec_SameLog.f k bt406.1 bt406.2.1 bt406.2.2.1 bt397.1 bt397.2.1 bt397.2.2.1).bind fun t423 => (if t423 = true then (if bt415.2 = bt417.2 then (if bt415.1 = bt417.1 then ((impl_ValidRecords.f k 5 4 t373).bind fun t424 => (laws_FnRecords.j0 k l1 t373 t380 bt415.2 bt417.1 (!t424) bt397.1 bt397.2.1 bt397.2.2.1)) else (laws_FnRecords.j0 k l1 t373 t380 bt415.2 bt417.1 true bt397.1 bt397.2.1 bt397.2.2.1)) else (laws_FnRecords.j0 k l1 t373 t380 bt415.2 bt417.1 true bt397.1 bt397.2.1 bt397.2.2.1)) else (laws_FnRecords.j0 k l1 t373 t380 bt415.2 bt417.1 true bt397.1 bt397.2.1 bt397.2.2.1))) else (laws_FnRecords.j0 k l1 t373 t380 bt415.2 bt417.1 true bt397.1 bt397.2.1 bt397.2.2.1)) else (laws_FnRecords.j0 k l1 t373 t380 bt415.2 bt417.1 true bt397.1 bt397.2.1 bt397.2.2.1)) else (laws_FnRecords.j0 k l1 t373 t380 bt415.2 bt417.1 true bt397.1 bt397.2.1 bt397.2.2.1)) else (laws_FnRecords.j0 k l1 t373 t380 bt415.2 bt417.1 true bt397.1 bt397.2.1 bt397.2.2.1))) else (laws_FnRecords.j0 k l1 t373 t380 bt415.2 bt417.1 true bt397.1 bt397.2.1 bt397.2.2.1))) else (laws_FnRecords.j0 k l1 t373 t380 bt415.2 bt417.1 true bt397.1 bt397.2.1 bt397.2.2.1)) else (laws_FnRecords.j0 k l1 t373 t380 bt415.2 bt417.1 true bt397.1 bt397.2.1 bt397.2.2.1)) else (laws_FnRecords.j0 k l1 t373 t380 bt415.2 bt417.1 true bt397.1 bt397.2.1 bt397.2.2.1))) else (laws_FnRecords.j0 k l1 t373 t380 bt415.2 bt417.1 true bt397.1 bt397.2.1 bt397.2.2.1)) else (laws_FnRecords.j0 k l1 t373 t380 bt415.2 bt417.1 true bt397.1 bt397.2.1 bt397.2.2.1)) else (laws_FnRecords.j0 k l1 t373 t380 bt415.2 bt417.1 true bt397.1 bt397.2.1 bt397.2.2.1))) else (laws_FnRecords.j0 k l1 t373 t380 bt415.2 bt417.1 true bt397.1 bt397.2.1 bt397.2.2.1)) else (laws_FnRecords.j0 k l1 t373 t380 bt415.2 bt417.1 true bt397.1 bt397.2.1 bt397.2.2.1))))))) = some r := H
 have A8 := ak A80
 clear A80
 replace H := Option.bind_eq_some_iff.mp H
 obtain ⟨⟨t388, t389, t392, t395⟩, A90, H⟩ := H
 replace H : ((spec_LogFrom.f k 5 4 t373).bind fun bt397 => ((impl_LogFrom.f k 5 4 t380).bind fun bt406 => ((impl_FirstBackward.f k 5 4 t373).bind fun bt415 => ((spec_FirstBackward.f k 5 4 t373).bind fun bt417 => (if t377 = t381 then (if t377 = 0 then ((spec_A2SameRecords.f k t376 t380).bind fun t419 => (if t419 = true then (if (t380.length : Int) = (t373.length : Int) then (if t385 = 0 then ((spec_A2SameRecords.f k t384 t380).bind fun t420 => (if t420 = true then (if t395 = bt397.2.2.2 then (if t395 = 0 then ((spec_SameLog.f k t388 t389 t392 bt397.1 bt397.2.1 bt397.2.2.1).bind fun t421 => (if t421 = true then ((impl_ValidLog.f k bt397.1 bt397.2.1 bt397.2.2.1).bind fun t422 => (if t422 = true then (if (bt397.2.1.length : Int) = 4 then (if bt406.2.2.2 = 0 then (if (bt406.2.1.length : Int) = 4 then ((spec_SameLog.f k bt406.1 bt406.2.1 bt406.2.2.1 bt397.1 bt397.2.1 bt397.2.2.1).bind fun t423 => (if t423 = true then (if bt415.2 = bt417.2 then (if bt415.1 = bt417.1 then ((impl_ValidRecords.f k 5 4 t373).bind fun t424 => (laws_FnRecords.j0 k l1 t373 t380 bt415.2 bt417.1 (!t424) bt397.1 bt397.2.1 bt397.2.2.1)) else (laws_FnRecords.j0 k l1 t373 t380 bt415.2 bt417.1 true bt397.1 bt397.2.1 bt397.2.2.1)) else (laws_FnRecords.j0 k l1 t373 t380 bt415.2 bt417.1 true bt397.1 bt397.2.1 bt397.2.2.1)) else (laws_FnRecords.j0 k l1 t373 t380 bt415.2 bt417.1 true bt397.1 bt397.2.1 bt397.2.2.1))) else (laws_FnRecords.j0 k l1 t373 t380 bt415.2 bt417.1 true bt397.1 bt397.2.1 bt397.2.2.1)) else (laws_FnRecords.j0 k l1 t373 t380 bt415.2 bt417.1 true bt397.1 bt397.2.1 bt397.2.2.1)) else (laws_FnRecords.j0 k l1 t373 t380 bt415.2 bt417.1 true bt397.1 bt397.2.1 bt397.2.2.1)) else (laws_FnRecords.j0 k l1 t373 t380 bt415.2 bt417.1 true bt397.1 bt397.2.1 bt397.2.2.1))) else (laws_FnRecords.j0 k l1 t373 t380 bt415.2 bt417.1 true bt397.1 bt397.2.1 bt397.2.2.1))) else (laws_FnRecords.j0 k l1 t373 t380 bt415.2 bt417.1 true bt397.1 bt397.2.1 bt397.2.2.1)) else (laws_FnRecords.j0 k l1 t373 t380 bt415.2 bt417.1 true bt397.1 bt397.2.1 bt397.2.2.1)) else (laws_FnRecords.j0 k l1 t373 t380 bt415.2 bt417.1 true bt397.1 bt397.2.1 bt397.2.2.1))) else (laws_FnRecords.j0 k l1 t373 t380 bt415.2 bt417.1 true bt397.1 bt397.2.1 bt397.2.2.1)) else (laws_FnRecords.j0 k l1 t373 t380 bt415.2 bt417.1 true bt397.1 bt397.2.1 bt397.2.2.1)) else (laws_FnRecords.j0 k l1 t373 t380 bt415.2 bt417.1 true bt397.1 bt397.2.1 bt397.2.2.1))) else (laws_FnRecords.j0 k l1 t373 t380 bt415.2 bt417.1 true bt397.1 bt397.2.1 bt397.2.2.1)) else (laws_FnRecords.j0 k l1 t373 t380 bt415.2 bt417.1 true bt397.1 bt397.2.1 bt397.2.2.1)))))) = some r := H
 have A9 := ak A90
 clear A90
 replace H := Option.bind_eq_some_iff.mp H
 obtain ⟨⟨t397, t398, t401, t404⟩, A100, H⟩ := H
 replace H : ((impl_LogFrom.f k 5 4 t380).bind fun bt406 => ((impl_FirstBackward.f k 5 4 t373).bind fun bt415 => ((spec_FirstBackward.f k 5 4 t373).bind fun bt417 => (if t377 = t381 then (if t377 = 0 then ((spec_A2SameRecords.f k t376 t380).bind fun t419 => (if t419 = true then (if (t380.length : Int) = (t373.length : Int) then (if t385 = 0 then ((spec_A2SameRecords.f k t384 t380).bind fun t420 => (if t420 = true then (if t395 = t404 then (if t395 = 0 then ((spec_SameLog.f k t388 t389 t392 t397 t398 t401).bind fun t421 => (if t421 = true then ((impl_ValidLog.f k t397 t398 t401).bind fun t422 => (if t422 = true then (if (t398.length : Int) = 4 then (if bt406.2.2.2 = 0 then (if (bt406.2.1.length : Int) = 4 then ((spec_SameLog.f k bt406.1 bt406.2.1 bt406.2.2.1 t397 t398 t401).bind fun t423 => (if t423 = true then (if bt415.2 = bt417.2 then (if bt415.1 = bt417.1 then ((impl_ValidRecords.f k 5 4 t373).bind fun t424 => (laws_FnRecords.j0 k l1 t373 t380 bt415.2 bt417.1 (!t424) t397 t398 t401)) else (laws_FnRecords.j0 k l1 t373 t380 bt415.2 bt417.1 true t397 t398 t401)) else (laws_FnRecords.j0 k l1 t373 t380 bt415.2 bt417.1 true t397 t398 t401)) else (laws_FnRecords.j0 k l1 t373 t380 bt415.2 bt417.1 true t397 t398 t401))) else (laws_FnRecords.j0 k l1 t373 t380 bt415.2 bt417.1 true t397 t398 t401)) else (laws_FnRecords.j0 k l1 t373 t380 bt415.2 bt417.1 true t397 t398 t401)) else (laws_FnRecords.j0 k l1 t373 t380 bt415.2 bt417.1 true t397 t398 t401)) else (laws_FnRecords.j0 k l1 t373 t380 bt415.2 bt417.1 true t397 t398 t401))) else (laws_FnRecords.j0 k l1 t373 t380 bt415.2 bt417.1 true t397 t398 t401))) else (laws_FnRecords.j0 k l1 t373 t380 bt415.2 bt417.1 true t397 t398 t401)) else (laws_FnRecords.j0 k l1 t373 t380 bt415.2 bt417.1 true t397 t398 t401)) else (laws_FnRecords.j0 k l1 t373 t380 bt415.2 bt417.1 true t397 t398 t401))) else (laws_FnRecords.j0 k l1 t373 t380 bt415.2 bt417.1 true t397 t398 t401)) else (laws_FnRecords.j0 k l1 t373 t380 bt415.2 bt417.1 true t397 t398 t401)) else (laws_FnRecords.j0 k l1 t373 t380 bt415.2 bt417.1 true t397 t398 t401))) else (laws_FnRecords.j0 k l1 t373 t380 bt415.2 bt417.1 true t397 t398 t401)) else (laws_FnRecords.j0 k l1 t373 t380 bt415.2 bt417.1 true t397 t398 t401))))) = some r := H
 have A10 := ak A100
 clear A100
 replace H := Option.bind_eq_some_iff.mp H
 obtain ⟨⟨t406, t407, t410, t413⟩, A110, H⟩ := H
 replace H : ((impl_FirstBackward.f k 5 4 t373).bind fun bt415 => ((spec_FirstBackward.f k 5 4 t373).bind fun bt417 => (if t377 = t381 then (if t377 = 0 then ((spec_A2SameRecords.f k t376 t380).bind fun t419 => (if t419 = true then (if (t380.length : Int) = (t373.length : Int) then (if t385 = 0 then ((spec_A2SameRecords.f k t384 t380).bind fun t420 => (if t420 = true then (if t395 = t404 then (if t395 = 0 then ((spec_SameLog.f k t388 t389 t392 t397 t398 t401).bind fun t421 => (if t421 = true then ((impl_ValidLog.f k t397 t398 t401).bind fun t422 => (if t422 = true then (if (t398.length : Int) = 4 then (if t413 = 0 then (if (t407.length : Int) = 4 then ((spec_SameLog.f k t406 t407 t410 t397 t398 t401).bind fun t423 => (if t423 = true then (if bt415.2 = bt417.2 then (if bt415.1 = bt417.1 then ((impl_ValidRecords.f k 5 4 t373).bind fun t424 => (laws_FnRecords.j0 k l1 t373 t380 bt415.2 bt417.1 (!t424) t397 t398 t401)) else (laws_FnRecords.j0 k l1 t373 t380 bt415.2 bt417.1 true t397 t398 t401)) else (laws_FnRecords.j0 k l1 t373 t380 bt415.2 bt417.1 true t397 t398 t401)) else (laws_FnRecords.j0 k l1 t373 t380 bt415.2 bt417.1 true t397 t398 t401))) else (laws_FnRecords.j0 k l1 t373 t380 bt415.2 bt417.1 true t397 t398 t401)) else (laws_FnRecords.j0 k l1 t373 t380 bt415.2 bt417.1 true t397 t398 t401)) else (laws_FnRecords.j0 k l1 t373 t380 bt415.2 bt417.1 true t397 t398 t401)) else (laws_FnRecords.j0 k l1 t373 t380 bt415.2 bt417.1 true t397 t398 t401))) else (laws_FnRecords.j0 k l1 t373 t380 bt415.2 bt417.1 true t397 t398 t401))) else (laws_FnRecords.j0 k l1 t373 t380 bt415.2 bt417.1 true t397 t398 t401)) else (laws_FnRecords.j0 k l1 t373 t380 bt415.2 bt417.1 true t397 t398 t401)) else (laws_FnRecords.j0 k l1 t373 t380 bt415.2 bt417.1 true t397 t398 t401))) else (laws_FnRecords.j0 k l1 t373 t380 bt415.2 bt417.1 true t397 t398 t401)) else (laws_FnRecords.j0 k l1 t373 t380 bt415.2 bt417.1 true t397 t398 t401)) else (laws_FnRecords.j0 k l1 t373 t380 bt415.2 bt417.1 true t397 t398 t401))) else (laws_FnRecords.j0 k l1 t373 t380 bt415.2 bt417.1 true t397 t398 t401)) else (laws_FnRecords.j0 k l1 t373 t380 bt415.2 bt417.1 true t397 t398 t401)))) = some r := H
 have A11 := ak A110
 clear A110
 replace H := Option.bind_eq_some_iff.mp H
 obtain ⟨⟨t415, t416⟩, A120, H⟩ := H
 replace H : ((spec_FirstBackward.f k 5 4 t373).bind fun bt417 => (if t377 = t381 then (if t377 = 0 then ((spec_A2SameRecords.f k t376 t380).bind fun t419 => (if t419 = true then (if (t380.length : Int) = (t373.length : Int) then (if t385 = 0 then ((spec_A2SameRecords.f k t384 t380).bind fun t420 => (if t420 = true then (if t395 = t404 then (if t395 = 0 then ((spec_SameLog.f k t388 t389 t392 t397 t398 t401).bind fun t421 => (if t421 = true then ((impl_ValidLog.f k t397 t398 t401).bind fun t422 => (if t422 = true then (if (t398.length : Int) = 4 then (if t413 = 0 then (if (t407.length : Int) = 4 then ((spec_SameLog.f k t406 t407 t410 t397 t398 t401).bind fun t423 => (if t423 = true then (if t416 = bt417.2 then (if t415 = bt417.1 then ((impl_ValidRecords.f k 5 4 t373).bind fun t424 => (laws_FnRecords.j0 k l1 t373 t380 t416 bt417.1 (!t424) t397 t398 t401)) else (laws_FnRecords.j0 k l1 t373 t380 t416 bt417.1 true t397 t398 t401)) else (laws_FnRecords.j0 k l1 t373 t380 t416 bt417.1 true t397 t398 t401)) else (laws_FnRecords.j0 k l1 t373 t380 t416 bt417.1 true t397 t398 t401))) else (laws_FnRecords.j0 k l1 t373 t380 t416 bt417.1 true t397 t398 t401)) else (laws_FnRecords.j0 k l1 t373 t380 t416 bt417.1 true t397 t398 t401)) else (laws_FnRecords.j0 k l1 t373 t380 t416 bt417.1 true t397 t398 t401)) else (laws_FnRecords.j0 k l1 t373 t380 t416 bt417.1 true t397 t398 t401))) else (laws_FnRecords.j0 k l1 t373 t380 t416 bt417.1 true t397 t398 t401))) else (laws_FnRecords.j0 k l1 t373 t380 t416 bt417.1 true t397 t398 t401)) else (laws_FnRecords.j0 k l1 t373 t380 t416 bt417.1 true t397 t398 t401)) else (laws_FnRecords.j0 k l1 t373 t380 t416 bt417.1 true t397 t398 t401))) else (laws_FnRecords.j0 k l1 t373 t380 t416 bt417.1 true t397 t398 t401)) else (laws_FnRecords.j0 k l1 t373 t380 t416 bt417.1 true t397 t398 t401)) else (laws_FnRecords.j0 k l1 t373 t380 t416 bt417.1 true t397 t398 t401))) else (laws_FnRecords.j0 k l1 t373 t380 t416 bt417.1 true t397 t398 t401)) else (laws_FnRecords.j0 k l1 t373 t380 t416 bt417.1 true t397 t398 t401))) = some r := H
 have A12 := ak A120
 clear A120
 replace H := Option.bind_eq_some_iff.mp H
 obtain ⟨⟨t417, t418⟩, A130, H⟩ := H
 replace H : (if t377 = t381 then (if t377 = 0 then ((spec_A2SameRecords.f k t376 t380).bind fun t419 => (if t419 = true then (if (t380.length : Int) = (t373.length : Int) then (if t385 = 0 then ((spec_A2SameRecords.f k t384 t380).bind fun t420 => (if t420 = true then (if t395 = t404 then (if t395 = 0 then ((spec_SameLog.f k t388 t389 t392 t397 t398 t401).bind fun t421 => (if t421 = true then ((impl_ValidLog.f k t397 t398 t401).bind fun t422 => (if t422 = true then (if (t398.length : Int) = 4 then (if t413 = 0 then (if (t407.length : Int) = 4 then ((spec_SameLog.f k t406 t407 t410 t397 t398 t401).bind fun t423 => (if t423 = true then (if t416 = t418 then (if t415 = t417 then ((impl_ValidRecords.f k 5 4 t373).bind fun t424 => (laws_FnRecords.j0 k l1 t373 t380 t416 t417 (!t424) t397 t398 t401)) else (laws_FnRecords.j0 k l1 t373 t380 t416 t417 true t397 t398 t401)) else (laws_FnRecords.j0 k l1 t373 t380 t416 t417 true t397 t398 t401)) else (laws_FnRecords.j0 k l1 t373 t380 t416 t417 true t397 t398 t401))) else (laws_FnRecords.j0 k l1 t373 t380 t416 t417 true t397 t398 t401)) else (laws_FnRecords.j0 k l1 t373 t380 t416 t417 true t397 t398 t401)) else (laws_FnRecords.j0 k l1 t373 t380 t416 t417 true t397 t398 t401)) else (laws_FnRecords.j0 k l1 t373 t380 t416 t417 true t397 t398 t401))) else (laws_FnRecords.j0 k l1 t373 t380 t416 t417 true t397 t398 t401))) else (laws_FnRecords.j0 k l1 t373 t380 t416 t417 true t397 t398 t401)) else (laws_FnRecords.j0 k l1 t373 t380 t416 t417 true t397 t398 t401)) else (laws_FnRecords.j0 k l1 t373 t380 t416 t417 true t397 t398 t401))) else (laws_FnRecords.j0 k l1 t373 t380 t416 t417 true t397 t398 t401)) else (laws_FnRecords.j0 k l1 t373 t380 t416 t417 true t397 t398 t401)) else (laws_FnRecords.j0 k l1 t373 t380 t416 t417 true t397 t398 t401))) else (laws_FnRecords.j0 k l1 t373 t380 t416 t417 true t397 t398 t401)) else (laws_FnRecords.j0 k l1 t373 t380 t416 t417 true t397 t398 t401)) = some r := H
 have A13 := ak A130
 clear A130
 have HC14 := ak H
 clear H
 go_enter Try.func3, Try.ntmps3
 go_upto_region 12 with (first | (go_at_call 4; (with_reducible refine (laws_a2Long.calls _ _ l0 _ _ l1 false _ ?side1 ?side2 ?side3 ?side4 A3.out).mono ?_); (case side1 => exact sD HR0); (case side2 => exact HC0.out); (case side3 => exact sD HR1); (case side4 => exact HC1.out); rintro e w' ⟨rfl, ⟨nd, rfl⟩⟩) | (go_at_call 5; (with_reducible refine (spec_A2Records.calls k _ _ l0 t373 _ ?side1 ?side2 A5.out).mono ?_); (case side1 => exact sD HR0); (case side2 => exact HC0.out); rintro e w15 ⟨v374, rfl, ho0, hb⟩; have HO375 := ak (Kd.R_lower ho0 (below_size (zB HB.out))); replace HB := kB HB hb; (try clear hb); (try clear ho0); obtain ⟨Ao16, co16, eo16⟩ := Kd.R_slice HO375.out; subst eo16) | (go_at_call 6; (with_reducible refine (impl_SortRecords.calls k 5 4 _ _ t373 t376 t377 _ ?side1 ?side2 A6.out).mono ?_); (case side1 => exact sC HO375); (case side2 => exact sL HO375); rintro e w17 ⟨v378, rfl, ho0, hb⟩; have HO379 := ak (Kd.R_lower (Kd.R_new' ho0 (Kd.R_lt (zR HO375.out))) (below_size (zB HB.out))); replace HO375 := kE HO375 ho0 hb; replace HB := kB HB hb; (try clear hb); (try clear ho0)) | (go_at_call 7; (with_reducible refine (spec_SortRecords.calls k 5 4 _ _ t373 t380 t381 _ ?side1 ?side2 A7.out).mono ?_); (case side1 => exact sC HO375); (case side2 => exact sL HO375); rintro e w18 ⟨v382, rfl, ho0, hb⟩; have HO383 := ak (Kd.R_lower (Kd.R_new' (Kd.R_new' ho0 (Kd.R_lt (zR HO375.out))) (Kd.R_lt (zR HO379.out))) (below_size (zB HB.out))); replace HO375 := kE HO375 ho0 hb; replace HO379 := kE HO379 ho0 hb; replace HB := kB HB hb; (try clear hb); (try clear ho0); obtain ⟨Ao19, co19, eo19⟩ := Kd.R_slice HO383.out; subst eo19) | (go_at_call 6; (with_reducible refine (impl_SortRecords.calls k 5 4 _ _ t380 t384 t385 _ ?side1 ?side2 A8.out).mono ?_); (case side1 => exact sC HO383); (case side2 => exact sL HO383); rintro e w20 ⟨v386, rfl, ho0, hb⟩; have HO387 := ak (Kd.R_lower (Kd.R_new' (Kd.R_new' (Kd.R_new' ho0 (Kd.R_lt (zR HO375.out))) (Kd.R_lt (zR HO379.out))) (Kd.R_lt (zR HO383.out))) (below_size (zB HB.out))); replace HO375 := kE HO375 ho0 hb; replace HO379 := kE HO379 ho0 hb; replace HO383 := kE HO383 ho0 hb; replace HB := kB HB hb; (try clear hb); (try clear ho0)) | (go_at_call 8; (with_reducible refine (impl_LogFrom.calls k 5 4 _ _ t373 t388 t389 t392 t395 _ ?side1 ?side2 A9.out).mono ?_); (case side1 => exact sC HO375); (case side2 => exact sL HO375); rintro e w21 ⟨v390, v393, rfl, ho0, ho1, hb⟩; have HO391 := ak (Kd.R_lower ho0 (below_size (zB HB.out))); have HO394 := ak (Kd.R_lower ho1 (below_size (zB HB.out))); replace HO375 := kR HO375 hb; replace HO379 := kR HO379 hb; replace HO383 := kR HO383 hb; replace HO387 := kR HO387 hb; replace HB := kB HB hb; (try clear hb); (try clear ho0); (try clear ho1)) | ((with_reducible refine gate_dst (N := 12) rfl ?_); (try (refine gate_guard (by rfl) ?_; dsimp only)); refine box_event ?hg (N := 12) ?hd (cs := #[.int .i64 0, .slice none 0 0, .slice none 0 0]) (t := 31) ?hr ?_; (case hd => rfl); (case hg => rfl); (case hr => first | (go_simp; done) | (go_simp; rfl)); intro gb396 hg w22 hbox hb; have BK396 := ak (hbox); have GW396 := ak ((by rw [hg]; exact (below_size (zB HB.out)) : w.heap.size ≤ gb396)); have GE396 := ak ((by rw [hg]; exact (below_size (zB HB.out)) : w.heap.size ≤ gb396)); replace HO375 := kR HO375 hb; replace HO379 := kR HO379 hb; replace HO383 := kR HO383 hb; replace HO387 := kR HO387 hb; replace HO391 := kR HO391 hb; replace HO394 := kR HO394 hb; replace HB := kB HB hb; clear hb hbox hg; obtain ⟨hcz23_0, hcz23_1, hcz23_2, hfz23_0, hfz23_1, hfz23_2⟩ := cz3 w22 BK396; obtain ⟨Ao24, co24, eo24⟩ := Kd.R_slice HO391.out; subst eo24; obtain ⟨Ao25, co25, eo25⟩ := Kd.R_slice HO394.out; subst eo25) | (go_at_call 9; (with_reducible refine (spec_LogFrom.calls k 5 4 _ _ t373 t397 t398 t401 t404 _ ?side1 ?side2 A10.out).mono ?_); (case side1 => refine (Kd.R_reads' (e := 44) (base := w.heap.size) (ok := fun k_ => (((True ∧ some k_ ≠ (v378 : Value).ownBlock) ∧ some k_ ≠ (.slice Ao19 t380.length co19 : Value).ownBlock) ∧ some k_ ≠ (v386 : Value).ownBlock)) (n := t373.length) (c := co16) ?_).2.2; exact (by (with_reducible repeat (first | apply Kd.R_alloc | apply Kd.R_drewN | apply Kd.R_drew)); exact (Kd.R_mono (Kd.R_far (p := ⟨gb396, 2, none⟩) (Kd.R_far (p := ⟨gb396, 1, none⟩) (Kd.R_far (p := ⟨gb396, 0, none⟩) (Kd.R_types HO375.out BK396.out (by decide)) (fun _ hk => hk.2) (.int .i64 t388)) (fun _ hk => hk.2) (.slice Ao24 t389.length co24)) (fun _ hk => hk.2) (.slice Ao25 t392.length co25)) (fun _ h_ => h_.1)))); (case side2 => exact sL HO375); rintro e w26 ⟨v399, v402, rfl, ho0, ho1, hb⟩; have HO400 := ak (Kd.R_lower (Kd.R_new' ho0 (Kd.R_lt (by (with_reducible repeat (first | apply Kd.R_alloc | apply Kd.R_drewN | apply Kd.R_drew)); exact (Kd.R_mono (Kd.R_far (p := ⟨gb396, 2, none⟩) (Kd.R_far (p := ⟨gb396, 1, none⟩) (Kd.R_far (p := ⟨gb396, 0, none⟩) (Kd.R_types HO391.out BK396.out (by decide)) (fun _ hk => hk.2) (.int .i64 t388)) (fun _ hk => hk.2) (.slice Ao24 t389.length co24)) (fun _ hk => hk.2) (.slice Ao25 t392.length co25)) (fun _ h_ => h_.1))))) (below_size (zBG HB.out GE396.out))); have HO403 := ak (Kd.R_lower (Kd.R_new' ho1 (Kd.R_lt (by (with_reducible repeat (first | apply Kd.R_alloc | apply Kd.R_drewN | apply Kd.R_drew)); exact (Kd.R_mono (Kd.R_far (p := ⟨gb396, 2, none⟩) (Kd.R_far (p := ⟨gb396, 1, none⟩) (Kd.R_far (p := ⟨gb396, 0, none⟩) (Kd.R_types HO394.out BK396.out (by decide)) (fun _ hk => hk.2) (.int .i64 t388)) (fun _ hk => hk.2) (.slice Ao24 t389.length co24)) (fun _ hk => hk.2) (.slice Ao25 t392.length co25)) (fun _ h_ => h_.1))))) (below_size (zBG HB.out GE396.out))); replace HO375 := ak (Kd.R_below (by (with_reducible repeat (first | apply Kd.R_alloc | apply Kd.R_drewN | apply Kd.R_drew)); exact (Kd.R_mono (Kd.R_far (p := ⟨gb396, 2, none⟩) (Kd.R_far (p := ⟨gb396, 1, none⟩) (Kd.R_far (p := ⟨gb396, 0, none⟩) (Kd.R_types HO375.out BK396.out (by decide)) (fun _ hk => hk.2) (.int .i64 t388)) (fun _ hk => hk.2) (.slice Ao24 t389.length co24)) (fun _ hk => hk.2) (.slice Ao25 t392.length co25)) (fun _ h_ => h_.1))) hb); replace HO379 := ak (Kd.R_below (by (with_reducible repeat (first | apply Kd.R_alloc | apply Kd.R_drewN | apply Kd.R_drew)); exact (Kd.R_mono (Kd.R_far (p := ⟨gb396, 2, none⟩) (Kd.R_far (p := ⟨gb396, 1, none⟩) (Kd.R_far (p := ⟨gb396, 0, none⟩) (Kd.R_types HO379.out BK396.out (by decide)) (fun _ hk => hk.2) (.int .i64 t388)) (fun _ hk => hk.2) (.slice Ao24 t389.length co24)) (fun _ hk => hk.2) (.slice Ao25 t392.length co25)) (fun _ h_ => h_.1))) hb); replace HO383 := ak (Kd.R_below (by (with_reducible repeat (first | apply Kd.R_alloc | apply Kd.R_drewN | apply Kd.R_drew)); exact (Kd.R_mono (Kd.R_far (p := ⟨gb396, 2, none⟩) (Kd.R_far (p := ⟨gb396, 1, none⟩) (Kd.R_far (p := ⟨gb396, 0, none⟩) (Kd.R_types HO383.out BK396.out (by decide)) (fun _ hk => hk.2) (.int .i64 t388)) (fun _ hk => hk.2) (.slice Ao24 t389.length co24)) (fun _ hk => hk.2) (.slice Ao25 t392.length co25)) (fun _ h_ => h_.1))) hb); replace HO387 := ak (Kd.R_below (by (with_reducible repeat (first | apply Kd.R_alloc | apply Kd.R_drewN | apply Kd.R_drew)); exact (Kd.R_mono (Kd.R_far (p := ⟨gb396, 2, none⟩) (Kd.R_far (p := ⟨gb396, 1, none⟩) (Kd.R_far (p := ⟨gb396, 0, none⟩) (Kd.R_types HO387.out BK396.out (by decide)) (fun _ hk => hk.2) (.int .i64 t388)) (fun _ hk => hk.2) (.slice Ao24 t389.length co24)) (fun _ hk => hk.2) (.slice Ao25 t392.length co25)) (fun _ h_ => h_.1))) hb); replace HO391 := ak (Kd.R_elder' (by (with_reducible repeat (first | apply Kd.R_alloc | apply Kd.R_drewN | apply Kd.R_drew)); exact (Kd.R_mono (Kd.R_far (p := ⟨gb396, 2, none⟩) (Kd.R_far (p := ⟨gb396, 1, none⟩) (Kd.R_far (p := ⟨gb396, 0, none⟩) (Kd.R_types HO391.out BK396.out (by decide)) (fun _ hk => hk.2) (.int .i64 t388)) (fun _ hk => hk.2) (.slice Ao24 t389.length co24)) (fun _ hk => hk.2) (.slice Ao25 t392.length co25)) (fun _ h_ => h_.1))) (Kd.R_base ho0) hb); replace HO394 := ak (Kd.R_elder' (by (with_reducible repeat (first | apply Kd.R_alloc | apply Kd.R_drewN | apply Kd.R_drew)); exact (Kd.R_mono (Kd.R_far (p := ⟨gb396, 2, none⟩) (Kd.R_far (p := ⟨gb396, 1, none⟩) (Kd.R_far (p := ⟨gb396, 0, none⟩) (Kd.R_types HO394.out BK396.out (by decide)) (fun _ hk => hk.2) (.int .i64 t388)) (fun _ hk => hk.2) (.slice Ao24 t389.length co24)) (fun _ hk => hk.2) (.slice Ao25 t392.length co25)) (fun _ h_ => h_.1))) (Kd.R_base ho1) hb); replace BK396 := ak (blk_below (g := gb396) (o := .cells #[.int .i64 t388, .slice Ao24 t389.length co24, .slice Ao25 t392.length co25] 31 (0, 0)) (by (with_reducible repeat (first | refine blk_drewN ?_ _ | refine blk_drew ?_ | refine blk_alloc ?_ _)); refine blk_put (cs := #[.int .i64 t388, .slice Ao24 t389.length co24, .slice none 0 0]) ?_ 2 _ rfl; (with_reducible repeat (first | refine blk_drewN ?_ _ | refine blk_drew ?_ | refine blk_alloc ?_ _)); refine blk_put (cs := #[.int .i64 t388, .slice none 0 0, .slice none 0 0]) ?_ 1 _ rfl; (with_reducible repeat (first | refine blk_drewN ?_ _ | refine blk_drew ?_ | refine blk_alloc ?_ _)); refine blk_put (cs := #[.int .i64 0, .slice none 0 0, .slice none 0 0]) ?_ 0 _ rfl; (with_reducible repeat (first | refine blk_drewN ?_ _ | refine blk_drew ?_ | refine blk_alloc ?_ _)); exact BK396.out) hb); replace HB := kB1 HB GE396 hb; (try clear hb); (try clear hk); (try clear ho0); (try clear ho1)) | ((with_reducible refine gate_dst (N := 14) rfl ?_); (try (refine gate_guard (by rfl) ?_; dsimp only)); refine box_event ?hg (N := 14) ?hd (cs := #[.int .i64 0, .slice none 0 0, .slice none 0 0]) (t := 31) ?hr ?_; (case hd => rfl); (case hg => rfl); (case hr => first | (go_simp; done) | (go_simp; rfl)); intro gb405 hg w27 hbox hb; have BK405 := ak (hbox); have GW405 := ak ((by rw [hg]; exact (below_size (zBG HB.out GE396.out)) : w.heap.size ≤ gb405)); have GE405 := ak ((by rw [hg]; exact (below_size (zBG HB.out GE396.out)) : w.heap.size ≤ gb405)); have NB396_405 := ak ((by rw [hg]; exact Nat.ne_of_lt (blk_lt (g := gb396) (o := .cells #[.int .i64 t388, .slice Ao24 t389.length co24, .slice Ao25 t392.length co25] 31 (0, 0)) (zK2 BK396.out)) : gb396 ≠ gb405)); have NB405_396 := ak ((by rw [hg]; exact Nat.ne_of_gt (blk_lt (g := gb396) (o := .cells #[.int .i64 t388, .slice Ao24 t389.length co24, .slice Ao25 t392.length co25] 31 (0, 0)) (zK2 BK396.out)) : gb405 ≠ gb396)); replace HO375 := kR HO375 hb; replace HO379 := kR HO379 hb; replace HO383 := kR HO383 hb; replace HO387 := kR HO387 hb; replace HO391 := kR HO391 hb; replace HO394 := kR HO394 hb; replace HO400 := kR HO400 hb; replace HO403 := kR HO403 hb; replace BK396 := kK BK396 hb; replace HB := kB1 HB GE396 hb; clear hb hbox hg; have hnb28 := NB405_396.out; have hnc28 := NB396_405.out; obtain ⟨hcz29_0, hcz29_1, hcz29_2, hfz29_0, hfz29_1, hfz29_2⟩ := cz3 w27 BK405; obtain ⟨Ao30, co30, eo30⟩ := Kd.R_slice HO400.out; subst eo30; obtain ⟨Ao31, co31, eo31⟩ := Kd.R_slice HO403.out; subst eo31) | (go_at_call 8; (with_reducible refine (impl_LogFrom.calls k 5 4 _ _ t380 t406 t407 t410 t413 _ ?side1 ?side2 A11.out).mono ?_); (case side1 => refine (Kd.R_reads' (e := 44) (base := w.heap.size) (ok := fun k_ => (((True ∧ some k_ ≠ (.slice Ao16 t373.length co16 : Value).ownBlock) ∧ some k_ ≠ (v378 : Value).ownBlock) ∧ some k_ ≠ (v386 : Value).ownBlock)) (n := t380.length) (c := co19) ?_).2.2; exact (by (with_reducible repeat (first | apply Kd.R_alloc | apply Kd.R_drewN | apply Kd.R_drew)); exact (Kd.R_mono (Kd.R_far (p := ⟨gb405, 2, none⟩) (Kd.R_far (p := ⟨gb405, 1, none⟩) (Kd.R_far (p := ⟨gb405, 0, none⟩) (Kd.R_types HO383.out BK405.out (by decide)) (fun _ hk => hk.2) (.int .i64 t397)) (fun _ hk => hk.2) (.slice Ao30 t398.length co30)) (fun _ hk => hk.2) (.slice Ao31 t401.length co31)) (fun _ h_ => h_.1)))); (case side2 => exact sL HO383); rintro e w32 ⟨v408, v411, rfl, ho0, ho1, hb⟩; have HO409 := ak (Kd.R_lower (Kd.R_new' (Kd.R_new' ho0 (Kd.R_lt (by (with_reducible repeat (first | apply Kd.R_alloc | apply Kd.R_drewN | apply Kd.R_drew)); exact (Kd.R_mono (Kd.R_far (p := ⟨gb405, 2, none⟩) (Kd.R_far (p := ⟨gb405, 1, none⟩) (Kd.R_far (p := ⟨gb405, 0, none⟩) (Kd.R_types HO391.out BK405.out (by decide)) (fun _ hk => hk.2) (.int .i64 t397)) (fun _ hk => hk.2) (.slice Ao30 t398.length co30)) (fun _ hk => hk.2) (.slice Ao31 t401.length co31)) (fun _ h_ => h_.1))))) (Kd.R_lt (by (with_reducible repeat (first | apply Kd.R_alloc | apply Kd.R_drewN | apply Kd.R_drew)); exact (Kd.R_mono (Kd.R_far (p := ⟨gb405, 2, none⟩) (Kd.R_far (p := ⟨gb405, 1, none⟩) (Kd.R_far (p := ⟨gb405, 0, none⟩) (Kd.R_types HO400.out BK405.out (by decide)) (fun _ hk => hk.2) (.int .i64 t397)) (fun _ hk => hk.2) (.slice Ao30 t398.length co30)) (fun _ hk => hk.2) (.slice Ao31 t401.length co31)) (fun _ h_ => h_.1))))) (below_size (by repeat (first | (with_reducible first | exact HB.out | apply below_alloc | apply pw_below_drewN | apply below_drew1 | refine below_set ?_ GE396.out | refine below_set ?_ GE405.out) | exact HB.out)))); have HO412 := ak (Kd.R_lower (Kd.R_new' (Kd.R_new' ho1 (Kd.R_lt (by (with_reducible repeat (first | apply Kd.R_alloc | apply Kd.R_drewN | apply Kd.R_drew)); exact (Kd.R_mono (Kd.R_far (p := ⟨gb405, 2, none⟩) (Kd.R_far (p := ⟨gb405, 1, none⟩) (Kd.R_far (p := ⟨gb405, 0, none⟩) (Kd.R_types HO394.out BK405.out (by decide)) (fun _ hk => hk.2) (.int .i64 t397)) (fun _ hk => hk.2) (.slice Ao30 t398.length co30)) (fun _ hk => hk.2) (.slice Ao31 t401.length co31)) (fun _ h_ => h_.1))))) (Kd.R_lt (by (with_reducible repeat (first | apply Kd.R_alloc | apply Kd.R_drewN | apply Kd.R_drew)); exact (Kd.R_mono (Kd.R_far (p := ⟨gb405, 2, none⟩) (Kd.R_far (p := ⟨gb405, 1, none⟩) (Kd.R_far (p := ⟨gb405, 0, none⟩) (Kd.R_types HO403.out BK405.out (by decide)) (fun _ hk => hk.2) (.int .i64 t397)) (fun _ hk => hk.2) (.slice Ao30 t398.length co30)) (fun _ hk => hk.2) (.slice Ao31 t401.length co31)) (fun _ h_ => h_.1))))) (below_size (by repeat (first | (with_reducible first | exact HB.out | apply below_alloc | apply pw_below_drewN | apply below_drew1 | refine below_set ?_ GE396.out | refine below_set ?_ GE405.out) | exact HB.out)))); replace HO375 := ak (Kd.R_below (by (with_reducible repeat (first | apply Kd.R_alloc | apply Kd.R_drewN | apply Kd.R_drew)); exact (Kd.R_mono (Kd.R_far (p := ⟨gb405, 2, none⟩) (Kd.R_far (p := ⟨gb405, 1, none⟩) (Kd.R_far (p := ⟨gb405, 0, none⟩) (Kd.R_types HO375.out BK405.out (by decide)) (fun _ hk => hk.2) (.int .i64 t397)) (fun _ hk => hk.2) (.slice Ao30 t398.length co30)) (fun _ hk => hk.2) (.slice Ao31 t401.length co31)) (fun _ h_ => h_.1))) hb); replace HO379 := ak (Kd.R_below (by (with_reducible repeat (first | apply Kd.R_alloc | apply Kd.R_drewN | apply Kd.R_drew)); exact (Kd.R_mono (Kd.R_far (p := ⟨gb405, 2, none⟩) (Kd.R_far (p := ⟨gb405, 1, none⟩) (Kd.R_far (p := ⟨gb405, 0, none⟩) (Kd.R_types HO379.out BK405.out (by decide)) (fun _ hk => hk.2) (.int .i64 t397)) (fun _ hk => hk.2) (.slice Ao30 t398.length co30)) (fun _ hk => hk.2) (.slice Ao31 t401.length co31)) (fun _ h_ => h_.1))) hb); replace HO383 := ak (Kd.R_below (by (with_reducible repeat (first | apply Kd.R_alloc | apply Kd.R_drewN | apply Kd.R_drew)); exact (Kd.R_mono (Kd.R_far (p := ⟨gb405, 2, none⟩) (Kd.R_far (p := ⟨gb405, 1, none⟩) (Kd.R_far (p := ⟨gb405, 0, none⟩) (Kd.R_types HO383.out BK405.out (by decide)) (fun _ hk => hk.2) (.int .i64 t397)) (fun _ hk => hk.2) (.slice Ao30 t398.length co30)) (fun _ hk => hk.2) (.slice Ao31 t401.length co31)) (fun _ h_ => h_.1))) hb); replace HO387 := ak (Kd.R_below (by (with_reducible repeat (first | apply Kd.R_alloc | apply Kd.R_drewN | apply Kd.R_drew)); exact (Kd.R_mono (Kd.R_far (p := ⟨gb405, 2, none⟩) (Kd.R_far (p := ⟨gb405, 1, none⟩) (Kd.R_far (p := ⟨gb405, 0, none⟩) (Kd.R_types HO387.out BK405.out (by decide)) (fun _ hk => hk.2) (.int .i64 t397)) (fun _ hk => hk.2) (.slice Ao30 t398.length co30)) (fun _ hk => hk.2) (.slice Ao31 t401.length co31)) (fun _ h_ => h_.1))) hb); replace HO391 := ak (Kd.R_elder' (by (with_reducible repeat (first | apply Kd.R_alloc | apply Kd.R_drewN | apply Kd.R_drew)); exact (Kd.R_mono (Kd.R_far (p := ⟨gb405, 2, none⟩) (Kd.R_far (p := ⟨gb405, 1, none⟩) (Kd.R_far (p := ⟨gb405, 0, none⟩) (Kd.R_types HO391.out BK405.out (by decide)) (fun _ hk => hk.2) (.int .i64 t397)) (fun _ hk => hk.2) (.slice Ao30 t398.length co30)) (fun _ hk => hk.2) (.slice Ao31 t401.length co31)) (fun _ h_ => h_.1))) (Kd.R_base ho0) hb); replace HO394 := ak (Kd.R_elder' (by (with_reducible repeat (first | apply Kd.R_alloc | apply Kd.R_drewN | apply Kd.R_drew)); exact (Kd.R_mono (Kd.R_far (p := ⟨gb405, 2, none⟩) (Kd.R_far (p := ⟨gb405, 1, none⟩) (Kd.R_far (p := ⟨gb405, 0, none⟩) (Kd.R_types HO394.out BK405.out (by decide)) (fun _ hk => hk.2) (.int .i64 t397)) (fun _ hk => hk.2) (.slice Ao30 t398.length co30)) (fun _ hk => hk.2) (.slice Ao31 t401.length co31)) (fun _ h_ => h_.1))) (Kd.R_base ho1) hb); replace HO400 := ak (Kd.R_elder' (by (with_reducible repeat (first | apply Kd.R_alloc | apply Kd.R_drewN | apply Kd.R_drew)); exact (Kd.R_mono (Kd.R_far (p := ⟨gb405, 2, none⟩) (Kd.R_far (p := ⟨gb405, 1, none⟩) (Kd.R_far (p := ⟨gb405, 0, none⟩) (Kd.R_types HO400.out BK405.out (by decide)) (fun _ hk => hk.2) (.int .i64 t397)) (fun _ hk => hk.2) (.slice Ao30 t398.length co30)) (fun _ hk => hk.2) (.slice Ao31 t401.length co31)) (fun _ h_ => h_.1))) (Kd.R_base ho0) hb); replace HO403 := ak (Kd.R_elder' (by (with_reducible repeat (first | apply Kd.R_alloc | apply Kd.R_drewN | apply Kd.R_drew)); exact (Kd.R_mono (Kd.R_far (p := ⟨gb405, 2, none⟩) (Kd.R_far (p := ⟨gb405, 1, none⟩) (Kd.R_far (p := ⟨gb405, 0, none⟩) (Kd.R_types HO403.out BK405.out (by decide)) (fun _ hk => hk.2) (.int .i64 t397)) (fun _ hk => hk.2) (.slice Ao30 t398.length co30)) (fun _ hk => hk.2) (.slice Ao31 t401.length co31)) (fun _ h_ => h_.1))) (Kd.R_base ho1) hb); replace BK396 := ak (blk_below (g := gb396) (o := .cells #[.int .i64 t388, .slice Ao24 t389.length co24, .slice Ao25 t392.length co25] 31 (0, 0)) (by (with_reducible repeat (first | refine blk_drewN ?_ _ | refine blk_drew ?_ | refine blk_alloc ?_ _)); refine blk_far ?_ NB396_405.out _; (with_reducible repeat (first | refine blk_drewN ?_ _ | refine blk_drew ?_ | refine blk_alloc ?_ _)); refine blk_far ?_ NB396_405.out _; (with_reducible repeat (first | refine blk_drewN ?_ _ | refine blk_drew ?_ | refine blk_alloc ?_ _)); refine blk_far ?_ NB396_405.out _; (with_reducible repeat (first | refine blk_drewN ?_ _ | refine blk_drew ?_ | refine blk_alloc ?_ _)); exact BK396.out) hb); replace BK405 := ak (blk_below (g := gb405) (o := .cells #[.int .i64 t397, .slice Ao30 t398.length co30, .slice Ao31 t401.length co31] 31 (0, 0)) (by (with_reducible repeat (first | refine blk_drewN ?_ _ | refine blk_drew ?_ | refine blk_alloc ?_ _)); refine blk_put (cs := #[.int .i64 t397, .slice Ao30 t398.length co30, .slice none 0 0]) ?_ 2 _ rfl; (with_reducible repeat (first | refine blk_drewN ?_ _ | refine blk_drew ?_ | refine blk_alloc ?_ _)); refine blk_put (cs := #[.int .i64 t397, .slice none 0 0, .slice none 0 0]) ?_ 1 _ rfl; (with_reducible repeat (first | refine blk_drewN ?_ _ | refine blk_drew ?_ | refine blk_alloc ?_ _)); refine blk_put (cs := #[.int .i64 0, .slice none 0 0, .slice none 0 0]) ?_ 0 _ rfl; (with_reducible repeat (first | refine blk_drewN ?_ _ | refine blk_drew ?_ | refine blk_alloc ?_ _)); exact BK405.out) hb); replace HB := kB2 HB GE396 GE405 hb; (try clear hb); (try clear hk); (try clear ho0); (try clear ho1)) | ((with_reducible refine gate_dst (N := 16) rfl ?_); (try (refine gate_guard (by rfl) ?_; dsimp only)); refine box_event ?hg (N := 16) ?hd (cs := #[.int .i64 0, .slice none 0 0, .slice none 0 0]) (t := 31) ?hr ?_; (case hd => rfl); (case hg => rfl); (case hr => first | (go_simp; done) | (go_simp; rfl)); intro gb414 hg w33 hbox hb; have BK414 := ak (hbox); have GW414 := ak ((by rw [hg]; exact (below_size (by repeat (first | (with_reducible first | exact HB.out | apply below_alloc | apply pw_below_drewN | apply below_drew1 | refine below_set ?_ GE396.out | refine below_set ?_ GE405.out) | exact HB.out))) : w.heap.size ≤ gb414)); have GE414 := ak ((by rw [hg]; exact (below_size (by repeat (first | (with_reducible first | exact HB.out | apply below_alloc | apply pw_below_drewN | apply below_drew1 | refine below_set ?_ GE396.out | refine below_set ?_ GE405.out) | exact HB.out))) : w.heap.size ≤ gb414)); have NB396_414 := ak ((by rw [hg]; exact Nat.ne_of_lt (blk_lt (g := gb396) (o := .cells #[.int .i64 t388, .slice Ao24 t389.length co24, .slice Ao25 t392.length co25] 31 (0, 0)) (zK2 BK396.out)) : gb396 ≠ gb414)); have NB414_396 := ak ((by rw [hg]; exact Nat.ne_of_gt (blk_lt (g := gb396) (o := .cells #[.int .i64 t388, .slice Ao24 t389.length co24, .slice Ao25 t392.length co25] 31 (0, 0)) (zK2 BK396.out)) : gb414 ≠ gb396)); have NB405_414 := ak ((by rw [hg]; exact Nat.ne_of_lt (blk_lt (g := gb405) (o := .cells #[.int .i64 t397, .slice Ao30 t398.length co30, .slice Ao31 t401.length co31] 31 (0, 0)) (zK2 BK405.out)) : gb405 ≠ gb414)); have NB414_405 := ak ((by rw [hg]; exact Nat.ne_of_gt (blk_lt (g := gb405) (o := .cells #[.int .i64 t397, .slice Ao30 t398.length co30, .slice Ao31 t401.length co31] 31 (0, 0)) (zK2 BK405.out)) : gb414 ≠ gb405)); replace HO375 := kR HO375 hb; replace HO379 := kR HO379 hb; replace HO383 := kR HO383 hb; replace HO387 := kR HO387 hb; replace HO391 := kR HO391 hb; replace HO394 := kR HO394 hb; replace HO400 := kR HO400 hb; replace HO403 := kR HO403 hb; replace HO409 := kR HO409 hb; replace HO412 := kR HO412 hb; replace BK396 := kK BK396 hb; replace BK405 := kK BK405 hb; replace HB := kB2 HB GE396 GE405 hb; clear hb hbox hg; have hnb34 := NB414_396.out; have hnc34 := NB396_414.out; have hnb35 := NB414_405.out; have hnc35 := NB405_414.out; obtain ⟨hcz36_0, hcz36_1, hcz36_2, hfz36_0, hfz36_1, hfz36_2⟩ := cz3 w33 BK414; obtain ⟨Ao37, co37, eo37⟩ := Kd.R_slice HO409.out; subst eo37; obtain ⟨Ao38, co38, eo38⟩ := Kd.R_slice HO412.out; subst eo38) | (go_at_call 10; (with_reducible refine (impl_FirstBackward.calls k 5 4 _ _ t373 t415 t416 _ ?side1 ?side2 A12.out).mono ?_); (case side1 => refine (Kd.R_reads' (e := 44) (base := w.heap.size) (ok := fun k_ => (((True ∧ some k_ ≠ (v378 : Value).ownBlock) ∧ some k_ ≠ (.slice Ao19 t380.length co19 : Value).ownBlock) ∧ some k_ ≠ (v386 : Value).ownBlock)) (n := t373.length) (c := co16) ?_).2.2; exact (by (with_reducible repeat (first | apply Kd.R_alloc | apply Kd.R_drewN | apply Kd.R_drew)); exact (Kd.R_mono (Kd.R_far (p := ⟨gb414, 2, none⟩) (Kd.R_far (p := ⟨gb414, 1, none⟩) (Kd.R_far (p := ⟨gb414, 0, none⟩) (Kd.R_types HO375.out BK414.out (by decide)) (fun _ hk => hk.2) (.int .i64 t406)) (fun _ hk => hk.2) (.slice Ao37 t407.length co37)) (fun _ hk => hk.2) (.slice Ao38 t410.length co38)) (fun _ h_ => h_.1)))); (case side2 => exact sL HO375); rintro e w39 ⟨rfl, hb⟩; replace HO375 := ak (Kd.R_below (by (with_reducible repeat (first | apply Kd.R_alloc | apply Kd.R_drewN | apply Kd.R_drew)); exact (Kd.R_mono (Kd.R_far (p := ⟨gb414, 2, none⟩) (Kd.R_far (p := ⟨gb414, 1, none⟩) (Kd.R_far (p := ⟨gb414, 0, none⟩) (Kd.R_types HO375.out BK414.out (by decide)) (fun _ hk => hk.2) (.int .i64 t406)) (fun _ hk => hk.2) (.slice Ao37 t407.length co37)) (fun _ hk => hk.2) (.slice Ao38 t410.length co38)) (fun _ h_ => h_.1))) hb); replace HO379 := ak (Kd.R_below (by (with_reducible repeat (first | apply Kd.R_alloc | apply Kd.R_drewN | apply Kd.R_drew)); exact (Kd.R_mono (Kd.R_far (p := ⟨gb414, 2, none⟩) (Kd.R_far (p := ⟨gb414, 1, none⟩) (Kd.R_far (p := ⟨gb414, 0, none⟩) (Kd.R_types HO379.out BK414.out (by decide)) (fun _ hk => hk.2) (.int .i64 t406)) (fun _ hk => hk.2) (.slice Ao37 t407.length co37)) (fun _ hk => hk.2) (.slice Ao38 t410.length co38)) (fun _ h_ => h_.1))) hb); replace HO383 := ak (Kd.R_below (by (with_reducible repeat (first | apply Kd.R_alloc | apply Kd.R_drewN | apply Kd.R_drew)); exact (Kd.R_mono (Kd.R_far (p := ⟨gb414, 2, none⟩) (Kd.R_far (p := ⟨gb414, 1, none⟩) (Kd.R_far (p := ⟨gb414, 0, none⟩) (Kd.R_types HO383.out BK414.out (by decide)) (fun _ hk => hk.2) (.int .i64 t406)) (fun _ hk => hk.2) (.slice Ao37 t407.length co37)) (fun _ hk => hk.2) (.slice Ao38 t410.length co38)) (fun _ h_ => h_.1))) hb); replace HO387 := ak (Kd.R_below (by (with_reducible repeat (first | apply Kd.R_alloc | apply Kd.R_drewN | apply Kd.R_drew)); exact (Kd.R_mono (Kd.R_far (p := ⟨gb414, 2, none⟩) (Kd.R_far (p := ⟨gb414, 1, none⟩) (Kd.R_far (p := ⟨gb414, 0, none⟩) (Kd.R_types HO387.out BK414.out (by decide)) (fun _ hk => hk.2) (.int .i64 t406)) (fun _ hk => hk.2) (.slice Ao37 t407.length co37)) (fun _ hk => hk.2) (.slice Ao38 t410.length co38)) (fun _ h_ => h_.1))) hb); replace HO391 := ak (Kd.R_below (by (with_reducible repeat (first | apply Kd.R_alloc | apply Kd.R_drewN | apply Kd.R_drew)); exact (Kd.R_mono (Kd.R_far (p := ⟨gb414, 2, none⟩) (Kd.R_far (p := ⟨gb414, 1, none⟩) (Kd.R_far (p := ⟨gb414, 0, none⟩) (Kd.R_types HO391.out BK414.out (by decide)) (fun _ hk => hk.2) (.int .i64 t406)) (fun _ hk => hk.2) (.slice Ao37 t407.length co37)) (fun _ hk => hk.2) (.slice Ao38 t410.length co38)) (fun _ h_ => h_.1))) hb); replace HO394 := ak (Kd.R_below (by (with_reducible repeat (first | apply Kd.R_alloc | apply Kd.R_drewN | apply Kd.R_drew)); exact (Kd.R_mono (Kd.R_far (p := ⟨gb414, 2, none⟩) (Kd.R_far (p := ⟨gb414, 1, none⟩) (Kd.R_far (p := ⟨gb414, 0, none⟩) (Kd.R_types HO394.out BK414.out (by decide)) (fun _ hk => hk.2) (.int .i64 t406)) (fun _ hk => hk.2) (.slice Ao37 t407.length co37)) (fun _ hk => hk.2) (.slice Ao38 t410.length co38)) (fun _ h_ => h_.1))) hb); replace HO400 := ak (Kd.R_below (by (with_reducible repeat (first | apply Kd.R_alloc | apply Kd.R_drewN | apply Kd.R_drew)); exact (Kd.R_mono (Kd.R_far (p := ⟨gb414, 2, none⟩) (Kd.R_far (p := ⟨gb414, 1, none⟩) (Kd.R_far (p := ⟨gb414, 0, none⟩) (Kd.R_types HO400.out BK414.out (by decide)) (fun _ hk => hk.2) (.int .i64 t406)) (fun _ hk => hk.2) (.slice Ao37 t407.length co37)) (fun _ hk => hk.2) (.slice Ao38 t410.length co38)) (fun _ h_ => h_.1))) hb); replace HO403 := ak (Kd.R_below (by (with_reducible repeat (first | apply Kd.R_alloc | apply Kd.R_drewN | apply Kd.R_drew)); exact (Kd.R_mono (Kd.R_far (p := ⟨gb414, 2, none⟩) (Kd.R_far (p := ⟨gb414, 1, none⟩) (Kd.R_far (p := ⟨gb414, 0, none⟩) (Kd.R_types HO403.out BK414.out (by decide)) (fun _ hk => hk.2) (.int .i64 t406)) (fun _ hk => hk.2) (.slice Ao37 t407.length co37)) (fun _ hk => hk.2) (.slice Ao38 t410.length co38)) (fun _ h_ => h_.1))) hb); replace HO409 := ak (Kd.R_below (by (with_reducible repeat (first | apply Kd.R_alloc | apply Kd.R_drewN | apply Kd.R_drew)); exact (Kd.R_mono (Kd.R_far (p := ⟨gb414, 2, none⟩) (Kd.R_far (p := ⟨gb414, 1, none⟩) (Kd.R_far (p := ⟨gb414, 0, none⟩) (Kd.R_types HO409.out BK414.out (by decide)) (fun _ hk => hk.2) (.int .i64 t406)) (fun _ hk => hk.2) (.slice Ao37 t407.length co37)) (fun _ hk => hk.2) (.slice Ao38 t410.length co38)) (fun _ h_ => h_.1))) hb); replace HO412 := ak (Kd.R_below (by (with_reducible repeat (first | apply Kd.R_alloc | apply Kd.R_drewN | apply Kd.R_drew)); exact (Kd.R_mono (Kd.R_far (p := ⟨gb414, 2, none⟩) (Kd.R_far (p := ⟨gb414, 1, none⟩) (Kd.R_far (p := ⟨gb414, 0, none⟩) (Kd.R_types HO412.out BK414.out (by decide)) (fun _ hk => hk.2) (.int .i64 t406)) (fun _ hk => hk.2) (.slice Ao37 t407.length co37)) (fun _ hk => hk.2) (.slice Ao38 t410.length co38)) (fun _ h_ => h_.1))) hb); replace BK396 := ak (blk_below (g := gb396) (o := .cells #[.int .i64 t388, .slice Ao24 t389.length co24, .slice Ao25 t392.length co25] 31 (0, 0)) (by (with_reducible repeat (first | refine blk_drewN ?_ _ | refine blk_drew ?_ | refine blk_alloc ?_ _)); refine blk_far ?_ NB396_414.out _; (with_reducible repeat (first | refine blk_drewN ?_ _ | refine blk_drew ?_ | refine blk_alloc ?_ _)); refine blk_far ?_ NB396_414.out _; (with_reducible repeat (first | refine blk_drewN ?_ _ | refine blk_drew ?_ | refine blk_alloc ?_ _)); refine blk_far ?_ NB396_414.out _; (with_reducible repeat (first | refine blk_drewN ?_ _ | refine blk_drew ?_ | refine blk_alloc ?_ _)); exact BK396.out) hb); replace BK405 := ak (blk_below (g := gb405) (o := .cells #[.int .i64 t397, .slice Ao30 t398.length co30, .slice Ao31 t401.length co31] 31 (0, 0)) (by (with_reducible repeat (first | refine blk_drewN ?_ _ | refine blk_drew ?_ | refine blk_alloc ?_ _)); refine blk_far ?_ NB405_414.out _; (with_reducible repeat (first | refine blk_drewN ?_ _ | refine blk_drew ?_ | refine blk_alloc ?_ _)); refine blk_far ?_ NB405_414.out _; (with_reducible repeat (first | refine blk_drewN ?_ _ | refine blk_drew ?_ | refine blk_alloc ?_ _)); refine blk_far ?_ NB405_414.out _; (with_reducible repeat (first | refine blk_drewN ?_ _ | refine blk_drew ?_ | refine blk_alloc ?_ _)); exact BK405.out) hb); replace BK414 := ak (blk_below (g := gb414) (o := .cells #[.int .i64 t406, .slice Ao37 t407.length co37, .slice Ao38 t410.length co38] 31 (0, 0)) (by (with_reducible repeat (first | refine blk_drewN ?_ _ | refine blk_drew ?_ | refine blk_alloc ?_ _)); refine blk_put (cs := #[.int .i64 t406, .slice Ao37 t407.length co37, .slice none 0 0]) ?_ 2 _ rfl; (with_reducible repeat (first | refine blk_drewN ?_ _ | refine blk_drew ?_ | refine blk_alloc ?_ _)); refine blk_put (cs := #[.int .i64 t406, .slice none 0 0, .slice none 0 0]) ?_ 1 _ rfl; (with_reducible repeat (first | refine blk_drewN ?_ _ | refine blk_drew ?_ | refine blk_alloc ?_ _)); refine blk_put (cs := #[.int .i64 0, .slice none 0 0, .slice none 0 0]) ?_ 0 _ rfl; (with_reducible repeat (first | refine blk_drewN ?_ _ | refine blk_drew ?_ | refine blk_alloc ?_ _)); exact BK414.out) hb); replace HB := kB3 HB GE396 GE405 GE414 hb; (try clear hb); (try clear hk)) | (go_at_call 11; (with_reducible refine (spec_FirstBackward.calls k 5 4 _ _ t373 t417 t418 _ ?side1 ?side2 A13.out).mono ?_); (case side1 => exact sC HO375); (case side2 => exact sL HO375); rintro e w40 ⟨rfl, hb⟩; replace HO375 := kR HO375 hb; replace HO379 := kR HO379 hb; replace HO383 := kR HO383 hb; replace HO387 := kR HO387 hb; replace HO391 := kR HO391 hb; replace HO394 := kR HO394 hb; replace HO400 := kR HO400 hb; replace HO403 := kR HO403 hb; replace HO409 := kR HO409 hb; replace HO412 := kR HO412 hb; replace BK396 := kK BK396 hb; replace BK405 := kK BK405 hb; replace BK414 := kK BK414 hb; replace HB := kB3 HB GE396 GE405 GE414 hb; (try clear hb)))
 repeat (go_quiet (fail))
 (try simp only [Act.put, zs, zz, zk])
 refine wp_cutM 1146749307995035755805410447651043470398282494584140561868794419693461438044242404035009276554925404323840 (fun (u : Nat → Value) wc => ∃ (kq : Nat) (x168_13 : Bool), u 168 = .bool x168_13 ∧ Aside0 (laws_FnRecords.j0 kq l1 t373 t380 t416 t417 x168_13 t397 t398 t401 = some r) ∧ Aside0 (kq ≤ k) ∧ Aside0 (Kd.R k44 44 wc w.heap.size (fun k_ => some k_ ≠ ((.slice Ao19 t380.length co19) : Value).ownBlock) (.slice Ao16 t373.length co16) t373) ∧ Aside0 (Kd.R k44 44 wc w.heap.size (fun k_ => some k_ ≠ ((.slice Ao16 t373.length co16) : Value).ownBlock) (.slice Ao19 t380.length co19) t380) ∧ Aside0 (Kd.R (Kd.int .u16) 56 wc w.heap.size (fun k_ => some k_ ≠ ((.slice Ao30 t398.length co30) : Value).ownBlock ∧ some k_ ≠ ((.slice Ao37 t407.length co37) : Value).ownBlock) (.slice Ao24 t389.length co24) t389) ∧ Aside0 (Kd.R (Kd.int .i16) 42 wc w.heap.size (fun k_ => some k_ ≠ ((.slice Ao31 t401.length co31) : Value).ownBlock ∧ some k_ ≠ ((.slice Ao38 t410.length co38) : Value).ownBlock) (.slice Ao25 t392.length co25) t392) ∧ Aside0 (Kd.R (Kd.int .u16) 56 wc w.heap.size (fun k_ => some k_ ≠ ((.slice Ao24 t389.length co24) : Value).ownBlock ∧ some k_ ≠ ((.slice Ao37 t407.length co37) : Value).ownBlock) (.slice Ao30 t398.length co30) t398) ∧ Aside0 (Kd.R (Kd.int .i16) 42 wc w.heap.size (fun k_ => some k_ ≠ ((.slice Ao25 t392.length co25) : Value).ownBlock ∧ some k_ ≠ ((.slice Ao38 t410.length co38) : Value).ownBlock) (.slice Ao31 t401.length co31) t401) ∧ Aside0 (Kd.R (Kd.int .u16) 56 wc w.heap.size (fun k_ => some k_ ≠ ((.slice Ao24 t389.length co24) : Value).ownBlock ∧ some k_ ≠ ((.slice Ao30 t398.length co30) : Value).ownBlock) (.slice Ao37 t407.length co37) t407) ∧ Aside0 (Kd.R (Kd.int .i16) 42 wc w.heap.size (fun k_ => some k_ ≠ ((.slice Ao25 t392.length co25) : Value).ownBlock ∧ some k_ ≠ ((.slice Ao31 t401.length co31) : Value).ownBlock) (.slice Ao38 t410.length co38) t410) ∧ Aside0 (wc.heap[gb396]? = some (.cells #[.int .i64 t388, (.slice Ao24 t389.length co24), (.slice Ao25 t392.length co25)] 31 (0, 0))) ∧ Aside0 (wc.heap[gb405]? = some (.cells #[.int .i64 t397, (.slice Ao30 t398.length co30), (.slice Ao31 t401.length co31)] 31 (0, 0))) ∧ Aside0 (wc.heap[gb414]? = some (.cells #[.int .i64 t406, (.slice Ao37 t407.length co37), (.slice Ao38 t410.length co38)] 31 (0, 0))) ∧ Aside0 (Below w.heap.size w wc)) ?first ?rest
 case first => (
 intro J_ K_ hJ1_ hK_
 have H := HC14.out
 clear HC14
 by_cases c41 : t377 = t381
 {
 rw [if_pos c41] at H
 have c41b0 : (t377 == t381) = true := beq_iff_eq.mpr c41
 have c41b1 : (t377 != t381) = false := bne_eq_false_iff_eq.mpr c41
 clear c41
 (first | rw [c41b0] | (simp only [i64_w, i32_w]; rw [c41b0]) | skip)
 by_cases c42 : t377 = 0
 {
 rw [if_pos c42] at H
 have c42b0 : (t377 == 0) = true := beq_iff_eq.mpr c42
 have c42b1 : (t377 != 0) = false := bne_eq_false_iff_eq.mpr c42
 clear c42
 replace H := Option.bind_eq_some_iff.mp H
 obtain ⟨t419, A430, H⟩ := H
 replace H : (if t419 = true then (if (t380.length : Int) = (t373.length : Int) then (if t385 = 0 then ((spec_A2SameRecords.f k t384 t380).bind fun t420 => (if t420 = true then (if t395 = t404 then (if t395 = 0 then ((spec_SameLog.f k t388 t389 t392 t397 t398 t401).bind fun t421 => (if t421 = true then ((impl_ValidLog.f k t397 t398 t401).bind fun t422 => (if t422 = true then (if (t398.length : Int) = 4 then (if t413 = 0 then (if (t407.length : Int) = 4 then ((spec_SameLog.f k t406 t407 t410 t397 t398 t401).bind fun t423 => (if t423 = true then (if t416 = t418 then (if t415 = t417 then ((impl_ValidRecords.f k 5 4 t373).bind fun t424 => (laws_FnRecords.j0 k l1 t373 t380 t416 t417 (!t424) t397 t398 t401)) else (laws_FnRecords.j0 k l1 t373 t380 t416 t417 true t397 t398 t401)) else (laws_FnRecords.j0 k l1 t373 t380 t416 t417 true t397 t398 t401)) else (laws_FnRecords.j0 k l1 t373 t380 t416 t417 true t397 t398 t401))) else (laws_FnRecords.j0 k l1 t373 t380 t416 t417 true t397 t398 t401)) else (laws_FnRecords.j0 k l1 t373 t380 t416 t417 true t397 t398 t401)) else (laws_FnRecords.j0 k l1 t373 t380 t416 t417 true t397 t398 t401)) else (laws_FnRecords.j0 k l1 t373 t380 t416 t417 true t397 t398 t401))) else (laws_FnRecords.j0 k l1 t373 t380 t416 t417 true t397 t398 t401))) else (laws_FnRecords.j0 k l1 t373 t380 t416 t417 true t397 t398 t401)) else (laws_FnRecords.j0 k l1 t373 t380 t416 t417 true t397 t398 t401)) else (laws_FnRecords.j0 k l1 t373 t380 t416 t417 true t397 t398 t401))) else (laws_FnRecords.j0 k l1 t373 t380 t416 t417 true t397 t398 t401)) else (laws_FnRecords.j0 k l1 t373 t380 t416 t417 true t397 t398 t401)) else (laws_FnRecords.j0 k l1 t373 t380 t416 t417 true t397 t398 t401)) = some r := H
 have A43 := ak A430
 clear A430
 by_cases c44 : t419 = true
 {
 subst c44
 have H1 : (if (t380.length : Int) = (t373.length : Int) then (if t385 = 0 then ((spec_A2SameRecords.f k t384 t380).bind fun t420 => (if t420 = true then (if t395 = t404 then (if t395 = 0 then ((spec_SameLog.f k t388 t389 t392 t397 t398 t401).bind fun t421 => (if t421 = true then ((impl_ValidLog.f k t397 t398 t401).bind fun t422 => (if t422 = true then (if (t398.length : Int) = 4 then (if t413 = 0 then (if (t407.length : Int) = 4 then ((spec_SameLog.f k t406 t407 t410 t397 t398 t401).bind fun t423 => (if t423 = true then (if t416 = t418 then (if t415 = t417 then ((impl_ValidRecords.f k 5 4 t373).bind fun t424 => (laws_FnRecords.j0 k l1 t373 t380 t416 t417 (!t424) t397 t398 t401)) else (laws_FnRecords.j0 k l1 t373 t380 t416 t417 true t397 t398 t401)) else (laws_FnRecords.j0 k l1 t373 t380 t416 t417 true t397 t398 t401)) else (laws_FnRecords.j0 k l1 t373 t380 t416 t417 true t397 t398 t401))) else (laws_FnRecords.j0 k l1 t373 t380 t416 t417 true t397 t398 t401)) else (laws_FnRecords.j0 k l1 t373 t380 t416 t417 true t397 t398 t401)) else (laws_FnRecords.j0 k l1 t373 t380 t416 t417 true t397 t398 t401)) else (laws_FnRecords.j0 k l1 t373 t380 t416 t417 true t397 t398 t401))) else (laws_FnRecords.j0 k l1 t373 t380 t416 t417 true t397 t398 t401))) else (laws_FnRecords.j0 k l1 t373 t380 t416 t417 true t397 t398 t401)) else (laws_FnRecords.j0 k l1 t373 t380 t416 t417 true t397 t398 t401)) else (laws_FnRecords.j0 k l1 t373 t380 t416 t417 true t397 t398 t401))) else (laws_FnRecords.j0 k l1 t373 t380 t416 t417 true t397 t398 t401)) else (laws_FnRecords.j0 k l1 t373 t380 t416 t417 true t397 t398 t401)) = some r := by rw [if_pos rfl] at H; exact H
 clear H
 have H := H1
 clear H1
 by_cases c45 : (t380.length : Int) = (t373.length : Int)
 {
 rw [if_pos c45] at H
 have c45b0 : ((t380.length : Int) == (t373.length : Int)) = true := beq_iff_eq.mpr c45
 have c45b1 : ((t380.length : Int) != (t373.length : Int)) = false := bne_eq_false_iff_eq.mpr c45
 have c45b2 : (t380.length == t373.length) = true := by first | simpa using c45 | (simp at c45 ⊢; omega)
 clear c45
 by_cases c46 : t385 = 0
 {
 rw [if_pos c46] at H
 have c46b0 : (t385 == 0) = true := beq_iff_eq.mpr c46
 have c46b1 : (t385 != 0) = false := bne_eq_false_iff_eq.mpr c46
 clear c46
 replace H := Option.bind_eq_some_iff.mp H
 obtain ⟨t420, A470, H⟩ := H
 replace H : (if t420 = true then (if t395 = t404 then (if t395 = 0 then ((spec_SameLog.f k t388 t389 t392 t397 t398 t401).bind fun t421 => (if t421 = true then ((impl_ValidLog.f k t397 t398 t401).bind fun t422 => (if t422 = true then (if (t398.length : Int) = 4 then (if t413 = 0 then (if (t407.length : Int) = 4 then ((spec_SameLog.f k t406 t407 t410 t397 t398 t401).bind fun t423 => (if t423 = true then (if t416 = t418 then (if t415 = t417 then ((impl_ValidRecords.f k 5 4 t373).bind fun t424 => (laws_FnRecords.j0 k l1 t373 t380 t416 t417 (!t424) t397 t398 t401)) else (laws_FnRecords.j0 k l1 t373 t380 t416 t417 true t397 t398 t401)) else (laws_FnRecords.j0 k l1 t373 t380 t416 t417 true t397 t398 t401)) else (laws_FnRecords.j0 k l1 t373 t380 t416 t417 true t397 t398 t401))) else (laws_FnRecords.j0 k l1 t373 t380 t416 t417 true t397 t398 t401)) else (laws_FnRecords.j0 k l1 t373 t380 t416 t417 true t397 t398 t401)) else (laws_FnRecords.j0 k l1 t373 t380 t416 t417 true t397 t398 t401)) else (laws_FnRecords.j0 k l1 t373 t380 t416 t417 true t397 t398 t401))) else (laws_FnRecords.j0 k l1 t373 t380 t416 t417 true t397 t398 t401))) else (laws_FnRecords.j0 k l1 t373 t380 t416 t417 true t397 t398 t401)) else (laws_FnRecords.j0 k l1 t373 t380 t416 t417 true t397 t398 t401)) else (laws_FnRecords.j0 k l1 t373 t380 t416 t417 true t397 t398 t401)) = some r := H
 have A47 := ak A470
 clear A470
 by_cases c48 : t420 = true
 {
 subst c48
 have H1 : (if t395 = t404 then (if t395 = 0 then ((spec_SameLog.f k t388 t389 t392 t397 t398 t401).bind fun t421 => (if t421 = true then ((impl_ValidLog.f k t397 t398 t401).bind fun t422 => (if t422 = true then (if (t398.length : Int) = 4 then (if t413 = 0 then (if (t407.length : Int) = 4 then ((spec_SameLog.f k t406 t407 t410 t397 t398 t401).bind fun t423 => (if t423 = true then (if t416 = t418 then (if t415 = t417 then ((impl_ValidRecords.f k 5 4 t373).bind fun t424 => (laws_FnRecords.j0 k l1 t373 t380 t416 t417 (!t424) t397 t398 t401)) else (laws_FnRecords.j0 k l1 t373 t380 t416 t417 true t397 t398 t401)) else (laws_FnRecords.j0 k l1 t373 t380 t416 t417 true t397 t398 t401)) else (laws_FnRecords.j0 k l1 t373 t380 t416 t417 true t397 t398 t401))) else (laws_FnRecords.j0 k l1 t373 t380 t416 t417 true t397 t398 t401)) else (laws_FnRecords.j0 k l1 t373 t380 t416 t417 true t397 t398 t401)) else (laws_FnRecords.j0 k l1 t373 t380 t416 t417 true t397 t398 t401)) else (laws_FnRecords.j0 k l1 t373 t380 t416 t417 true t397 t398 t401))) else (laws_FnRecords.j0 k l1 t373 t380 t416 t417 true t397 t398 t401))) else (laws_FnRecords.j0 k l1 t373 t380 t416 t417 true t397 t398 t401)) else (laws_FnRecords.j0 k l1 t373 t380 t416 t417 true t397 t398 t401)) = some r := by rw [if_pos rfl] at H; exact H
 clear H
 have H := H1
 clear H1
 by_cases c49 : t395 = t404
 {
 rw [if_pos c49] at H
 have c49b0 : (t395 == t404) = true := beq_iff_eq.mpr c49
 have c49b1 : (t395 != t404) = false := bne_eq_false_iff_eq.mpr c49
 clear c49
 by_cases c50 : t395 = 0
 {
 rw [if_pos c50] at H
 have c50b0 : (t395 == 0) = true := beq_iff_eq.mpr c50
 have c50b1 : (t395 != 0) = false := bne_eq_false_iff_eq.mpr c50
 clear c50
 replace H := Option.bind_eq_some_iff.mp H
 obtain ⟨t421, A510, H⟩ := H
 replace H : (if t421 = true then ((impl_ValidLog.f k t397 t398 t401).bind fun t422 => (if t422 = true then (if (t398.length : Int) = 4 then (if t413 = 0 then (if (t407.length : Int) = 4 then ((spec_SameLog.f k t406 t407 t410 t397 t398 t401).bind fun t423 => (if t423 = true then (if t416 = t418 then (if t415 = t417 then ((impl_ValidRecords.f k 5 4 t373).bind fun t424 => (laws_FnRecords.j0 k l1 t373 t380 t416 t417 (!t424) t397 t398 t401)) else (laws_FnRecords.j0 k l1 t373 t380 t416 t417 true t397 t398 t401)) else (laws_FnRecords.j0 k l1 t373 t380 t416 t417 true t397 t398 t401)) else (laws_FnRecords.j0 k l1 t373 t380 t416 t417 true t397 t398 t401))) else (laws_FnRecords.j0 k l1 t373 t380 t416 t417 true t397 t398 t401)) else (laws_FnRecords.j0 k l1 t373 t380 t416 t417 true t397 t398 t401)) else (laws_FnRecords.j0 k l1 t373 t380 t416 t417 true t397 t398 t401)) else (laws_FnRecords.j0 k l1 t373 t380 t416 t417 true t397 t398 t401))) else (laws_FnRecords.j0 k l1 t373 t380 t416 t417 true t397 t398 t401)) = some r := H
 have A51 := ak A510
 clear A510
 by_cases c52 : t421 = true
 {
 subst c52
 have H1 : ((impl_ValidLog.f k t397 t398 t401).bind fun t422 => (if t422 = true then (if (t398.length : Int) = 4 then (if t413 = 0 then (if (t407.length : Int) = 4 then ((spec_SameLog.f k t406 t407 t410 t397 t398 t401).bind fun t423 => (if t423 = true then (if t416 = t418 then (if t415 = t417 then ((impl_ValidRecords.f k 5 4 t373).bind fun t424 => (laws_FnRecords.j0 k l1 t373 t380 t416 t417 (!t424) t397 t398 t401)) else (laws_FnRecords.j0 k l1 t373 t380 t416 t417 true t397 t398 t401)) else (laws_FnRecords.j0 k l1 t373 t380 t416 t417 true t397 t398 t401)) else (laws_FnRecords.j0 k l1 t373 t380 t416 t417 true t397 t398 t401))) else (laws_FnRecords.j0 k l1 t373 t380 t416 t417 true t397 t398 t401)) else (laws_FnRecords.j0 k l1 t373 t380 t416 t417 true t397 t398 t401)) else (laws_FnRecords.j0 k l1 t373 t380 t416 t417 true t397 t398 t401)) else (laws_FnRecords.j0 k l1 t373 t380 t416 t417 true t397 t398 t401))) = some r := by rw [if_pos rfl] at H; exact H
 clear H
 have H := H1
 clear H1
 replace H := Option.bind_eq_some_iff.mp H
 obtain ⟨t422, A530, H⟩ := H
 replace H : (if t422 = true then (if (t398.length : Int) = 4 then (if t413 = 0 then (if (t407.length : Int) = 4 then ((spec_SameLog.f k t406 t407 t410 t397 t398 t401).bind fun t423 => (if t423 = true then (if t416 = t418 then (if t415 = t417 then ((impl_ValidRecords.f k 5 4 t373).bind fun t424 => (laws_FnRecords.j0 k l1 t373 t380 t416 t417 (!t424) t397 t398 t401)) else (laws_FnRecords.j0 k l1 t373 t380 t416 t417 true t397 t398 t401)) else (laws_FnRecords.j0 k l1 t373 t380 t416 t417 true t397 t398 t401)) else (laws_FnRecords.j0 k l1 t373 t380 t416 t417 true t397 t398 t401))) else (laws_FnRecords.j0 k l1 t373 t380 t416 t417 true t397 t398 t401)) else (laws_FnRecords.j0 k l1 t373 t380 t416 t417 true t397 t398 t401)) else (laws_FnRecords.j0 k l1 t373 t380 t416 t417 true t397 t398 t401)) else (laws_FnRecords.j0 k l1 t373 t380 t416 t417 true t397 t398 t401)) = some r := H
 have A53 := ak A530
 clear A530
 by_cases c54 : t422 = true
 {
 subst c54
 have H1 : (if (t398.length : Int) = 4 then (if t413 = 0 then (if (t407.length : Int) = 4 then ((spec_SameLog.f k t406 t407 t410 t397 t398 t401).bind fun t423 => (if t423 = true then (if t416 = t418 then (if t415 = t417 then ((impl_ValidRecords.f k 5 4 t373).bind fun t424 => (laws_FnRecords.j0 k l1 t373 t380 t416 t417 (!t424) t397 t398 t401)) else (laws_FnRecords.j0 k l1 t373 t380 t416 t417 true t397 t398 t401)) else (laws_FnRecords.j0 k l1 t373 t380 t416 t417 true t397 t398 t401)) else (laws_FnRecords.j0 k l1 t373 t380 t416 t417 true t397 t398 t401))) else (laws_FnRecords.j0 k l1 t373 t380 t416 t417 true t397 t398 t401)) else (laws_FnRecords.j0 k l1 t373 t380 t416 t417 true t397 t398 t401)) else (laws_FnRecords.j0 k l1 t373 t380 t416 t417 true t397 t398 t401)) = some r := by rw [if_pos rfl] at H; exact H
 clear H
 have H := H1
 clear H1
 by_cases c55 : (t398.length : Int) = 4
 {
 rw [if_pos c55] at H
 have c55b0 : ((t398.length : Int) == 4) = true := beq_iff_eq.mpr c55
 have c55b1 : ((t398.length : Int) != 4) = false := bne_eq_false_iff_eq.mpr c55
 clear c55
 by_cases c56 : t413 = 0
 {
 rw [if_pos c56] at H
 have c56b0 : (t413 == 0) = true := beq_iff_eq.mpr c56
 have c56b1 : (t413 != 0) = false := bne_eq_false_iff_eq.mpr c56
 clear c56
 by_cases c57 : (t407.length : Int) = 4
 {
 rw [if_pos c57] at H
 have c57b0 : ((t407.length : Int) == 4) = true := beq_iff_eq.mpr c57
 have c57b1 : ((t407.length : Int) != 4) = false := bne_eq_false_iff_eq.mpr c57
 clear c57
 replace H := Option.bind_eq_some_iff.mp H
 obtain ⟨t423, A580, H⟩ := H
 replace H : (if t423 = true then (if t416 = t418 then (if t415 = t417 then ((impl_ValidRecords.f k 5 4 t373).bind fun t424 => (laws_FnRecords.j0 k l1 t373 t380 t416 t417 (!t424) t397 t398 t401)) else (laws_FnRecords.j0 k l1 t373 t380 t416 t417 true t397 t398 t401)) else (laws_FnRecords.j0 k l1 t373 t380 t416 t417 true t397 t398 t401)) else (laws_FnRecords.j0 k l1 t373 t380 t416 t417 true t397 t398 t401)) = some r := H
 have A58 := ak A580
 clear A580
 by_cases c59 : t423 = true
 {
 subst c59
 have H1 : (if t416 = t418 then (if t415 = t417 then ((impl_ValidRecords.f k 5 4 t373).bind fun t424 => (laws_FnRecords.j0 k l1 t373 t380 t416 t417 (!t424) t397 t398 t401)) else (laws_FnRecords.j0 k l1 t373 t380 t416 t417 true t397 t398 t401)) else (laws_FnRecords.j0 k l1 t373 t380 t416 t417 true t397 t398 t401)) = some r := by rw [if_pos rfl] at H; exact H
 clear H
 have H := H1
 clear H1
 by_cases c60 : t416 = t418
 {
 rw [if_pos c60] at H
 have c60b0 : (t416 == t418) = true := beq_iff_eq.mpr c60
 have c60b1 : (t416 != t418) = false := bne_eq_false_iff_eq.mpr c60
 clear c60
 by_cases c61 : t415 = t417
 {
 as_aux_lemma =>
 rw [if_pos c61] at H
 have c61b0 : (t415 == t417) = true := beq_iff_eq.mpr c61
 have c61b1 : (t415 != t417) = false := bne_eq_false_iff_eq.mpr c61
 clear c61
 replace H := Option.bind_eq_some_iff.mp H
 obtain ⟨t424, A620, H⟩ := H
 replace H : (laws_FnRecords.j0 k l1 t373 t380 t416 t417 (!t424) t397 t398 t401) = some r := H
 have A62 := ak A620
 clear A620
 have H' := ak H
 clear H
 obtain ⟨Ao63, co63, eo63⟩ := Kd.R_slice HO379.out
 subst eo63
 go_wp2_with (first | (go_at_call 12; (with_reducible refine (spec_A2SameRecords.calls k _ _ t376 _ _ t380 true _ ?side1 ?side2 ?side3 ?side4 A43.out).mono ?_); (case side1 => exact sC HO379); (case side2 => exact sL HO379); (case side3 => exact sC HO383); (case side4 => exact sL HO383); rintro e w' ⟨rfl, ⟨nd, rfl⟩⟩; obtain ⟨Ao64, co64, eo64⟩ := Kd.R_slice HO387.out; subst eo64) | (go_at_call 12; (with_reducible refine (spec_A2SameRecords.calls k _ _ t384 _ _ t380 true _ ?side1 ?side2 ?side3 ?side4 A47.out).mono ?_); (case side1 => exact sC HO387); (case side2 => exact sL HO387); (case side3 => exact sC HO383); (case side4 => exact sL HO383); rintro e w' ⟨rfl, ⟨nd, rfl⟩⟩; have hnb65 := NB396_405.out; have hnc65 := NB405_396.out; have hnb66 := NB396_414.out; have hnc66 := NB414_396.out; obtain ⟨hcz67_0, hcz67_1, hcz67_2, hfz67_0, hfz67_1, hfz67_2⟩ := cz3 w40 BK396; have hnb68 := NB405_414.out; have hnc68 := NB414_405.out; obtain ⟨hcz69_0, hcz69_1, hcz69_2, hfz69_0, hfz69_1, hfz69_2⟩ := cz3 w40 BK405) | (go_at_call 13; (with_reducible refine (spec_SameLog.calls k t388 _ _ t389 _ _ t392 t397 _ _ t398 _ _ t401 true _ ?side1 ?side2 ?side3 ?side4 ?side5 ?side6 ?side7 ?side8 A51.out).mono ?_); (case side1 => exact sC HO391); (case side2 => exact sL HO391); (case side3 => exact sC HO394); (case side4 => exact sL HO394); (case side5 => exact sC HO400); (case side6 => exact sL HO400); (case side7 => exact sC HO403); (case side8 => exact sL HO403); rintro e w70 ⟨rfl, hb⟩; replace HO375 := kR HO375 hb; replace HO379 := kR HO379 hb; replace HO383 := kR HO383 hb; replace HO387 := kR HO387 hb; replace HO391 := kR HO391 hb; replace HO394 := kR HO394 hb; replace HO400 := kR HO400 hb; replace HO403 := kR HO403 hb; replace HO409 := kR HO409 hb; replace HO412 := kR HO412 hb; replace BK396 := kK BK396 hb; replace BK405 := kK BK405 hb; replace BK414 := kK BK414 hb; replace HB := kB3 HB GE396 GE405 GE414 hb; (try clear hb); obtain ⟨hcz71_0, hcz71_1, hcz71_2, hfz71_0, hfz71_1, hfz71_2⟩ := cz3 w70 BK405) | (go_at_call 14; (with_reducible refine (impl_ValidLog.calls k t397 _ _ t398 _ _ t401 true _ ?side1 ?side2 ?side3 ?side4 A53.out).mono ?_); (case side1 => exact sC HO400); (case side2 => exact sL HO400); (case side3 => exact sC HO403); (case side4 => exact sL HO403); rintro e w72 ⟨rfl, hb⟩; replace HO375 := kR HO375 hb; replace HO379 := kR HO379 hb; replace HO383 := kR HO383 hb; replace HO387 := kR HO387 hb; replace HO391 := kR HO391 hb; replace HO394 := kR HO394 hb; replace HO400 := kR HO400 hb; replace HO403 := kR HO403 hb; replace HO409 := kR HO409 hb; replace HO412 := kR HO412 hb; replace BK396 := kK BK396 hb; replace BK405 := kK BK405 hb; replace BK414 := kK BK414 hb; replace HB := kB3 HB GE396 GE405 GE414 hb; (try clear hb); obtain ⟨hcz73_0, hcz73_1, hcz73_2, hfz73_0, hfz73_1, hfz73_2⟩ := cz3 w72 BK405; obtain ⟨hcz74_0, hcz74_1, hcz74_2, hfz74_0, hfz74_1, hfz74_2⟩ := cz3 w72 BK414) | (go_at_call 13; (with_reducible refine (spec_SameLog.calls k t406 _ _ t407 _ _ t410 t397 _ _ t398 _ _ t401 true _ ?side1 ?side2 ?side3 ?side4 ?side5 ?side6 ?side7 ?side8 A58.out).mono ?_); (case side1 => exact sC HO409); (case side2 => exact sL HO409); (case side3 => exact sC HO412); (case side4 => exact sL HO412); (case side5 => exact sC HO400); (case side6 => exact sL HO400); (case side7 => exact sC HO403); (case side8 => exact sL HO403); rintro e w75 ⟨rfl, hb⟩; replace HO375 := kR HO375 hb; replace HO379 := kR HO379 hb; replace HO383 := kR HO383 hb; replace HO387 := kR HO387 hb; replace HO391 := kR HO391 hb; replace HO394 := kR HO394 hb; replace HO400 := kR HO400 hb; replace HO403 := kR HO403 hb; replace HO409 := kR HO409 hb; replace HO412 := kR HO412 hb; replace BK396 := kK BK396 hb; replace BK405 := kK BK405 hb; replace BK414 := kK BK414 hb; replace HB := kB3 HB GE396 GE405 GE414 hb; (try clear hb)) | (go_at_call 15; (with_reducible refine (impl_ValidRecords.calls k 5 4 _ _ t373 t424 _ ?side1 ?side2 A62.out).mono ?_); (case side1 => exact sC HO375); (case side2 => exact sL HO375); rintro e w76 ⟨rfl, hb⟩; replace HO375 := kR HO375 hb; replace HO379 := kR HO379 hb; replace HO383 := kR HO383 hb; replace HO387 := kR HO387 hb; replace HO391 := kR HO391 hb; replace HO394 := kR HO394 hb; replace HO400 := kR HO400 hb; replace HO403 := kR HO403 hb; replace HO409 := kR HO409 hb; replace HO412 := kR HO412 hb; replace BK396 := kK BK396 hb; replace BK405 := kK BK405 hb; replace BK414 := kK BK414 hb; replace HB := kB3 HB GE396 GE405 GE414 hb; (try clear hb)))
 try (obtain ⟨Ao64, co64, eo64⟩ := Kd.R_slice HO387.out; subst eo64)
 try (have hnb65 := NB396_405.out; have hnc65 := NB405_396.out; have hnb66 := NB396_414.out; have hnc66 := NB414_396.out; have hcz67_0 : w40.cell? ⟨gb396, 0, none⟩ = some (.int .i64 t388) := (blk_cell BK396.out 0).trans rfl; have hcz67_1 : w40.cell? ⟨gb396, 1, none⟩ = some (.slice Ao24 t389.length co24) := (blk_cell BK396.out 1).trans rfl; have hcz67_2 : w40.cell? ⟨gb396, 2, none⟩ = some (.slice Ao25 t392.length co25) := (blk_cell BK396.out 2).trans rfl; have hfz67_0 := blk_frozen BK396.out 0; have hfz67_1 := blk_frozen BK396.out 1; have hfz67_2 := blk_frozen BK396.out 2; have hnb68 := NB405_414.out; have hnc68 := NB414_405.out; have hcz69_0 : w40.cell? ⟨gb405, 0, none⟩ = some (.int .i64 t397) := (blk_cell BK405.out 0).trans rfl; have hcz69_1 : w40.cell? ⟨gb405, 1, none⟩ = some (.slice Ao30 t398.length co30) := (blk_cell BK405.out 1).trans rfl; have hcz69_2 : w40.cell? ⟨gb405, 2, none⟩ = some (.slice Ao31 t401.length co31) := (blk_cell BK405.out 2).trans rfl; have hfz69_0 := blk_frozen BK405.out 0; have hfz69_1 := blk_frozen BK405.out 1; have hfz69_2 := blk_frozen BK405.out 2)
 repeat (go_quiet (fail))
 refine meetM hJ1_ (by kernel_rfl) ?rel
 case rel => dsimp only [List.getD_cons_succ, List.getD_cons_zero]; exact ⟨_, (!t424), (by first | rfl | (simp; done) | (simp [*]; done)), H', ⟨by first | omega | exact Nat.le_refl _⟩, ⟨by (with_reducible repeat (first | apply Kd.R_alloc | apply Kd.R_drewN | apply Kd.R_drew)); exact Kd.R_mono HO375.out (fun _ hk => hk.1.2)⟩, ⟨by (with_reducible repeat (first | apply Kd.R_alloc | apply Kd.R_drewN | apply Kd.R_drew)); exact Kd.R_mono HO383.out (fun _ hk => hk.1.1.2)⟩, ⟨by (with_reducible repeat (first | apply Kd.R_alloc | apply Kd.R_drewN | apply Kd.R_drew)); exact Kd.R_mono HO391.out (fun _ hk => ⟨hk.1.2, hk.2⟩)⟩, ⟨by (with_reducible repeat (first | apply Kd.R_alloc | apply Kd.R_drewN | apply Kd.R_drew)); exact Kd.R_mono HO394.out (fun _ hk => ⟨hk.1.2, hk.2⟩)⟩, ⟨by (with_reducible repeat (first | apply Kd.R_alloc | apply Kd.R_drewN | apply Kd.R_drew)); exact Kd.R_mono HO400.out (fun _ hk => ⟨hk.1.2, hk.2⟩)⟩, ⟨by (with_reducible repeat (first | apply Kd.R_alloc | apply Kd.R_drewN | apply Kd.R_drew)); exact Kd.R_mono HO403.out (fun _ hk => ⟨hk.1.2, hk.2⟩)⟩, ⟨by (with_reducible repeat (first | apply Kd.R_alloc | apply Kd.R_drewN | apply Kd.R_drew)); exact Kd.R_mono HO409.out (fun _ hk => ⟨hk.1.2, hk.2⟩)⟩, ⟨by (with_reducible repeat (first | apply Kd.R_alloc | apply Kd.R_drewN | apply Kd.R_drew)); exact Kd.R_mono HO412.out (fun _ hk => ⟨hk.1.2, hk.2⟩)⟩, ⟨(zK2 BK396.out)⟩, ⟨(zK2 BK405.out)⟩, ⟨(zK2 BK414.out)⟩, ⟨by repeat (first | (with_reducible first | exact HB.out | apply below_alloc | apply pw_below_drewN | apply below_drew1 | refine below_set ?_ GE396.out | refine below_set ?_ GE405.out | refine below_set ?_ GE414.out) | exact HB.out)⟩⟩
 }
 {
 as_aux_lemma =>
 rw [if_neg c61] at H
 have c61b0 : (t415 == t417) = false := beq_eq_false_iff_ne.mpr c61
 have c61b1 : (t415 != t417) = true := bne_iff_ne.mpr c61
 have H' := ak H
 clear H
 obtain ⟨Ao77, co77, eo77⟩ := Kd.R_slice HO379.out
 subst eo77
 go_wp2_with (first | (go_at_call 12; (with_reducible refine (spec_A2SameRecords.calls k _ _ t376 _ _ t380 true _ ?side1 ?side2 ?side3 ?side4 A43.out).mono ?_); (case side1 => exact sC HO379); (case side2 => exact sL HO379); (case side3 => exact sC HO383); (case side4 => exact sL HO383); rintro e w' ⟨rfl, ⟨nd, rfl⟩⟩; obtain ⟨Ao78, co78, eo78⟩ := Kd.R_slice HO387.out; subst eo78) | (go_at_call 12; (with_reducible refine (spec_A2SameRecords.calls k _ _ t384 _ _ t380 true _ ?side1 ?side2 ?side3 ?side4 A47.out).mono ?_); (case side1 => exact sC HO387); (case side2 => exact sL HO387); (case side3 => exact sC HO383); (case side4 => exact sL HO383); rintro e w' ⟨rfl, ⟨nd, rfl⟩⟩; have hnb79 := NB396_405.out; have hnc79 := NB405_396.out; have hnb80 := NB396_414.out; have hnc80 := NB414_396.out; obtain ⟨hcz81_0, hcz81_1, hcz81_2, hfz81_0, hfz81_1, hfz81_2⟩ := cz3 w40 BK396; have hnb82 := NB405_414.out; have hnc82 := NB414_405.out; obtain ⟨hcz83_0, hcz83_1, hcz83_2, hfz83_0, hfz83_1, hfz83_2⟩ := cz3 w40 BK405) | (go_at_call 13; (with_reducible refine (spec_SameLog.calls k t388 _ _ t389 _ _ t392 t397 _ _ t398 _ _ t401 true _ ?side1 ?side2 ?side3 ?side4 ?side5 ?side6 ?side7 ?side8 A51.out).mono ?_); (case side1 => exact sC HO391); (case side2 => exact sL HO391); (case side3 => exact sC HO394); (case side4 => exact sL HO394); (case side5 => exact sC HO400); (case side6 => exact sL HO400); (case side7 => exact sC HO403); (case side8 => exact sL HO403); rintro e w84 ⟨rfl, hb⟩; replace HO375 := kR HO375 hb; replace HO379 := kR HO379 hb; replace HO383 := kR HO383 hb; replace HO387 := kR HO387 hb; replace HO391 := kR HO391 hb; replace HO394 := kR HO394 hb; replace HO400 := kR HO400 hb; replace HO403 := kR HO403 hb; replace HO409 := kR HO409 hb; replace HO412 := kR HO412 hb; replace BK396 := kK BK396 hb; replace BK405 := kK BK405 hb; replace BK414 := kK BK414 hb; replace HB := kB3 HB GE396 GE405 GE414 hb; (try clear hb); obtain ⟨hcz85_0, hcz85_1, hcz85_2, hfz85_0, hfz85_1, hfz85_2⟩ := cz3 w84 BK405) | (go_at_call 14; (with_reducible refine (impl_ValidLog.calls k t397 _ _ t398 _ _ t401 true _ ?side1 ?side2 ?side3 ?side4 A53.out).mono ?_); (case side1 => exact sC HO400); (case side2 => exact sL HO400); (case side3 => exact sC HO403); (case side4 => exact sL HO403); rintro e w86 ⟨rfl, hb⟩; replace HO375 := kR HO375 hb; replace HO379 := kR HO379 hb; replace HO383 := kR HO383 hb; replace HO387 := kR HO387 hb; replace HO391 := kR HO391 hb; replace HO394 := kR HO394 hb; replace HO400 := kR HO400 hb; replace HO403 := kR HO403 hb; replace HO409 := kR HO409 hb; replace HO412 := kR HO412 hb; replace BK396 := kK BK396 hb; replace BK405 := kK BK405 hb; replace BK414 := kK BK414 hb; replace HB := kB3 HB GE396 GE405 GE414 hb; (try clear hb); obtain ⟨hcz87_0, hcz87_1, hcz87_2, hfz87_0, hfz87_1, hfz87_2⟩ := cz3 w86 BK405; obtain ⟨hcz88_0, hcz88_1, hcz88_2, hfz88_0, hfz88_1, hfz88_2⟩ := cz3 w86 BK414) | (go_at_call 13; (with_reducible refine (spec_SameLog.calls k t406 _ _ t407 _ _ t410 t397 _ _ t398 _ _ t401 true _ ?side1 ?side2 ?side3 ?side4 ?side5 ?side6 ?side7 ?side8 A58.out).mono ?_); (case side1 => exact sC HO409); (case side2 => exact sL HO409); (case side3 => exact sC HO412); (case side4 => exact sL HO412); (case side5 => exact sC HO400); (case side6 => exact sL HO400); (case side7 => exact sC HO403); (case side8 => exact sL HO403); rintro e w89 ⟨rfl, hb⟩; replace HO375 := kR HO375 hb; replace HO379 := kR HO379 hb; replace HO383 := kR HO383 hb; replace HO387 := kR HO387 hb; replace HO391 := kR HO391 hb; replace HO394 := kR HO394 hb; replace HO400 := kR HO400 hb; replace HO403 := kR HO403 hb; replace HO409 := kR HO409 hb; replace HO412 := kR HO412 hb; replace BK396 := kK BK396 hb; replace BK405 := kK BK405 hb; replace BK414 := kK BK414 hb; replace HB := kB3 HB GE396 GE405 GE414 hb; (try clear hb)))
 try (obtain ⟨Ao78, co78, eo78⟩ := Kd.R_slice HO387.out; subst eo78)
 try (have hnb79 := NB396_405.out; have hnc79 := NB405_396.out; have hnb80 := NB396_414.out; have hnc80 := NB414_396.out; have hcz81_0 : w40.cell? ⟨gb396, 0, none⟩ = some (.int .i64 t388) := (blk_cell BK396.out 0).trans rfl; have hcz81_1 : w40.cell? ⟨gb396, 1, none⟩ = some (.slice Ao24 t389.length co24) := (blk_cell BK396.out 1).trans rfl; have hcz81_2 : w40.cell? ⟨gb396, 2, none⟩ = some (.slice Ao25 t392.length co25) := (blk_cell BK396.out 2).trans rfl; have hfz81_0 := blk_frozen BK396.out 0; have hfz81_1 := blk_frozen BK396.out 1; have hfz81_2 := blk_frozen BK396.out 2; have hnb82 := NB405_414.out; have hnc82 := NB414_405.out; have hcz83_0 : w40.cell? ⟨gb405, 0, none⟩ = some (.int .i64 t397) := (blk_cell BK405.out 0).trans rfl; have hcz83_1 : w40.cell? ⟨gb405, 1, none⟩ = some (.slice Ao30 t398.length co30) := (blk_cell BK405.out 1).trans rfl; have hcz83_2 : w40.cell? ⟨gb405, 2, none⟩ = some (.slice Ao31 t401.length co31) := (blk_cell BK405.out 2).trans rfl; have hfz83_0 := blk_frozen BK405.out 0; have hfz83_1 := blk_frozen BK405.out 1; have hfz83_2 := blk_frozen BK405.out 2)
 repeat (go_quiet (fail))
 refine meetM hJ1_ (by kernel_rfl) ?rel
 case rel => dsimp only [List.getD_cons_succ, List.getD_cons_zero]; exact ⟨_, (true), (by first | rfl | (simp; done) | (simp [*]; done)), H', ⟨by first | omega | exact Nat.le_refl _⟩, ⟨by (with_reducible repeat (first | apply Kd.R_alloc | apply Kd.R_drewN | apply Kd.R_drew)); exact Kd.R_mono HO375.out (fun _ hk => hk.1.2)⟩, ⟨by (with_reducible repeat (first | apply Kd.R_alloc | apply Kd.R_drewN | apply Kd.R_drew)); exact Kd.R_mono HO383.out (fun _ hk => hk.1.1.2)⟩, ⟨by (with_reducible repeat (first | apply Kd.R_alloc | apply Kd.R_drewN | apply Kd.R_drew)); exact Kd.R_mono HO391.out (fun _ hk => ⟨hk.1.2, hk.2⟩)⟩, ⟨by (with_reducible repeat (first | apply Kd.R_alloc | apply Kd.R_drewN | apply Kd.R_drew)); exact Kd.R_mono HO394.out (fun _ hk => ⟨hk.1.2, hk.2⟩)⟩, ⟨by (with_reducible repeat (first | apply Kd.R_alloc | apply Kd.R_drewN | apply Kd.R_drew)); exact Kd.R_mono HO400.out (fun _ hk => ⟨hk.1.2, hk.2⟩)⟩, ⟨by (with_reducible repeat (first | apply Kd.R_alloc | apply Kd.R_drewN | apply Kd.R_drew)); exact Kd.R_mono HO403.out (fun _ hk => ⟨hk.1.2, hk.2⟩)⟩, ⟨by (with_reducible repeat (first | apply Kd.R_alloc | apply Kd.R_drewN | apply Kd.R_drew)); exact Kd.R_mono HO409.out (fun _ hk => ⟨hk.1.2, hk.2⟩)⟩, ⟨by (with_reducible repeat (first | apply Kd.R_alloc | apply Kd.R_drewN | apply Kd.R_drew)); exact Kd.R_mono HO412.out (fun _ hk => ⟨hk.1.2, hk.2⟩)⟩, ⟨(zK2 BK396.out)⟩, ⟨(zK2 BK405.out)⟩, ⟨(zK2 BK414.out)⟩, ⟨by repeat (first | (with_reducible first | exact HB.out | apply below_alloc | apply pw_below_drewN | apply below_drew1 | refine below_set ?_ GE396.out | refine below_set ?_ GE405.out | refine below_set ?_ GE414.out) | exact HB.out)⟩⟩
 }
 }
 {
 as_aux_lemma =>
 rw [if_neg c60] at H
 have c60b0 : (t416 == t418) = false := beq_eq_false_iff_ne.mpr c60
 have c60b1 : (t416 != t418) = true := bne_iff_ne.mpr c60
 have H' := ak H
 clear H
 obtain ⟨Ao90, co90, eo90⟩ := Kd.R_slice HO379.out
 subst eo90
 go_wp2_with (first | (go_at_call 12; (with_reducible refine (spec_A2SameRecords.calls k _ _ t376 _ _ t380 true _ ?side1 ?side2 ?side3 ?side4 A43.out).mono ?_); (case side1 => exact sC HO379); (case side2 => exact sL HO379); (case side3 => exact sC HO383); (case side4 => exact sL HO383); rintro e w' ⟨rfl, ⟨nd, rfl⟩⟩; obtain ⟨Ao91, co91, eo91⟩ := Kd.R_slice HO387.out; subst eo91) | (go_at_call 12; (with_reducible refine (spec_A2SameRecords.calls k _ _ t384 _ _ t380 true _ ?side1 ?side2 ?side3 ?side4 A47.out).mono ?_); (case side1 => exact sC HO387); (case side2 => exact sL HO387); (case side3 => exact sC HO383); (case side4 => exact sL HO383); rintro e w' ⟨rfl, ⟨nd, rfl⟩⟩; have hnb92 := NB396_405.out; have hnc92 := NB405_396.out; have hnb93 := NB396_414.out; have hnc93 := NB414_396.out; obtain ⟨hcz94_0, hcz94_1, hcz94_2, hfz94_0, hfz94_1, hfz94_2⟩ := cz3 w40 BK396; have hnb95 := NB405_414.out; have hnc95 := NB414_405.out; obtain ⟨hcz96_0, hcz96_1, hcz96_2, hfz96_0, hfz96_1, hfz96_2⟩ := cz3 w40 BK405) | (go_at_call 13; (with_reducible refine (spec_SameLog.calls k t388 _ _ t389 _ _ t392 t397 _ _ t398 _ _ t401 true _ ?side1 ?side2 ?side3 ?side4 ?side5 ?side6 ?side7 ?side8 A51.out).mono ?_); (case side1 => exact sC HO391); (case side2 => exact sL HO391); (case side3 => exact sC HO394); (case side4 => exact sL HO394); (case side5 => exact sC HO400); (case side6 => exact sL HO400); (case side7 => exact sC HO403); (case side8 => exact sL HO403); rintro e w97 ⟨rfl, hb⟩; replace HO375 := kR HO375 hb; replace HO379 := kR HO379 hb; replace HO383 := kR HO383 hb; replace HO387 := kR HO387 hb; replace HO391 := kR HO391 hb; replace HO394 := kR HO394 hb; replace HO400 := kR HO400 hb; replace HO403 := kR HO403 hb; replace HO409 := kR HO409 hb; replace HO412 := kR HO412 hb; replace BK396 := kK BK396 hb; replace BK405 := kK BK405 hb; replace BK414 := kK BK414 hb; replace HB := kB3 HB GE396 GE405 GE414 hb; (try clear hb); obtain ⟨hcz98_0, hcz98_1, hcz98_2, hfz98_0, hfz98_1, hfz98_2⟩ := cz3 w97 BK405) | (go_at_call 14; (with_reducible refine (impl_ValidLog.calls k t397 _ _ t398 _ _ t401 true _ ?side1 ?side2 ?side3 ?side4 A53.out).mono ?_); (case side1 => exact sC HO400); (case side2 => exact sL HO400); (case side3 => exact sC HO403); (case side4 => exact sL HO403); rintro e w99 ⟨rfl, hb⟩; replace HO375 := kR HO375 hb; replace HO379 := kR HO379 hb; replace HO383 := kR HO383 hb; replace HO387 := kR HO387 hb; replace HO391 := kR HO391 hb; replace HO394 := kR HO394 hb; replace HO400 := kR HO400 hb; replace HO403 := kR HO403 hb; replace HO409 := kR HO409 hb; replace HO412 := kR HO412 hb; replace BK396 := kK BK396 hb; replace BK405 := kK BK405 hb; replace BK414 := kK BK414 hb; replace HB := kB3 HB GE396 GE405 GE414 hb; (try clear hb); obtain ⟨hcz100_0, hcz100_1, hcz100_2, hfz100_0, hfz100_1, hfz100_2⟩ := cz3 w99 BK405; obtain ⟨hcz101_0, hcz101_1, hcz101_2, hfz101_0, hfz101_1, hfz101_2⟩ := cz3 w99 BK414) | (go_at_call 13; (with_reducible refine (spec_SameLog.calls k t406 _ _ t407 _ _ t410 t397 _ _ t398 _ _ t401 true _ ?side1 ?side2 ?side3 ?side4 ?side5 ?side6 ?side7 ?side8 A58.out).mono ?_); (case side1 => exact sC HO409); (case side2 => exact sL HO409); (case side3 => exact sC HO412); (case side4 => exact sL HO412); (case side5 => exact sC HO400); (case side6 => exact sL HO400); (case side7 => exact sC HO403); (case side8 => exact sL HO403); rintro e w102 ⟨rfl, hb⟩; replace HO375 := kR HO375 hb; replace HO379 := kR HO379 hb; replace HO383 := kR HO383 hb; replace HO387 := kR HO387 hb; replace HO391 := kR HO391 hb; replace HO394 := kR HO394 hb; replace HO400 := kR HO400 hb; replace HO403 := kR HO403 hb; replace HO409 := kR HO409 hb; replace HO412 := kR HO412 hb; replace BK396 := kK BK396 hb; replace BK405 := kK BK405 hb; replace BK414 := kK BK414 hb; replace HB := kB3 HB GE396 GE405 GE414 hb; (try clear hb)))
 try (obtain ⟨Ao91, co91, eo91⟩ := Kd.R_slice HO387.out; subst eo91)
 try (have hnb92 := NB396_405.out; have hnc92 := NB405_396.out; have hnb93 := NB396_414.out; have hnc93 := NB414_396.out; have hcz94_0 : w40.cell? ⟨gb396, 0, none⟩ = some (.int .i64 t388) := (blk_cell BK396.out 0).trans rfl; have hcz94_1 : w40.cell? ⟨gb396, 1, none⟩ = some (.slice Ao24 t389.length co24) := (blk_cell BK396.out 1).trans rfl; have hcz94_2 : w40.cell? ⟨gb396, 2, none⟩ = some (.slice Ao25 t392.length co25) := (blk_cell BK396.out 2).trans rfl; have hfz94_0 := blk_frozen BK396.out 0; have hfz94_1 := blk_frozen BK396.out 1; have hfz94_2 := blk_frozen BK396.out 2; have hnb95 := NB405_414.out; have hnc95 := NB414_405.out; have hcz96_0 : w40.cell? ⟨gb405, 0, none⟩ = some (.int .i64 t397) := (blk_cell BK405.out 0).trans rfl; have hcz96_1 : w40.cell? ⟨gb405, 1, none⟩ = some (.slice Ao30 t398.length co30) := (blk_cell BK405.out 1).trans rfl; have hcz96_2 : w40.cell? ⟨gb405, 2, none⟩ = some (.slice Ao31 t401.length co31) := (blk_cell BK405.out 2).trans rfl; have hfz96_0 := blk_frozen BK405.out 0; have hfz96_1 := blk_frozen BK405.out 1; have hfz96_2 := blk_frozen BK405.out 2)
 repeat (go_quiet (fail))
 refine meetM hJ1_ (by kernel_rfl) ?rel
 case rel => dsimp only [List.getD_cons_succ, List.getD_cons_zero]; exact ⟨_, (true), (by first | rfl | (simp; done) | (simp [*]; done)), H', ⟨by first | omega | exact Nat.le_refl _⟩, ⟨by (with_reducible repeat (first | apply Kd.R_alloc | apply Kd.R_drewN | apply Kd.R_drew)); exact Kd.R_mono HO375.out (fun _ hk => hk.1.2)⟩, ⟨by (with_reducible repeat (first | apply Kd.R_alloc | apply Kd.R_drewN | apply Kd.R_drew)); exact Kd.R_mono HO383.out (fun _ hk => hk.1.1.2)⟩, ⟨by (with_reducible repeat (first | apply Kd.R_alloc | apply Kd.R_drewN | apply Kd.R_drew)); exact Kd.R_mono HO391.out (fun _ hk => ⟨hk.1.2, hk.2⟩)⟩, ⟨by (with_reducible repeat (first | apply Kd.R_alloc | apply Kd.R_drewN | apply Kd.R_drew)); exact Kd.R_mono HO394.out (fun _ hk => ⟨hk.1.2, hk.2⟩)⟩, ⟨by (with_reducible repeat (first | apply Kd.R_alloc | apply Kd.R_drewN | apply Kd.R_drew)); exact Kd.R_mono HO400.out (fun _ hk => ⟨hk.1.2, hk.2⟩)⟩, ⟨by (with_reducible repeat (first | apply Kd.R_alloc | apply Kd.R_drewN | apply Kd.R_drew)); exact Kd.R_mono HO403.out (fun _ hk => ⟨hk.1.2, hk.2⟩)⟩, ⟨by (with_reducible repeat (first | apply Kd.R_alloc | apply Kd.R_drewN | apply Kd.R_drew)); exact Kd.R_mono HO409.out (fun _ hk => ⟨hk.1.2, hk.2⟩)⟩, ⟨by (with_reducible repeat (first | apply Kd.R_alloc | apply Kd.R_drewN | apply Kd.R_drew)); exact Kd.R_mono HO412.out (fun _ hk => ⟨hk.1.2, hk.2⟩)⟩, ⟨(zK2 BK396.out)⟩, ⟨(zK2 BK405.out)⟩, ⟨(zK2 BK414.out)⟩, ⟨by repeat (first | (with_reducible first | exact HB.out | apply below_alloc | apply pw_below_drewN | apply below_drew1 | refine below_set ?_ GE396.out | refine below_set ?_ GE405.out | refine below_set ?_ GE414.out) | exact HB.out)⟩⟩
 }
 }
 {
 as_aux_lemma =>
 replace c59 := Bool.eq_false_iff.mpr c59
 subst c59
 have H1 : (laws_FnRecords.j0 k l1 t373 t380 t416 t417 true t397 t398 t401) = some r := by rw [if_neg (show ¬ (false = true) by decide)] at H; exact H
 clear H
 have H := H1
 clear H1
 have H' := ak H
 clear H
 obtain ⟨Ao103, co103, eo103⟩ := Kd.R_slice HO379.out
 subst eo103
 go_wp2_with (first | (go_at_call 12; (with_reducible refine (spec_A2SameRecords.calls k _ _ t376 _ _ t380 true _ ?side1 ?side2 ?side3 ?side4 A43.out).mono ?_); (case side1 => exact sC HO379); (case side2 => exact sL HO379); (case side3 => exact sC HO383); (case side4 => exact sL HO383); rintro e w' ⟨rfl, ⟨nd, rfl⟩⟩; obtain ⟨Ao104, co104, eo104⟩ := Kd.R_slice HO387.out; subst eo104) | (go_at_call 12; (with_reducible refine (spec_A2SameRecords.calls k _ _ t384 _ _ t380 true _ ?side1 ?side2 ?side3 ?side4 A47.out).mono ?_); (case side1 => exact sC HO387); (case side2 => exact sL HO387); (case side3 => exact sC HO383); (case side4 => exact sL HO383); rintro e w' ⟨rfl, ⟨nd, rfl⟩⟩; have hnb105 := NB396_405.out; have hnc105 := NB405_396.out; have hnb106 := NB396_414.out; have hnc106 := NB414_396.out; obtain ⟨hcz107_0, hcz107_1, hcz107_2, hfz107_0, hfz107_1, hfz107_2⟩ := cz3 w40 BK396; have hnb108 := NB405_414.out; have hnc108 := NB414_405.out; obtain ⟨hcz109_0, hcz109_1, hcz109_2, hfz109_0, hfz109_1, hfz109_2⟩ := cz3 w40 BK405) | (go_at_call 13; (with_reducible refine (spec_SameLog.calls k t388 _ _ t389 _ _ t392 t397 _ _ t398 _ _ t401 true _ ?side1 ?side2 ?side3 ?side4 ?side5 ?side6 ?side7 ?side8 A51.out).mono ?_); (case side1 => exact sC HO391); (case side2 => exact sL HO391); (case side3 => exact sC HO394); (case side4 => exact sL HO394); (case side5 => exact sC HO400); (case side6 => exact sL HO400); (case side7 => exact sC HO403); (case side8 => exact sL HO403); rintro e w110 ⟨rfl, hb⟩; replace HO375 := kR HO375 hb; replace HO379 := kR HO379 hb; replace HO383 := kR HO383 hb; replace HO387 := kR HO387 hb; replace HO391 := kR HO391 hb; replace HO394 := kR HO394 hb; replace HO400 := kR HO400 hb; replace HO403 := kR HO403 hb; replace HO409 := kR HO409 hb; replace HO412 := kR HO412 hb; replace BK396 := kK BK396 hb; replace BK405 := kK BK405 hb; replace BK414 := kK BK414 hb; replace HB := kB3 HB GE396 GE405 GE414 hb; (try clear hb); obtain ⟨hcz111_0, hcz111_1, hcz111_2, hfz111_0, hfz111_1, hfz111_2⟩ := cz3 w110 BK405) | (go_at_call 14; (with_reducible refine (impl_ValidLog.calls k t397 _ _ t398 _ _ t401 true _ ?side1 ?side2 ?side3 ?side4 A53.out).mono ?_); (case side1 => exact sC HO400); (case side2 => exact sL HO400); (case side3 => exact sC HO403); (case side4 => exact sL HO403); rintro e w112 ⟨rfl, hb⟩; replace HO375 := kR HO375 hb; replace HO379 := kR HO379 hb; replace HO383 := kR HO383 hb; replace HO387 := kR HO387 hb; replace HO391 := kR HO391 hb; replace HO394 := kR HO394 hb; replace HO400 := kR HO400 hb; replace HO403 := kR HO403 hb; replace HO409 := kR HO409 hb; replace HO412 := kR HO412 hb; replace BK396 := kK BK396 hb; replace BK405 := kK BK405 hb; replace BK414 := kK BK414 hb; replace HB := kB3 HB GE396 GE405 GE414 hb; (try clear hb); obtain ⟨hcz113_0, hcz113_1, hcz113_2, hfz113_0, hfz113_1, hfz113_2⟩ := cz3 w112 BK405; obtain ⟨hcz114_0, hcz114_1, hcz114_2, hfz114_0, hfz114_1, hfz114_2⟩ := cz3 w112 BK414) | (go_at_call 13; (with_reducible refine (spec_SameLog.calls k t406 _ _ t407 _ _ t410 t397 _ _ t398 _ _ t401 false _ ?side1 ?side2 ?side3 ?side4 ?side5 ?side6 ?side7 ?side8 A58.out).mono ?_); (case side1 => exact sC HO409); (case side2 => exact sL HO409); (case side3 => exact sC HO412); (case side4 => exact sL HO412); (case side5 => exact sC HO400); (case side6 => exact sL HO400); (case side7 => exact sC HO403); (case side8 => exact sL HO403); rintro e w115 ⟨rfl, hb⟩; replace HO375 := kR HO375 hb; replace HO379 := kR HO379 hb; replace HO383 := kR HO383 hb; replace HO387 := kR HO387 hb; replace HO391 := kR HO391 hb; replace HO394 := kR HO394 hb; replace HO400 := kR HO400 hb; replace HO403 := kR HO403 hb; replace HO409 := kR HO409 hb; replace HO412 := kR HO412 hb; replace BK396 := kK BK396 hb; replace BK405 := kK BK405 hb; replace BK414 := kK BK414 hb; replace HB := kB3 HB GE396 GE405 GE414 hb; (try clear hb)))
 try (obtain ⟨Ao104, co104, eo104⟩ := Kd.R_slice HO387.out; subst eo104)
 try (have hnb105 := NB396_405.out; have hnc105 := NB405_396.out; have hnb106 := NB396_414.out; have hnc106 := NB414_396.out; have hcz107_0 : w40.cell? ⟨gb396, 0, none⟩ = some (.int .i64 t388) := (blk_cell BK396.out 0).trans rfl; have hcz107_1 : w40.cell? ⟨gb396, 1, none⟩ = some (.slice Ao24 t389.length co24) := (blk_cell BK396.out 1).trans rfl; have hcz107_2 : w40.cell? ⟨gb396, 2, none⟩ = some (.slice Ao25 t392.length co25) := (blk_cell BK396.out 2).trans rfl; have hfz107_0 := blk_frozen BK396.out 0; have hfz107_1 := blk_frozen BK396.out 1; have hfz107_2 := blk_frozen BK396.out 2; have hnb108 := NB405_414.out; have hnc108 := NB414_405.out; have hcz109_0 : w40.cell? ⟨gb405, 0, none⟩ = some (.int .i64 t397) := (blk_cell BK405.out 0).trans rfl; have hcz109_1 : w40.cell? ⟨gb405, 1, none⟩ = some (.slice Ao30 t398.length co30) := (blk_cell BK405.out 1).trans rfl; have hcz109_2 : w40.cell? ⟨gb405, 2, none⟩ = some (.slice Ao31 t401.length co31) := (blk_cell BK405.out 2).trans rfl; have hfz109_0 := blk_frozen BK405.out 0; have hfz109_1 := blk_frozen BK405.out 1; have hfz109_2 := blk_frozen BK405.out 2)
 repeat (go_quiet (fail))
 refine meetM hJ1_ (by kernel_rfl) ?rel
 case rel => dsimp only [List.getD_cons_succ, List.getD_cons_zero]; exact ⟨_, (true), (by first | rfl | (simp; done) | (simp [*]; done)), H', ⟨by first | omega | exact Nat.le_refl _⟩, ⟨by (with_reducible repeat (first | apply Kd.R_alloc | apply Kd.R_drewN | apply Kd.R_drew)); exact Kd.R_mono HO375.out (fun _ hk => hk.1.2)⟩, ⟨by (with_reducible repeat (first | apply Kd.R_alloc | apply Kd.R_drewN | apply Kd.R_drew)); exact Kd.R_mono HO383.out (fun _ hk => hk.1.1.2)⟩, ⟨by (with_reducible repeat (first | apply Kd.R_alloc | apply Kd.R_drewN | apply Kd.R_drew)); exact Kd.R_mono HO391.out (fun _ hk => ⟨hk.1.2, hk.2⟩)⟩, ⟨by (with_reducible repeat (first | apply Kd.R_alloc | apply Kd.R_drewN | apply Kd.R_drew)); exact Kd.R_mono HO394.out (fun _ hk => ⟨hk.1.2, hk.2⟩)⟩, ⟨by (with_reducible repeat (first | apply Kd.R_alloc | apply Kd.R_drewN | apply Kd.R_drew)); exact Kd.R_mono HO400.out (fun _ hk => ⟨hk.1.2, hk.2⟩)⟩, ⟨by (with_reducible repeat (first | apply Kd.R_alloc | apply Kd.R_drewN | apply Kd.R_drew)); exact Kd.R_mono HO403.out (fun _ hk => ⟨hk.1.2, hk.2⟩)⟩, ⟨by (with_reducible repeat (first | apply Kd.R_alloc | apply Kd.R_drewN | apply Kd.R_drew)); exact Kd.R_mono HO409.out (fun _ hk => ⟨hk.1.2, hk.2⟩)⟩, ⟨by (with_reducible repeat (first | apply Kd.R_alloc | apply Kd.R_drewN | apply Kd.R_drew)); exact Kd.R_mono HO412.out (fun _ hk => ⟨hk.1.2, hk.2⟩)⟩, ⟨(zK2 BK396.out)⟩, ⟨(zK2 BK405.out)⟩, ⟨(zK2 BK414.out)⟩, ⟨by repeat (first | (with_reducible first | exact HB.out | apply below_alloc | apply pw_below_drewN | apply below_drew1 | refine below_set ?_ GE396.out | refine below_set ?_ GE405.out | refine below_set ?_ GE414.out) | exact HB.out)⟩⟩
 }
 }
 {
 as_aux_lemma =>
 rw [if_neg c57] at H
 have c57b0 : ((t407.length : Int) == 4) = false := beq_eq_false_iff_ne.mpr c57
 have c57b1 : ((t407.length : Int) != 4) = true := bne_iff_ne.mpr c57
 have H' := ak H
 clear H
 obtain ⟨Ao116, co116, eo116⟩ := Kd.R_slice HO379.out
 subst eo116
 go_wp2_with (first | (go_at_call 12; (with_reducible refine (spec_A2SameRecords.calls k _ _ t376 _ _ t380 true _ ?side1 ?side2 ?side3 ?side4 A43.out).mono ?_); (case side1 => exact sC HO379); (case side2 => exact sL HO379); (case side3 => exact sC HO383); (case side4 => exact sL HO383); rintro e w' ⟨rfl, ⟨nd, rfl⟩⟩; obtain ⟨Ao117, co117, eo117⟩ := Kd.R_slice HO387.out; subst eo117) | (go_at_call 12; (with_reducible refine (spec_A2SameRecords.calls k _ _ t384 _ _ t380 true _ ?side1 ?side2 ?side3 ?side4 A47.out).mono ?_); (case side1 => exact sC HO387); (case side2 => exact sL HO387); (case side3 => exact sC HO383); (case side4 => exact sL HO383); rintro e w' ⟨rfl, ⟨nd, rfl⟩⟩; have hnb118 := NB396_405.out; have hnc118 := NB405_396.out; have hnb119 := NB396_414.out; have hnc119 := NB414_396.out; obtain ⟨hcz120_0, hcz120_1, hcz120_2, hfz120_0, hfz120_1, hfz120_2⟩ := cz3 w40 BK396; have hnb121 := NB405_414.out; have hnc121 := NB414_405.out; obtain ⟨hcz122_0, hcz122_1, hcz122_2, hfz122_0, hfz122_1, hfz122_2⟩ := cz3 w40 BK405) | (go_at_call 13; (with_reducible refine (spec_SameLog.calls k t388 _ _ t389 _ _ t392 t397 _ _ t398 _ _ t401 true _ ?side1 ?side2 ?side3 ?side4 ?side5 ?side6 ?side7 ?side8 A51.out).mono ?_); (case side1 => exact sC HO391); (case side2 => exact sL HO391); (case side3 => exact sC HO394); (case side4 => exact sL HO394); (case side5 => exact sC HO400); (case side6 => exact sL HO400); (case side7 => exact sC HO403); (case side8 => exact sL HO403); rintro e w123 ⟨rfl, hb⟩; replace HO375 := kR HO375 hb; replace HO379 := kR HO379 hb; replace HO383 := kR HO383 hb; replace HO387 := kR HO387 hb; replace HO391 := kR HO391 hb; replace HO394 := kR HO394 hb; replace HO400 := kR HO400 hb; replace HO403 := kR HO403 hb; replace HO409 := kR HO409 hb; replace HO412 := kR HO412 hb; replace BK396 := kK BK396 hb; replace BK405 := kK BK405 hb; replace BK414 := kK BK414 hb; replace HB := kB3 HB GE396 GE405 GE414 hb; (try clear hb); obtain ⟨hcz124_0, hcz124_1, hcz124_2, hfz124_0, hfz124_1, hfz124_2⟩ := cz3 w123 BK405) | (go_at_call 14; (with_reducible refine (impl_ValidLog.calls k t397 _ _ t398 _ _ t401 true _ ?side1 ?side2 ?side3 ?side4 A53.out).mono ?_); (case side1 => exact sC HO400); (case side2 => exact sL HO400); (case side3 => exact sC HO403); (case side4 => exact sL HO403); rintro e w125 ⟨rfl, hb⟩; replace HO375 := kR HO375 hb; replace HO379 := kR HO379 hb; replace HO383 := kR HO383 hb; replace HO387 := kR HO387 hb; replace HO391 := kR HO391 hb; replace HO394 := kR HO394 hb; replace HO400 := kR HO400 hb; replace HO403 := kR HO403 hb; replace HO409 := kR HO409 hb; replace HO412 := kR HO412 hb; replace BK396 := kK BK396 hb; replace BK405 := kK BK405 hb; replace BK414 := kK BK414 hb; replace HB := kB3 HB GE396 GE405 GE414 hb; (try clear hb); obtain ⟨hcz126_0, hcz126_1, hcz126_2, hfz126_0, hfz126_1, hfz126_2⟩ := cz3 w125 BK405; obtain ⟨hcz127_0, hcz127_1, hcz127_2, hfz127_0, hfz127_1, hfz127_2⟩ := cz3 w125 BK414))
 try (obtain ⟨Ao117, co117, eo117⟩ := Kd.R_slice HO387.out; subst eo117)
 try (have hnb118 := NB396_405.out; have hnc118 := NB405_396.out; have hnb119 := NB396_414.out; have hnc119 := NB414_396.out; have hcz120_0 : w40.cell? ⟨gb396, 0, none⟩ = some (.int .i64 t388) := (blk_cell BK396.out 0).trans rfl; have hcz120_1 : w40.cell? ⟨gb396, 1, none⟩ = some (.slice Ao24 t389.length co24) := (blk_cell BK396.out 1).trans rfl; have hcz120_2 : w40.cell? ⟨gb396, 2, none⟩ = some (.slice Ao25 t392.length co25) := (blk_cell BK396.out 2).trans rfl; have hfz120_0 := blk_frozen BK396.out 0; have hfz120_1 := blk_frozen BK396.out 1; have hfz120_2 := blk_frozen BK396.out 2; have hnb121 := NB405_414.out; have hnc121 := NB414_405.out; have hcz122_0 : w40.cell? ⟨gb405, 0, none⟩ = some (.int .i64 t397) := (blk_cell BK405.out 0).trans rfl; have hcz122_1 : w40.cell? ⟨gb405, 1, none⟩ = some (.slice Ao30 t398.length co30) := (blk_cell BK405.out 1).trans rfl; have hcz122_2 : w40.cell? ⟨gb405, 2, none⟩ = some (.slice Ao31 t401.length co31) := (blk_cell BK405.out 2).trans rfl; have hfz122_0 := blk_frozen BK405.out 0; have hfz122_1 := blk_frozen BK405.out 1; have hfz122_2 := blk_frozen BK405.out 2)
 repeat (go_quiet (fail))
 refine meetM hJ1_ (by kernel_rfl) ?rel
 case rel => dsimp only [List.getD_cons_succ, List.getD_cons_zero]; exact ⟨_, (true), (by first | rfl | (simp; done) | (simp [*]; done)), H', ⟨by first | omega | exact Nat.le_refl _⟩, ⟨by (with_reducible repeat (first | apply Kd.R_alloc | apply Kd.R_drewN | apply Kd.R_drew)); exact Kd.R_mono HO375.out (fun _ hk => hk.1.2)⟩, ⟨by (with_reducible repeat (first | apply Kd.R_alloc | apply Kd.R_drewN | apply Kd.R_drew)); exact Kd.R_mono HO383.out (fun _ hk => hk.1.1.2)⟩, ⟨by (with_reducible repeat (first | apply Kd.R_alloc | apply Kd.R_drewN | apply Kd.R_drew)); exact Kd.R_mono HO391.out (fun _ hk => ⟨hk.1.2, hk.2⟩)⟩, ⟨by (with_reducible repeat (first | apply Kd.R_alloc | apply Kd.R_drewN | apply Kd.R_drew)); exact Kd.R_mono HO394.out (fun _ hk => ⟨hk.1.2, hk.2⟩)⟩, ⟨by (with_reducible repeat (first | apply Kd.R_alloc | apply Kd.R_drewN | apply Kd.R_drew)); exact Kd.R_mono HO400.out (fun _ hk => ⟨hk.1.2, hk.2⟩)⟩, ⟨by (with_reducible repeat (first | apply Kd.R_alloc | apply Kd.R_drewN | apply Kd.R_drew)); exact Kd.R_mono HO403.out (fun _ hk => ⟨hk.1.2, hk.2⟩)⟩, ⟨by (with_reducible repeat (first | apply Kd.R_alloc | apply Kd.R_drewN | apply Kd.R_drew)); exact Kd.R_mono HO409.out (fun _ hk => ⟨hk.1.2, hk.2⟩)⟩, ⟨by (with_reducible repeat (first | apply Kd.R_alloc | apply Kd.R_drewN | apply Kd.R_drew)); exact Kd.R_mono HO412.out (fun _ hk => ⟨hk.1.2, hk.2⟩)⟩, ⟨(zK2 BK396.out)⟩, ⟨(zK2 BK405.out)⟩, ⟨(zK2 BK414.out)⟩, ⟨by repeat (first | (with_reducible first | exact HB.out | apply below_alloc | apply pw_below_drewN | apply below_drew1 | refine below_set ?_ GE396.out | refine below_set ?_ GE405.out | refine below_set ?_ GE414.out) | exact HB.out)⟩⟩
 }
 }
 {
 as_aux_lemma =>
 rw [if_neg c56] at H
 have c56b0 : (t413 == 0) = false := beq_eq_false_iff_ne.mpr c56
 have c56b1 : (t413 != 0) = true := bne_iff_ne.mpr c56
 have H' := ak H
 clear H
 obtain ⟨Ao128, co128, eo128⟩ := Kd.R_slice HO379.out
 subst eo128
 go_wp2_with (first | (go_at_call 12; (with_reducible refine (spec_A2SameRecords.calls k _ _ t376 _ _ t380 true _ ?side1 ?side2 ?side3 ?side4 A43.out).mono ?_); (case side1 => exact sC HO379); (case side2 => exact sL HO379); (case side3 => exact sC HO383); (case side4 => exact sL HO383); rintro e w' ⟨rfl, ⟨nd, rfl⟩⟩; obtain ⟨Ao129, co129, eo129⟩ := Kd.R_slice HO387.out; subst eo129) | (go_at_call 12; (with_reducible refine (spec_A2SameRecords.calls k _ _ t384 _ _ t380 true _ ?side1 ?side2 ?side3 ?side4 A47.out).mono ?_); (case side1 => exact sC HO387); (case side2 => exact sL HO387); (case side3 => exact sC HO383); (case side4 => exact sL HO383); rintro e w' ⟨rfl, ⟨nd, rfl⟩⟩; have hnb130 := NB396_405.out; have hnc130 := NB405_396.out; have hnb131 := NB396_414.out; have hnc131 := NB414_396.out; obtain ⟨hcz132_0, hcz132_1, hcz132_2, hfz132_0, hfz132_1, hfz132_2⟩ := cz3 w40 BK396; have hnb133 := NB405_414.out; have hnc133 := NB414_405.out; obtain ⟨hcz134_0, hcz134_1, hcz134_2, hfz134_0, hfz134_1, hfz134_2⟩ := cz3 w40 BK405) | (go_at_call 13; (with_reducible refine (spec_SameLog.calls k t388 _ _ t389 _ _ t392 t397 _ _ t398 _ _ t401 true _ ?side1 ?side2 ?side3 ?side4 ?side5 ?side6 ?side7 ?side8 A51.out).mono ?_); (case side1 => exact sC HO391); (case side2 => exact sL HO391); (case side3 => exact sC HO394); (case side4 => exact sL HO394); (case side5 => exact sC HO400); (case side6 => exact sL HO400); (case side7 => exact sC HO403); (case side8 => exact sL HO403); rintro e w135 ⟨rfl, hb⟩; replace HO375 := kR HO375 hb; replace HO379 := kR HO379 hb; replace HO383 := kR HO383 hb; replace HO387 := kR HO387 hb; replace HO391 := kR HO391 hb; replace HO394 := kR HO394 hb; replace HO400 := kR HO400 hb; replace HO403 := kR HO403 hb; replace HO409 := kR HO409 hb; replace HO412 := kR HO412 hb; replace BK396 := kK BK396 hb; replace BK405 := kK BK405 hb; replace BK414 := kK BK414 hb; replace HB := kB3 HB GE396 GE405 GE414 hb; (try clear hb); obtain ⟨hcz136_0, hcz136_1, hcz136_2, hfz136_0, hfz136_1, hfz136_2⟩ := cz3 w135 BK405) | (go_at_call 14; (with_reducible refine (impl_ValidLog.calls k t397 _ _ t398 _ _ t401 true _ ?side1 ?side2 ?side3 ?side4 A53.out).mono ?_); (case side1 => exact sC HO400); (case side2 => exact sL HO400); (case side3 => exact sC HO403); (case side4 => exact sL HO403); rintro e w137 ⟨rfl, hb⟩; replace HO375 := kR HO375 hb; replace HO379 := kR HO379 hb; replace HO383 := kR HO383 hb; replace HO387 := kR HO387 hb; replace HO391 := kR HO391 hb; replace HO394 := kR HO394 hb; replace HO400 := kR HO400 hb; replace HO403 := kR HO403 hb; replace HO409 := kR HO409 hb; replace HO412 := kR HO412 hb; replace BK396 := kK BK396 hb; replace BK405 := kK BK405 hb; replace BK414 := kK BK414 hb; replace HB := kB3 HB GE396 GE405 GE414 hb; (try clear hb); obtain ⟨hcz138_0, hcz138_1, hcz138_2, hfz138_0, hfz138_1, hfz138_2⟩ := cz3 w137 BK405))
 try (obtain ⟨Ao129, co129, eo129⟩ := Kd.R_slice HO387.out; subst eo129)
 try (have hnb130 := NB396_405.out; have hnc130 := NB405_396.out; have hnb131 := NB396_414.out; have hnc131 := NB414_396.out; have hcz132_0 : w40.cell? ⟨gb396, 0, none⟩ = some (.int .i64 t388) := (blk_cell BK396.out 0).trans rfl; have hcz132_1 : w40.cell? ⟨gb396, 1, none⟩ = some (.slice Ao24 t389.length co24) := (blk_cell BK396.out 1).trans rfl; have hcz132_2 : w40.cell? ⟨gb396, 2, none⟩ = some (.slice Ao25 t392.length co25) := (blk_cell BK396.out 2).trans rfl; have hfz132_0 := blk_frozen BK396.out 0; have hfz132_1 := blk_frozen BK396.out 1; have hfz132_2 := blk_frozen BK396.out 2; have hnb133 := NB405_414.out; have hnc133 := NB414_405.out; have hcz134_0 : w40.cell? ⟨gb405, 0, none⟩ = some (.int .i64 t397) := (blk_cell BK405.out 0).trans rfl; have hcz134_1 : w40.cell? ⟨gb405, 1, none⟩ = some (.slice Ao30 t398.length co30) := (blk_cell BK405.out 1).trans rfl; have hcz134_2 : w40.cell? ⟨gb405, 2, none⟩ = some (.slice Ao31 t401.length co31) := (blk_cell BK405.out 2).trans rfl; have hfz134_0 := blk_frozen BK405.out 0; have hfz134_1 := blk_frozen BK405.out 1; have hfz134_2 := blk_frozen BK405.out 2)
 repeat (go_quiet (fail))
 refine meetM hJ1_ (by kernel_rfl) ?rel
 case rel => dsimp only [List.getD_cons_succ, List.getD_cons_zero]; exact ⟨_, (true), (by first | rfl | (simp; done) | (simp [*]; done)), H', ⟨by first | omega | exact Nat.le_refl _⟩, ⟨by (with_reducible repeat (first | apply Kd.R_alloc | apply Kd.R_drewN | apply Kd.R_drew)); exact Kd.R_mono HO375.out (fun _ hk => hk.1.2)⟩, ⟨by (with_reducible repeat (first | apply Kd.R_alloc | apply Kd.R_drewN | apply Kd.R_drew)); exact Kd.R_mono HO383.out (fun _ hk => hk.1.1.2)⟩, ⟨by (with_reducible repeat (first | apply Kd.R_alloc | apply Kd.R_drewN | apply Kd.R_drew)); exact Kd.R_mono HO391.out (fun _ hk => ⟨hk.1.2, hk.2⟩)⟩, ⟨by (with_reducible repeat (first | apply Kd.R_alloc | apply Kd.R_drewN | apply Kd.R_drew)); exact Kd.R_mono HO394.out (fun _ hk => ⟨hk.1.2, hk.2⟩)⟩, ⟨by (with_reducible repeat (first | apply Kd.R_alloc | apply Kd.R_drewN | apply Kd.R_drew)); exact Kd.R_mono HO400.out (fun _ hk => ⟨hk.1.2, hk.2⟩)⟩, ⟨by (with_reducible repeat (first | apply Kd.R_alloc | apply Kd.R_drewN | apply Kd.R_drew)); exact Kd.R_mono HO403.out (fun _ hk => ⟨hk.1.2, hk.2⟩)⟩, ⟨by (with_reducible repeat (first | apply Kd.R_alloc | apply Kd.R_drewN | apply Kd.R_drew)); exact Kd.R_mono HO409.out (fun _ hk => ⟨hk.1.2, hk.2⟩)⟩, ⟨by (with_reducible repeat (first | apply Kd.R_alloc | apply Kd.R_drewN | apply Kd.R_drew)); exact Kd.R_mono HO412.out (fun _ hk => ⟨hk.1.2, hk.2⟩)⟩, ⟨(zK2 BK396.out)⟩, ⟨(zK2 BK405.out)⟩, ⟨(zK2 BK414.out)⟩, ⟨by repeat (first | (with_reducible first | exact HB.out | apply below_alloc | apply pw_below_drewN | apply below_drew1 | refine below_set ?_ GE396.out | refine below_set ?_ GE405.out | refine below_set ?_ GE414.out) | exact HB.out)⟩⟩
 }
 }
 {
 as_aux_lemma =>
 rw [if_neg c55] at H
 have c55b0 : ((t398.length : Int) == 4) = false := beq_eq_false_iff_ne.mpr c55
 have c55b1 : ((t398.length : Int) != 4) = true := bne_iff_ne.mpr c55
 have H' := ak H
 clear H
 obtain ⟨Ao139, co139, eo139⟩ := Kd.R_slice HO379.out
 subst eo139
 go_wp2_with (first | (go_at_call 12; (with_reducible refine (spec_A2SameRecords.calls k _ _ t376 _ _ t380 true _ ?side1 ?side2 ?side3 ?side4 A43.out).mono ?_); (case side1 => exact sC HO379); (case side2 => exact sL HO379); (case side3 => exact sC HO383); (case side4 => exact sL HO383); rintro e w' ⟨rfl, ⟨nd, rfl⟩⟩; obtain ⟨Ao140, co140, eo140⟩ := Kd.R_slice HO387.out; subst eo140) | (go_at_call 12; (with_reducible refine (spec_A2SameRecords.calls k _ _ t384 _ _ t380 true _ ?side1 ?side2 ?side3 ?side4 A47.out).mono ?_); (case side1 => exact sC HO387); (case side2 => exact sL HO387); (case side3 => exact sC HO383); (case side4 => exact sL HO383); rintro e w' ⟨rfl, ⟨nd, rfl⟩⟩; have hnb141 := NB396_405.out; have hnc141 := NB405_396.out; have hnb142 := NB396_414.out; have hnc142 := NB414_396.out; obtain ⟨hcz143_0, hcz143_1, hcz143_2, hfz143_0, hfz143_1, hfz143_2⟩ := cz3 w40 BK396; have hnb144 := NB405_414.out; have hnc144 := NB414_405.out; obtain ⟨hcz145_0, hcz145_1, hcz145_2, hfz145_0, hfz145_1, hfz145_2⟩ := cz3 w40 BK405) | (go_at_call 13; (with_reducible refine (spec_SameLog.calls k t388 _ _ t389 _ _ t392 t397 _ _ t398 _ _ t401 true _ ?side1 ?side2 ?side3 ?side4 ?side5 ?side6 ?side7 ?side8 A51.out).mono ?_); (case side1 => exact sC HO391); (case side2 => exact sL HO391); (case side3 => exact sC HO394); (case side4 => exact sL HO394); (case side5 => exact sC HO400); (case side6 => exact sL HO400); (case side7 => exact sC HO403); (case side8 => exact sL HO403); rintro e w146 ⟨rfl, hb⟩; replace HO375 := kR HO375 hb; replace HO379 := kR HO379 hb; replace HO383 := kR HO383 hb; replace HO387 := kR HO387 hb; replace HO391 := kR HO391 hb; replace HO394 := kR HO394 hb; replace HO400 := kR HO400 hb; replace HO403 := kR HO403 hb; replace HO409 := kR HO409 hb; replace HO412 := kR HO412 hb; replace BK396 := kK BK396 hb; replace BK405 := kK BK405 hb; replace BK414 := kK BK414 hb; replace HB := kB3 HB GE396 GE405 GE414 hb; (try clear hb); obtain ⟨hcz147_0, hcz147_1, hcz147_2, hfz147_0, hfz147_1, hfz147_2⟩ := cz3 w146 BK405) | (go_at_call 14; (with_reducible refine (impl_ValidLog.calls k t397 _ _ t398 _ _ t401 true _ ?side1 ?side2 ?side3 ?side4 A53.out).mono ?_); (case side1 => exact sC HO400); (case side2 => exact sL HO400); (case side3 => exact sC HO403); (case side4 => exact sL HO403); rintro e w148 ⟨rfl, hb⟩; replace HO375 := kR HO375 hb; replace HO379 := kR HO379 hb; replace HO383 := kR HO383 hb; replace HO387 := kR HO387 hb; replace HO391 := kR HO391 hb; replace HO394 := kR HO394 hb; replace HO400 := kR HO400 hb; replace HO403 := kR HO403 hb; replace HO409 := kR HO409 hb; replace HO412 := kR HO412 hb; replace BK396 := kK BK396 hb; replace BK405 := kK BK405 hb; replace BK414 := kK BK414 hb; replace HB := kB3 HB GE396 GE405 GE414 hb; (try clear hb); obtain ⟨hcz149_0, hcz149_1, hcz149_2, hfz149_0, hfz149_1, hfz149_2⟩ := cz3 w148 BK405))
 try (obtain ⟨Ao140, co140, eo140⟩ := Kd.R_slice HO387.out; subst eo140)
 try (have hnb141 := NB396_405.out; have hnc141 := NB405_396.out; have hnb142 := NB396_414.out; have hnc142 := NB414_396.out; have hcz143_0 : w40.cell? ⟨gb396, 0, none⟩ = some (.int .i64 t388) := (blk_cell BK396.out 0).trans rfl; have hcz143_1 : w40.cell? ⟨gb396, 1, none⟩ = some (.slice Ao24 t389.length co24) := (blk_cell BK396.out 1).trans rfl; have hcz143_2 : w40.cell? ⟨gb396, 2, none⟩ = some (.slice Ao25 t392.length co25) := (blk_cell BK396.out 2).trans rfl; have hfz143_0 := blk_frozen BK396.out 0; have hfz143_1 := blk_frozen BK396.out 1; have hfz143_2 := blk_frozen BK396.out 2; have hnb144 := NB405_414.out; have hnc144 := NB414_405.out; have hcz145_0 : w40.cell? ⟨gb405, 0, none⟩ = some (.int .i64 t397) := (blk_cell BK405.out 0).trans rfl; have hcz145_1 : w40.cell? ⟨gb405, 1, none⟩ = some (.slice Ao30 t398.length co30) := (blk_cell BK405.out 1).trans rfl; have hcz145_2 : w40.cell? ⟨gb405, 2, none⟩ = some (.slice Ao31 t401.length co31) := (blk_cell BK405.out 2).trans rfl; have hfz145_0 := blk_frozen BK405.out 0; have hfz145_1 := blk_frozen BK405.out 1; have hfz145_2 := blk_frozen BK405.out 2)
 repeat (go_quiet (fail))
 refine meetM hJ1_ (by kernel_rfl) ?rel
 case rel => dsimp only [List.getD_cons_succ, List.getD_cons_zero]; exact ⟨_, (true), (by first | rfl | (simp; done) | (simp [*]; done)), H', ⟨by first | omega | exact Nat.le_refl _⟩, ⟨by (with_reducible repeat (first | apply Kd.R_alloc | apply Kd.R_drewN | apply Kd.R_drew)); exact Kd.R_mono HO375.out (fun _ hk => hk.1.2)⟩, ⟨by (with_reducible repeat (first | apply Kd.R_alloc | apply Kd.R_drewN | apply Kd.R_drew)); exact Kd.R_mono HO383.out (fun _ hk => hk.1.1.2)⟩, ⟨by (with_reducible repeat (first | apply Kd.R_alloc | apply Kd.R_drewN | apply Kd.R_drew)); exact Kd.R_mono HO391.out (fun _ hk => ⟨hk.1.2, hk.2⟩)⟩, ⟨by (with_reducible repeat (first | apply Kd.R_alloc | apply Kd.R_drewN | apply Kd.R_drew)); exact Kd.R_mono HO394.out (fun _ hk => ⟨hk.1.2, hk.2⟩)⟩, ⟨by (with_reducible repeat (first | apply Kd.R_alloc | apply Kd.R_drewN | apply Kd.R_drew)); exact Kd.R_mono HO400.out (fun _ hk => ⟨hk.1.2, hk.2⟩)⟩, ⟨by (with_reducible repeat (first | apply Kd.R_alloc | apply Kd.R_drewN | apply Kd.R_drew)); exact Kd.R_mono HO403.out (fun _ hk => ⟨hk.1.2, hk.2⟩)⟩, ⟨by (with_reducible repeat (first | apply Kd.R_alloc | apply Kd.R_drewN | apply Kd.R_drew)); exact Kd.R_mono HO409.out (fun _ hk => ⟨hk.1.2, hk.2⟩)⟩, ⟨by (with_reducible repeat (first | apply Kd.R_alloc | apply Kd.R_drewN | apply Kd.R_drew)); exact Kd.R_mono HO412.out (fun _ hk => ⟨hk.1.2, hk.2⟩)⟩, ⟨(zK2 BK396.out)⟩, ⟨(zK2 BK405.out)⟩, ⟨(zK2 BK414.out)⟩, ⟨by repeat (first | (with_reducible first | exact HB.out | apply below_alloc | apply pw_below_drewN | apply below_drew1 | refine below_set ?_ GE396.out | refine below_set ?_ GE405.out | refine below_set ?_ GE414.out) | exact HB.out)⟩⟩
 }
 }
 {
 as_aux_lemma =>
 replace c54 := Bool.eq_false_iff.mpr c54
 subst c54
 have H1 : (laws_FnRecords.j0 k l1 t373 t380 t416 t417 true t397 t398 t401) = some r := by rw [if_neg (show ¬ (false = true) by decide)] at H; exact H
 clear H
 have H := H1
 clear H1
 have H' := ak H
 clear H
 obtain ⟨Ao150, co150, eo150⟩ := Kd.R_slice HO379.out
 subst eo150
 go_wp2_with (first | (go_at_call 12; (with_reducible refine (spec_A2SameRecords.calls k _ _ t376 _ _ t380 true _ ?side1 ?side2 ?side3 ?side4 A43.out).mono ?_); (case side1 => exact sC HO379); (case side2 => exact sL HO379); (case side3 => exact sC HO383); (case side4 => exact sL HO383); rintro e w' ⟨rfl, ⟨nd, rfl⟩⟩; obtain ⟨Ao151, co151, eo151⟩ := Kd.R_slice HO387.out; subst eo151) | (go_at_call 12; (with_reducible refine (spec_A2SameRecords.calls k _ _ t384 _ _ t380 true _ ?side1 ?side2 ?side3 ?side4 A47.out).mono ?_); (case side1 => exact sC HO387); (case side2 => exact sL HO387); (case side3 => exact sC HO383); (case side4 => exact sL HO383); rintro e w' ⟨rfl, ⟨nd, rfl⟩⟩; have hnb152 := NB396_405.out; have hnc152 := NB405_396.out; have hnb153 := NB396_414.out; have hnc153 := NB414_396.out; obtain ⟨hcz154_0, hcz154_1, hcz154_2, hfz154_0, hfz154_1, hfz154_2⟩ := cz3 w40 BK396; have hnb155 := NB405_414.out; have hnc155 := NB414_405.out; obtain ⟨hcz156_0, hcz156_1, hcz156_2, hfz156_0, hfz156_1, hfz156_2⟩ := cz3 w40 BK405) | (go_at_call 13; (with_reducible refine (spec_SameLog.calls k t388 _ _ t389 _ _ t392 t397 _ _ t398 _ _ t401 true _ ?side1 ?side2 ?side3 ?side4 ?side5 ?side6 ?side7 ?side8 A51.out).mono ?_); (case side1 => exact sC HO391); (case side2 => exact sL HO391); (case side3 => exact sC HO394); (case side4 => exact sL HO394); (case side5 => exact sC HO400); (case side6 => exact sL HO400); (case side7 => exact sC HO403); (case side8 => exact sL HO403); rintro e w157 ⟨rfl, hb⟩; replace HO375 := kR HO375 hb; replace HO379 := kR HO379 hb; replace HO383 := kR HO383 hb; replace HO387 := kR HO387 hb; replace HO391 := kR HO391 hb; replace HO394 := kR HO394 hb; replace HO400 := kR HO400 hb; replace HO403 := kR HO403 hb; replace HO409 := kR HO409 hb; replace HO412 := kR HO412 hb; replace BK396 := kK BK396 hb; replace BK405 := kK BK405 hb; replace BK414 := kK BK414 hb; replace HB := kB3 HB GE396 GE405 GE414 hb; (try clear hb); obtain ⟨hcz158_0, hcz158_1, hcz158_2, hfz158_0, hfz158_1, hfz158_2⟩ := cz3 w157 BK405) | (go_at_call 14; (with_reducible refine (impl_ValidLog.calls k t397 _ _ t398 _ _ t401 false _ ?side1 ?side2 ?side3 ?side4 A53.out).mono ?_); (case side1 => exact sC HO400); (case side2 => exact sL HO400); (case side3 => exact sC HO403); (case side4 => exact sL HO403); rintro e w159 ⟨rfl, hb⟩; replace HO375 := kR HO375 hb; replace HO379 := kR HO379 hb; replace HO383 := kR HO383 hb; replace HO387 := kR HO387 hb; replace HO391 := kR HO391 hb; replace HO394 := kR HO394 hb; replace HO400 := kR HO400 hb; replace HO403 := kR HO403 hb; replace HO409 := kR HO409 hb; replace HO412 := kR HO412 hb; replace BK396 := kK BK396 hb; replace BK405 := kK BK405 hb; replace BK414 := kK BK414 hb; replace HB := kB3 HB GE396 GE405 GE414 hb; (try clear hb)))
 try (obtain ⟨Ao151, co151, eo151⟩ := Kd.R_slice HO387.out; subst eo151)
 try (have hnb152 := NB396_405.out; have hnc152 := NB405_396.out; have hnb153 := NB396_414.out; have hnc153 := NB414_396.out; have hcz154_0 : w40.cell? ⟨gb396, 0, none⟩ = some (.int .i64 t388) := (blk_cell BK396.out 0).trans rfl; have hcz154_1 : w40.cell? ⟨gb396, 1, none⟩ = some (.slice Ao24 t389.length co24) := (blk_cell BK396.out 1).trans rfl; have hcz154_2 : w40.cell? ⟨gb396, 2, none⟩ = some (.slice Ao25 t392.length co25) := (blk_cell BK396.out 2).trans rfl; have hfz154_0 := blk_frozen BK396.out 0; have hfz154_1 := blk_frozen BK396.out 1; have hfz154_2 := blk_frozen BK396.out 2; have hnb155 := NB405_414.out; have hnc155 := NB414_405.out; have hcz156_0 : w40.cell? ⟨gb405, 0, none⟩ = some (.int .i64 t397) := (blk_cell BK405.out 0).trans rfl; have hcz156_1 : w40.cell? ⟨gb405, 1, none⟩ = some (.slice Ao30 t398.length co30) := (blk_cell BK405.out 1).trans rfl; have hcz156_2 : w40.cell? ⟨gb405, 2, none⟩ = some (.slice Ao31 t401.length co31) := (blk_cell BK405.out 2).trans rfl; have hfz156_0 := blk_frozen BK405.out 0; have hfz156_1 := blk_frozen BK405.out 1; have hfz156_2 := blk_frozen BK405.out 2)
 repeat (go_quiet (fail))
 refine meetM hJ1_ (by kernel_rfl) ?rel
 case rel => dsimp only [List.getD_cons_succ, List.getD_cons_zero]; exact ⟨_, (true), (by first | rfl | (simp; done) | (simp [*]; done)), H', ⟨by first | omega | exact Nat.le_refl _⟩, ⟨by (with_reducible repeat (first | apply Kd.R_alloc | apply Kd.R_drewN | apply Kd.R_drew)); exact Kd.R_mono HO375.out (fun _ hk => hk.1.2)⟩, ⟨by (with_reducible repeat (first | apply Kd.R_alloc | apply Kd.R_drewN | apply Kd.R_drew)); exact Kd.R_mono HO383.out (fun _ hk => hk.1.1.2)⟩, ⟨by (with_reducible repeat (first | apply Kd.R_alloc | apply Kd.R_drewN | apply Kd.R_drew)); exact Kd.R_mono HO391.out (fun _ hk => ⟨hk.1.2, hk.2⟩)⟩, ⟨by (with_reducible repeat (first | apply Kd.R_alloc | apply Kd.R_drewN | apply Kd.R_drew)); exact Kd.R_mono HO394.out (fun _ hk => ⟨hk.1.2, hk.2⟩)⟩, ⟨by (with_reducible repeat (first | apply Kd.R_alloc | apply Kd.R_drewN | apply Kd.R_drew)); exact Kd.R_mono HO400.out (fun _ hk => ⟨hk.1.2, hk.2⟩)⟩, ⟨by (with_reducible repeat (first | apply Kd.R_alloc | apply Kd.R_drewN | apply Kd.R_drew)); exact Kd.R_mono HO403.out (fun _ hk => ⟨hk.1.2, hk.2⟩)⟩, ⟨by (with_reducible repeat (first | apply Kd.R_alloc | apply Kd.R_drewN | apply Kd.R_drew)); exact Kd.R_mono HO409.out (fun _ hk => ⟨hk.1.2, hk.2⟩)⟩, ⟨by (with_reducible repeat (first | apply Kd.R_alloc | apply Kd.R_drewN | apply Kd.R_drew)); exact Kd.R_mono HO412.out (fun _ hk => ⟨hk.1.2, hk.2⟩)⟩, ⟨(zK2 BK396.out)⟩, ⟨(zK2 BK405.out)⟩, ⟨(zK2 BK414.out)⟩, ⟨by repeat (first | (with_reducible first | exact HB.out | apply below_alloc | apply pw_below_drewN | apply below_drew1 | refine below_set ?_ GE396.out | refine below_set ?_ GE405.out | refine below_set ?_ GE414.out) | exact HB.out)⟩⟩
 }
 }
 {
 as_aux_lemma =>
 replace c52 := Bool.eq_false_iff.mpr c52
 subst c52
 have H1 : (laws_FnRecords.j0 k l1 t373 t380 t416 t417 true t397 t398 t401) = some r := by rw [if_neg (show ¬ (false = true) by decide)] at H; exact H
 clear H
 have H := H1
 clear H1
 have H' := ak H
 clear H
 obtain ⟨Ao160, co160, eo160⟩ := Kd.R_slice HO379.out
 subst eo160
 go_wp2_with (first | (go_at_call 12; (with_reducible refine (spec_A2SameRecords.calls k _ _ t376 _ _ t380 true _ ?side1 ?side2 ?side3 ?side4 A43.out).mono ?_); (case side1 => exact sC HO379); (case side2 => exact sL HO379); (case side3 => exact sC HO383); (case side4 => exact sL HO383); rintro e w' ⟨rfl, ⟨nd, rfl⟩⟩; obtain ⟨Ao161, co161, eo161⟩ := Kd.R_slice HO387.out; subst eo161) | (go_at_call 12; (with_reducible refine (spec_A2SameRecords.calls k _ _ t384 _ _ t380 true _ ?side1 ?side2 ?side3 ?side4 A47.out).mono ?_); (case side1 => exact sC HO387); (case side2 => exact sL HO387); (case side3 => exact sC HO383); (case side4 => exact sL HO383); rintro e w' ⟨rfl, ⟨nd, rfl⟩⟩; have hnb162 := NB396_405.out; have hnc162 := NB405_396.out; have hnb163 := NB396_414.out; have hnc163 := NB414_396.out; obtain ⟨hcz164_0, hcz164_1, hcz164_2, hfz164_0, hfz164_1, hfz164_2⟩ := cz3 w40 BK396; have hnb165 := NB405_414.out; have hnc165 := NB414_405.out; obtain ⟨hcz166_0, hcz166_1, hcz166_2, hfz166_0, hfz166_1, hfz166_2⟩ := cz3 w40 BK405) | (go_at_call 13; (with_reducible refine (spec_SameLog.calls k t388 _ _ t389 _ _ t392 t397 _ _ t398 _ _ t401 false _ ?side1 ?side2 ?side3 ?side4 ?side5 ?side6 ?side7 ?side8 A51.out).mono ?_); (case side1 => exact sC HO391); (case side2 => exact sL HO391); (case side3 => exact sC HO394); (case side4 => exact sL HO394); (case side5 => exact sC HO400); (case side6 => exact sL HO400); (case side7 => exact sC HO403); (case side8 => exact sL HO403); rintro e w167 ⟨rfl, hb⟩; replace HO375 := kR HO375 hb; replace HO379 := kR HO379 hb; replace HO383 := kR HO383 hb; replace HO387 := kR HO387 hb; replace HO391 := kR HO391 hb; replace HO394 := kR HO394 hb; replace HO400 := kR HO400 hb; replace HO403 := kR HO403 hb; replace HO409 := kR HO409 hb; replace HO412 := kR HO412 hb; replace BK396 := kK BK396 hb; replace BK405 := kK BK405 hb; replace BK414 := kK BK414 hb; replace HB := kB3 HB GE396 GE405 GE414 hb; (try clear hb)))
 try (obtain ⟨Ao161, co161, eo161⟩ := Kd.R_slice HO387.out; subst eo161)
 try (have hnb162 := NB396_405.out; have hnc162 := NB405_396.out; have hnb163 := NB396_414.out; have hnc163 := NB414_396.out; have hcz164_0 : w40.cell? ⟨gb396, 0, none⟩ = some (.int .i64 t388) := (blk_cell BK396.out 0).trans rfl; have hcz164_1 : w40.cell? ⟨gb396, 1, none⟩ = some (.slice Ao24 t389.length co24) := (blk_cell BK396.out 1).trans rfl; have hcz164_2 : w40.cell? ⟨gb396, 2, none⟩ = some (.slice Ao25 t392.length co25) := (blk_cell BK396.out 2).trans rfl; have hfz164_0 := blk_frozen BK396.out 0; have hfz164_1 := blk_frozen BK396.out 1; have hfz164_2 := blk_frozen BK396.out 2; have hnb165 := NB405_414.out; have hnc165 := NB414_405.out; have hcz166_0 : w40.cell? ⟨gb405, 0, none⟩ = some (.int .i64 t397) := (blk_cell BK405.out 0).trans rfl; have hcz166_1 : w40.cell? ⟨gb405, 1, none⟩ = some (.slice Ao30 t398.length co30) := (blk_cell BK405.out 1).trans rfl; have hcz166_2 : w40.cell? ⟨gb405, 2, none⟩ = some (.slice Ao31 t401.length co31) := (blk_cell BK405.out 2).trans rfl; have hfz166_0 := blk_frozen BK405.out 0; have hfz166_1 := blk_frozen BK405.out 1; have hfz166_2 := blk_frozen BK405.out 2)
 repeat (go_quiet (fail))
 refine meetM hJ1_ (by kernel_rfl) ?rel
 case rel => dsimp only [List.getD_cons_succ, List.getD_cons_zero]; exact ⟨_, (true), (by first | rfl | (simp; done) | (simp [*]; done)), H', ⟨by first | omega | exact Nat.le_refl _⟩, ⟨by (with_reducible repeat (first | apply Kd.R_alloc | apply Kd.R_drewN | apply Kd.R_drew)); exact Kd.R_mono HO375.out (fun _ hk => hk.1.2)⟩, ⟨by (with_reducible repeat (first | apply Kd.R_alloc | apply Kd.R_drewN | apply Kd.R_drew)); exact Kd.R_mono HO383.out (fun _ hk => hk.1.1.2)⟩, ⟨by (with_reducible repeat (first | apply Kd.R_alloc | apply Kd.R_drewN | apply Kd.R_drew)); exact Kd.R_mono HO391.out (fun _ hk => ⟨hk.1.2, hk.2⟩)⟩, ⟨by (with_reducible repeat (first | apply Kd.R_alloc | apply Kd.R_drewN | apply Kd.R_drew)); exact Kd.R_mono HO394.out (fun _ hk => ⟨hk.1.2, hk.2⟩)⟩, ⟨by (with_reducible repeat (first | apply Kd.R_alloc | apply Kd.R_drewN | apply Kd.R_drew)); exact Kd.R_mono HO400.out (fun _ hk => ⟨hk.1.2, hk.2⟩)⟩, ⟨by (with_reducible repeat (first | apply Kd.R_alloc | apply Kd.R_drewN | apply Kd.R_drew)); exact Kd.R_mono HO403.out (fun _ hk => ⟨hk.1.2, hk.2⟩)⟩, ⟨by (with_reducible repeat (first | apply Kd.R_alloc | apply Kd.R_drewN | apply Kd.R_drew)); exact Kd.R_mono HO409.out (fun _ hk => ⟨hk.1.2, hk.2⟩)⟩, ⟨by (with_reducible repeat (first | apply Kd.R_alloc | apply Kd.R_drewN | apply Kd.R_drew)); exact Kd.R_mono HO412.out (fun _ hk => ⟨hk.1.2, hk.2⟩)⟩, ⟨(zK2 BK396.out)⟩, ⟨(zK2 BK405.out)⟩, ⟨(zK2 BK414.out)⟩, ⟨by repeat (first | (with_reducible first | exact HB.out | apply below_alloc | apply pw_below_drewN | apply below_drew1 | refine below_set ?_ GE396.out | refine below_set ?_ GE405.out | refine below_set ?_ GE414.out) | exact HB.out)⟩⟩
 }
 }
 {
 as_aux_lemma =>
 rw [if_neg c50] at H
 have c50b0 : (t395 == 0) = false := beq_eq_false_iff_ne.mpr c50
 have c50b1 : (t395 != 0) = true := bne_iff_ne.mpr c50
 have H' := ak H
 clear H
 obtain ⟨Ao168, co168, eo168⟩ := Kd.R_slice HO379.out
 subst eo168
 go_wp2_with (first | (go_at_call 12; (with_reducible refine (spec_A2SameRecords.calls k _ _ t376 _ _ t380 true _ ?side1 ?side2 ?side3 ?side4 A43.out).mono ?_); (case side1 => exact sC HO379); (case side2 => exact sL HO379); (case side3 => exact sC HO383); (case side4 => exact sL HO383); rintro e w' ⟨rfl, ⟨nd, rfl⟩⟩; obtain ⟨Ao169, co169, eo169⟩ := Kd.R_slice HO387.out; subst eo169) | (go_at_call 12; (with_reducible refine (spec_A2SameRecords.calls k _ _ t384 _ _ t380 true _ ?side1 ?side2 ?side3 ?side4 A47.out).mono ?_); (case side1 => exact sC HO387); (case side2 => exact sL HO387); (case side3 => exact sC HO383); (case side4 => exact sL HO383); rintro e w' ⟨rfl, ⟨nd, rfl⟩⟩))
 try (obtain ⟨Ao169, co169, eo169⟩ := Kd.R_slice HO387.out; subst eo169)
 repeat (go_quiet (fail))
 refine meetM hJ1_ (by kernel_rfl) ?rel
 case rel => dsimp only [List.getD_cons_succ, List.getD_cons_zero]; exact ⟨_, (true), (by first | rfl | (simp; done) | (simp [*]; done)), H', ⟨by first | omega | exact Nat.le_refl _⟩, ⟨by (with_reducible repeat (first | apply Kd.R_alloc | apply Kd.R_drewN | apply Kd.R_drew)); exact Kd.R_mono HO375.out (fun _ hk => hk.1.2)⟩, ⟨by (with_reducible repeat (first | apply Kd.R_alloc | apply Kd.R_drewN | apply Kd.R_drew)); exact Kd.R_mono HO383.out (fun _ hk => hk.1.1.2)⟩, ⟨by (with_reducible repeat (first | apply Kd.R_alloc | apply Kd.R_drewN | apply Kd.R_drew)); exact Kd.R_mono HO391.out (fun _ hk => ⟨hk.1.2, hk.2⟩)⟩, ⟨by (with_reducible repeat (first | apply Kd.R_alloc | apply Kd.R_drewN | apply Kd.R_drew)); exact Kd.R_mono HO394.out (fun _ hk => ⟨hk.1.2, hk.2⟩)⟩, ⟨by (with_reducible repeat (first | apply Kd.R_alloc | apply Kd.R_drewN | apply Kd.R_drew)); exact Kd.R_mono HO400.out (fun _ hk => ⟨hk.1.2, hk.2⟩)⟩, ⟨by (with_reducible repeat (first | apply Kd.R_alloc | apply Kd.R_drewN | apply Kd.R_drew)); exact Kd.R_mono HO403.out (fun _ hk => ⟨hk.1.2, hk.2⟩)⟩, ⟨by (with_reducible repeat (first | apply Kd.R_alloc | apply Kd.R_drewN | apply Kd.R_drew)); exact Kd.R_mono HO409.out (fun _ hk => ⟨hk.1.2, hk.2⟩)⟩, ⟨by (with_reducible repeat (first | apply Kd.R_alloc | apply Kd.R_drewN | apply Kd.R_drew)); exact Kd.R_mono HO412.out (fun _ hk => ⟨hk.1.2, hk.2⟩)⟩, ⟨(zK2 BK396.out)⟩, ⟨(zK2 BK405.out)⟩, ⟨(zK2 BK414.out)⟩, ⟨by repeat (first | (with_reducible first | exact HB.out | apply below_alloc | apply pw_below_drewN | apply below_drew1 | refine below_set ?_ GE396.out | refine below_set ?_ GE405.out | refine below_set ?_ GE414.out) | exact HB.out)⟩⟩
 }
 }
 {
 as_aux_lemma =>
 rw [if_neg c49] at H
 have c49b0 : (t395 == t404) = false := beq_eq_false_iff_ne.mpr c49
 have c49b1 : (t395 != t404) = true := bne_iff_ne.mpr c49
 have H' := ak H
 clear H
 obtain ⟨Ao170, co170, eo170⟩ := Kd.R_slice HO379.out
 subst eo170
 go_wp2_with (first | (go_at_call 12; (with_reducible refine (spec_A2SameRecords.calls k _ _ t376 _ _ t380 true _ ?side1 ?side2 ?side3 ?side4 A43.out).mono ?_); (case side1 => exact sC HO379); (case side2 => exact sL HO379); (case side3 => exact sC HO383); (case side4 => exact sL HO383); rintro e w' ⟨rfl, ⟨nd, rfl⟩⟩; obtain ⟨Ao171, co171, eo171⟩ := Kd.R_slice HO387.out; subst eo171) | (go_at_call 12; (with_reducible refine (spec_A2SameRecords.calls k _ _ t384 _ _ t380 true _ ?side1 ?side2 ?side3 ?side4 A47.out).mono ?_); (case side1 => exact sC HO387); (case side2 => exact sL HO387); (case side3 => exact sC HO383); (case side4 => exact sL HO383); rintro e w' ⟨rfl, ⟨nd, rfl⟩⟩))
 try (obtain ⟨Ao171, co171, eo171⟩ := Kd.R_slice HO387.out; subst eo171)
 repeat (go_quiet (fail))
 refine meetM hJ1_ (by kernel_rfl) ?rel
 case rel => dsimp only [List.getD_cons_succ, List.getD_cons_zero]; exact ⟨_, (true), (by first | rfl | (simp; done) | (simp [*]; done)), H', ⟨by first | omega | exact Nat.le_refl _⟩, ⟨by (with_reducible repeat (first | apply Kd.R_alloc | apply Kd.R_drewN | apply Kd.R_drew)); exact Kd.R_mono HO375.out (fun _ hk => hk.1.2)⟩, ⟨by (with_reducible repeat (first | apply Kd.R_alloc | apply Kd.R_drewN | apply Kd.R_drew)); exact Kd.R_mono HO383.out (fun _ hk => hk.1.1.2)⟩, ⟨by (with_reducible repeat (first | apply Kd.R_alloc | apply Kd.R_drewN | apply Kd.R_drew)); exact Kd.R_mono HO391.out (fun _ hk => ⟨hk.1.2, hk.2⟩)⟩, ⟨by (with_reducible repeat (first | apply Kd.R_alloc | apply Kd.R_drewN | apply Kd.R_drew)); exact Kd.R_mono HO394.out (fun _ hk => ⟨hk.1.2, hk.2⟩)⟩, ⟨by (with_reducible repeat (first | apply Kd.R_alloc | apply Kd.R_drewN | apply Kd.R_drew)); exact Kd.R_mono HO400.out (fun _ hk => ⟨hk.1.2, hk.2⟩)⟩, ⟨by (with_reducible repeat (first | apply Kd.R_alloc | apply Kd.R_drewN | apply Kd.R_drew)); exact Kd.R_mono HO403.out (fun _ hk => ⟨hk.1.2, hk.2⟩)⟩, ⟨by (with_reducible repeat (first | apply Kd.R_alloc | apply Kd.R_drewN | apply Kd.R_drew)); exact Kd.R_mono HO409.out (fun _ hk => ⟨hk.1.2, hk.2⟩)⟩, ⟨by (with_reducible repeat (first | apply Kd.R_alloc | apply Kd.R_drewN | apply Kd.R_drew)); exact Kd.R_mono HO412.out (fun _ hk => ⟨hk.1.2, hk.2⟩)⟩, ⟨(zK2 BK396.out)⟩, ⟨(zK2 BK405.out)⟩, ⟨(zK2 BK414.out)⟩, ⟨by repeat (first | (with_reducible first | exact HB.out | apply below_alloc | apply pw_below_drewN | apply below_drew1 | refine below_set ?_ GE396.out | refine below_set ?_ GE405.out | refine below_set ?_ GE414.out) | exact HB.out)⟩⟩
 }
 }
 {
 as_aux_lemma =>
 replace c48 := Bool.eq_false_iff.mpr c48
 subst c48
 have H1 : (laws_FnRecords.j0 k l1 t373 t380 t416 t417 true t397 t398 t401) = some r := by rw [if_neg (show ¬ (false = true) by decide)] at H; exact H
 clear H
 have H := H1
 clear H1
 have H' := ak H
 clear H
 obtain ⟨Ao172, co172, eo172⟩ := Kd.R_slice HO379.out
 subst eo172
 go_wp2_with (first | (go_at_call 12; (with_reducible refine (spec_A2SameRecords.calls k _ _ t376 _ _ t380 true _ ?side1 ?side2 ?side3 ?side4 A43.out).mono ?_); (case side1 => exact sC HO379); (case side2 => exact sL HO379); (case side3 => exact sC HO383); (case side4 => exact sL HO383); rintro e w' ⟨rfl, ⟨nd, rfl⟩⟩; obtain ⟨Ao173, co173, eo173⟩ := Kd.R_slice HO387.out; subst eo173) | (go_at_call 12; (with_reducible refine (spec_A2SameRecords.calls k _ _ t384 _ _ t380 false _ ?side1 ?side2 ?side3 ?side4 A47.out).mono ?_); (case side1 => exact sC HO387); (case side2 => exact sL HO387); (case side3 => exact sC HO383); (case side4 => exact sL HO383); rintro e w' ⟨rfl, ⟨nd, rfl⟩⟩))
 try (obtain ⟨Ao173, co173, eo173⟩ := Kd.R_slice HO387.out; subst eo173)
 repeat (go_quiet (fail))
 refine meetM hJ1_ (by kernel_rfl) ?rel
 case rel => dsimp only [List.getD_cons_succ, List.getD_cons_zero]; exact ⟨_, (true), (by first | rfl | (simp; done) | (simp [*]; done)), H', ⟨by first | omega | exact Nat.le_refl _⟩, ⟨by (with_reducible repeat (first | apply Kd.R_alloc | apply Kd.R_drewN | apply Kd.R_drew)); exact Kd.R_mono HO375.out (fun _ hk => hk.1.2)⟩, ⟨by (with_reducible repeat (first | apply Kd.R_alloc | apply Kd.R_drewN | apply Kd.R_drew)); exact Kd.R_mono HO383.out (fun _ hk => hk.1.1.2)⟩, ⟨by (with_reducible repeat (first | apply Kd.R_alloc | apply Kd.R_drewN | apply Kd.R_drew)); exact Kd.R_mono HO391.out (fun _ hk => ⟨hk.1.2, hk.2⟩)⟩, ⟨by (with_reducible repeat (first | apply Kd.R_alloc | apply Kd.R_drewN | apply Kd.R_drew)); exact Kd.R_mono HO394.out (fun _ hk => ⟨hk.1.2, hk.2⟩)⟩, ⟨by (with_reducible repeat (first | apply Kd.R_alloc | apply Kd.R_drewN | apply Kd.R_drew)); exact Kd.R_mono HO400.out (fun _ hk => ⟨hk.1.2, hk.2⟩)⟩, ⟨by (with_reducible repeat (first | apply Kd.R_alloc | apply Kd.R_drewN | apply Kd.R_drew)); exact Kd.R_mono HO403.out (fun _ hk => ⟨hk.1.2, hk.2⟩)⟩, ⟨by (with_reducible repeat (first | apply Kd.R_alloc | apply Kd.R_drewN | apply Kd.R_drew)); exact Kd.R_mono HO409.out (fun _ hk => ⟨hk.1.2, hk.2⟩)⟩, ⟨by (with_reducible repeat (first | apply Kd.R_alloc | apply Kd.R_drewN | apply Kd.R_drew)); exact Kd.R_mono HO412.out (fun _ hk => ⟨hk.1.2, hk.2⟩)⟩, ⟨(zK2 BK396.out)⟩, ⟨(zK2 BK405.out)⟩, ⟨(zK2 BK414.out)⟩, ⟨by repeat (first | (with_reducible first | exact HB.out | apply below_alloc | apply pw_below_drewN | apply below_drew1 | refine below_set ?_ GE396.out | refine below_set ?_ GE405.out | refine below_set ?_ GE414.out) | exact HB.out)⟩⟩
 }
 }
 {
 as_aux_lemma =>
 rw [if_neg c46] at H
 have c46b0 : (t385 == 0) = false := beq_eq_false_iff_ne.mpr c46
 have c46b1 : (t385 != 0) = true := bne_iff_ne.mpr c46
 have H' := ak H
 clear H
 obtain ⟨Ao174, co174, eo174⟩ := Kd.R_slice HO379.out
 subst eo174
 go_wp2_with (first | (go_at_call 12; (with_reducible refine (spec_A2SameRecords.calls k _ _ t376 _ _ t380 true _ ?side1 ?side2 ?side3 ?side4 A43.out).mono ?_); (case side1 => exact sC HO379); (case side2 => exact sL HO379); (case side3 => exact sC HO383); (case side4 => exact sL HO383); rintro e w' ⟨rfl, ⟨nd, rfl⟩⟩))
 repeat (go_quiet (fail))
 refine meetM hJ1_ (by kernel_rfl) ?rel
 case rel => dsimp only [List.getD_cons_succ, List.getD_cons_zero]; exact ⟨_, (true), (by first | rfl | (simp; done) | (simp [*]; done)), H', ⟨by first | omega | exact Nat.le_refl _⟩, ⟨by (with_reducible repeat (first | apply Kd.R_alloc | apply Kd.R_drewN | apply Kd.R_drew)); exact Kd.R_mono HO375.out (fun _ hk => hk.1.2)⟩, ⟨by (with_reducible repeat (first | apply Kd.R_alloc | apply Kd.R_drewN | apply Kd.R_drew)); exact Kd.R_mono HO383.out (fun _ hk => hk.1.1.2)⟩, ⟨by (with_reducible repeat (first | apply Kd.R_alloc | apply Kd.R_drewN | apply Kd.R_drew)); exact Kd.R_mono HO391.out (fun _ hk => ⟨hk.1.2, hk.2⟩)⟩, ⟨by (with_reducible repeat (first | apply Kd.R_alloc | apply Kd.R_drewN | apply Kd.R_drew)); exact Kd.R_mono HO394.out (fun _ hk => ⟨hk.1.2, hk.2⟩)⟩, ⟨by (with_reducible repeat (first | apply Kd.R_alloc | apply Kd.R_drewN | apply Kd.R_drew)); exact Kd.R_mono HO400.out (fun _ hk => ⟨hk.1.2, hk.2⟩)⟩, ⟨by (with_reducible repeat (first | apply Kd.R_alloc | apply Kd.R_drewN | apply Kd.R_drew)); exact Kd.R_mono HO403.out (fun _ hk => ⟨hk.1.2, hk.2⟩)⟩, ⟨by (with_reducible repeat (first | apply Kd.R_alloc | apply Kd.R_drewN | apply Kd.R_drew)); exact Kd.R_mono HO409.out (fun _ hk => ⟨hk.1.2, hk.2⟩)⟩, ⟨by (with_reducible repeat (first | apply Kd.R_alloc | apply Kd.R_drewN | apply Kd.R_drew)); exact Kd.R_mono HO412.out (fun _ hk => ⟨hk.1.2, hk.2⟩)⟩, ⟨(zK2 BK396.out)⟩, ⟨(zK2 BK405.out)⟩, ⟨(zK2 BK414.out)⟩, ⟨by repeat (first | (with_reducible first | exact HB.out | apply below_alloc | apply pw_below_drewN | apply below_drew1 | refine below_set ?_ GE396.out | refine below_set ?_ GE405.out | refine below_set ?_ GE414.out) | exact HB.out)⟩⟩
 }
 }
 {
 as_aux_lemma =>
 rw [if_neg c45] at H
 have c45b0 : ((t380.length : Int) == (t373.length : Int)) = false := beq_eq_false_iff_ne.mpr c45
 have c45b1 : ((t380.length : Int) != (t373.length : Int)) = true := bne_iff_ne.mpr c45
 have c45b2 : (t380.length == t373.length) = false := by first | simpa using c45 | (simp at c45 ⊢; omega)
 have H' := ak H
 clear H
 obtain ⟨Ao175, co175, eo175⟩ := Kd.R_slice HO379.out
 subst eo175
 go_wp2_with (first | (go_at_call 12; (with_reducible refine (spec_A2SameRecords.calls k _ _ t376 _ _ t380 true _ ?side1 ?side2 ?side3 ?side4 A43.out).mono ?_); (case side1 => exact sC HO379); (case side2 => exact sL HO379); (case side3 => exact sC HO383); (case side4 => exact sL HO383); rintro e w' ⟨rfl, ⟨nd, rfl⟩⟩))
 repeat (go_quiet (fail))
 refine meetM hJ1_ (by kernel_rfl) ?rel
 case rel => dsimp only [List.getD_cons_succ, List.getD_cons_zero]; exact ⟨_, (true), (by first | rfl | (simp; done) | (simp [*]; done)), H', ⟨by first | omega | exact Nat.le_refl _⟩, ⟨by (with_reducible repeat (first | apply Kd.R_alloc | apply Kd.R_drewN | apply Kd.R_drew)); exact Kd.R_mono HO375.out (fun _ hk => hk.1.2)⟩, ⟨by (with_reducible repeat (first | apply Kd.R_alloc | apply Kd.R_drewN | apply Kd.R_drew)); exact Kd.R_mono HO383.out (fun _ hk => hk.1.1.2)⟩, ⟨by (with_reducible repeat (first | apply Kd.R_alloc | apply Kd.R_drewN | apply Kd.R_drew)); exact Kd.R_mono HO391.out (fun _ hk => ⟨hk.1.2, hk.2⟩)⟩, ⟨by (with_reducible repeat (first | apply Kd.R_alloc | apply Kd.R_drewN | apply Kd.R_drew)); exact Kd.R_mono HO394.out (fun _ hk => ⟨hk.1.2, hk.2⟩)⟩, ⟨by (with_reducible repeat (first | apply Kd.R_alloc | apply Kd.R_drewN | apply Kd.R_drew)); exact Kd.R_mono HO400.out (fun _ hk => ⟨hk.1.2, hk.2⟩)⟩, ⟨by (with_reducible repeat (first | apply Kd.R_alloc | apply Kd.R_drewN | apply Kd.R_drew)); exact Kd.R_mono HO403.out (fun _ hk => ⟨hk.1.2, hk.2⟩)⟩, ⟨by (with_reducible repeat (first | apply Kd.R_alloc | apply Kd.R_drewN | apply Kd.R_drew)); exact Kd.R_mono HO409.out (fun _ hk => ⟨hk.1.2, hk.2⟩)⟩, ⟨by (with_reducible repeat (first | apply Kd.R_alloc | apply Kd.R_drewN | apply Kd.R_drew)); exact Kd.R_mono HO412.out (fun _ hk => ⟨hk.1.2, hk.2⟩)⟩, ⟨(zK2 BK396.out)⟩, ⟨(zK2 BK405.out)⟩, ⟨(zK2 BK414.out)⟩, ⟨by repeat (first | (with_reducible first | exact HB.out | apply below_alloc | apply pw_below_drewN | apply below_drew1 | refine below_set ?_ GE396.out | refine below_set ?_ GE405.out | refine below_set ?_ GE414.out) | exact HB.out)⟩⟩
 }
 }
 {
 as_aux_lemma =>
 replace c44 := Bool.eq_false_iff.mpr c44
 subst c44
 have H1 : (laws_FnRecords.j0 k l1 t373 t380 t416 t417 true t397 t398 t401) = some r := by rw [if_neg (show ¬ (false = true) by decide)] at H; exact H
 clear H
 have H := H1
 clear H1
 have H' := ak H
 clear H
 obtain ⟨Ao176, co176, eo176⟩ := Kd.R_slice HO379.out
 subst eo176
 go_wp2_with (first | (go_at_call 12; (with_reducible refine (spec_A2SameRecords.calls k _ _ t376 _ _ t380 false _ ?side1 ?side2 ?side3 ?side4 A43.out).mono ?_); (case side1 => exact sC HO379); (case side2 => exact sL HO379); (case side3 => exact sC HO383); (case side4 => exact sL HO383); rintro e w' ⟨rfl, ⟨nd, rfl⟩⟩))
 repeat (go_quiet (fail))
 refine meetM hJ1_ (by kernel_rfl) ?rel
 case rel => dsimp only [List.getD_cons_succ, List.getD_cons_zero]; exact ⟨_, (true), (by first | rfl | (simp; done) | (simp [*]; done)), H', ⟨by first | omega | exact Nat.le_refl _⟩, ⟨by (with_reducible repeat (first | apply Kd.R_alloc | apply Kd.R_drewN | apply Kd.R_drew)); exact Kd.R_mono HO375.out (fun _ hk => hk.1.2)⟩, ⟨by (with_reducible repeat (first | apply Kd.R_alloc | apply Kd.R_drewN | apply Kd.R_drew)); exact Kd.R_mono HO383.out (fun _ hk => hk.1.1.2)⟩, ⟨by (with_reducible repeat (first | apply Kd.R_alloc | apply Kd.R_drewN | apply Kd.R_drew)); exact Kd.R_mono HO391.out (fun _ hk => ⟨hk.1.2, hk.2⟩)⟩, ⟨by (with_reducible repeat (first | apply Kd.R_alloc | apply Kd.R_drewN | apply Kd.R_drew)); exact Kd.R_mono HO394.out (fun _ hk => ⟨hk.1.2, hk.2⟩)⟩, ⟨by (with_reducible repeat (first | apply Kd.R_alloc | apply Kd.R_drewN | apply Kd.R_drew)); exact Kd.R_mono HO400.out (fun _ hk => ⟨hk.1.2, hk.2⟩)⟩, ⟨by (with_reducible repeat (first | apply Kd.R_alloc | apply Kd.R_drewN | apply Kd.R_drew)); exact Kd.R_mono HO403.out (fun _ hk => ⟨hk.1.2, hk.2⟩)⟩, ⟨by (with_reducible repeat (first | apply Kd.R_alloc | apply Kd.R_drewN | apply Kd.R_drew)); exact Kd.R_mono HO409.out (fun _ hk => ⟨hk.1.2, hk.2⟩)⟩, ⟨by (with_reducible repeat (first | apply Kd.R_alloc | apply Kd.R_drewN | apply Kd.R_drew)); exact Kd.R_mono HO412.out (fun _ hk => ⟨hk.1.2, hk.2⟩)⟩, ⟨(zK2 BK396.out)⟩, ⟨(zK2 BK405.out)⟩, ⟨(zK2 BK414.out)⟩, ⟨by repeat (first | (with_reducible first | exact HB.out | apply below_alloc | apply pw_below_drewN | apply below_drew1 | refine below_set ?_ GE396.out | refine below_set ?_ GE405.out | refine below_set ?_ GE414.out) | exact HB.out)⟩⟩
 }
 }
 {
 as_aux_lemma =>
 rw [if_neg c42] at H
 have c42b0 : (t377 == 0) = false := beq_eq_false_iff_ne.mpr c42
 have c42b1 : (t377 != 0) = true := bne_iff_ne.mpr c42
 have H' := ak H
 clear H
 go_wp2
 repeat (go_quiet (fail); try go_wp2)
 refine meetM hJ1_ (by kernel_rfl) ?rel
 case rel => dsimp only [List.getD_cons_succ, List.getD_cons_zero]; exact ⟨_, (true), (by first | rfl | (simp; done) | (simp [*]; done)), H', ⟨by first | omega | exact Nat.le_refl _⟩, ⟨by (with_reducible repeat (first | apply Kd.R_alloc | apply Kd.R_drewN | apply Kd.R_drew)); exact Kd.R_mono HO375.out (fun _ hk => hk.1.2)⟩, ⟨by (with_reducible repeat (first | apply Kd.R_alloc | apply Kd.R_drewN | apply Kd.R_drew)); exact Kd.R_mono HO383.out (fun _ hk => hk.1.1.2)⟩, ⟨by (with_reducible repeat (first | apply Kd.R_alloc | apply Kd.R_drewN | apply Kd.R_drew)); exact Kd.R_mono HO391.out (fun _ hk => ⟨hk.1.2, hk.2⟩)⟩, ⟨by (with_reducible repeat (first | apply Kd.R_alloc | apply Kd.R_drewN | apply Kd.R_drew)); exact Kd.R_mono HO394.out (fun _ hk => ⟨hk.1.2, hk.2⟩)⟩, ⟨by (with_reducible repeat (first | apply Kd.R_alloc | apply Kd.R_drewN | apply Kd.R_drew)); exact Kd.R_mono HO400.out (fun _ hk => ⟨hk.1.2, hk.2⟩)⟩, ⟨by (with_reducible repeat (first | apply Kd.R_alloc | apply Kd.R_drewN | apply Kd.R_drew)); exact Kd.R_mono HO403.out (fun _ hk => ⟨hk.1.2, hk.2⟩)⟩, ⟨by (with_reducible repeat (first | apply Kd.R_alloc | apply Kd.R_drewN | apply Kd.R_drew)); exact Kd.R_mono HO409.out (fun _ hk => ⟨hk.1.2, hk.2⟩)⟩, ⟨by (with_reducible repeat (first | apply Kd.R_alloc | apply Kd.R_drewN | apply Kd.R_drew)); exact Kd.R_mono HO412.out (fun _ hk => ⟨hk.1.2, hk.2⟩)⟩, ⟨(zK2 BK396.out)⟩, ⟨(zK2 BK405.out)⟩, ⟨(zK2 BK414.out)⟩, ⟨by repeat (first | (with_reducible first | exact HB.out | apply below_alloc | apply pw_below_drewN | apply below_drew1 | refine below_set ?_ GE396.out | refine below_set ?_ GE405.out | refine below_set ?_ GE414.out) | exact HB.out)⟩⟩
 }
 }
 {
 as_aux_lemma =>
 rw [if_neg c41] at H
 have c41b0 : (t377 == t381) = false := beq_eq_false_iff_ne.mpr c41
 have c41b1 : (t377 != t381) = true := bne_iff_ne.mpr c41
 (first | rw [c41b0] | (simp only [i64_w, i32_w]; rw [c41b0]) | skip)
 have H' := ak H
 clear H
 go_wp2
 repeat (go_quiet (fail); try go_wp2)
 refine meetM hJ1_ (by kernel_rfl) ?rel
 case rel => dsimp only [List.getD_cons_succ, List.getD_cons_zero]; exact ⟨_, (true), (by first | rfl | (simp; done) | (simp [*]; done)), H', ⟨by first | omega | exact Nat.le_refl _⟩, ⟨by (with_reducible repeat (first | apply Kd.R_alloc | apply Kd.R_drewN | apply Kd.R_drew)); exact Kd.R_mono HO375.out (fun _ hk => hk.1.2)⟩, ⟨by (with_reducible repeat (first | apply Kd.R_alloc | apply Kd.R_drewN | apply Kd.R_drew)); exact Kd.R_mono HO383.out (fun _ hk => hk.1.1.2)⟩, ⟨by (with_reducible repeat (first | apply Kd.R_alloc | apply Kd.R_drewN | apply Kd.R_drew)); exact Kd.R_mono HO391.out (fun _ hk => ⟨hk.1.2, hk.2⟩)⟩, ⟨by (with_reducible repeat (first | apply Kd.R_alloc | apply Kd.R_drewN | apply Kd.R_drew)); exact Kd.R_mono HO394.out (fun _ hk => ⟨hk.1.2, hk.2⟩)⟩, ⟨by (with_reducible repeat (first | apply Kd.R_alloc | apply Kd.R_drewN | apply Kd.R_drew)); exact Kd.R_mono HO400.out (fun _ hk => ⟨hk.1.2, hk.2⟩)⟩, ⟨by (with_reducible repeat (first | apply Kd.R_alloc | apply Kd.R_drewN | apply Kd.R_drew)); exact Kd.R_mono HO403.out (fun _ hk => ⟨hk.1.2, hk.2⟩)⟩, ⟨by (with_reducible repeat (first | apply Kd.R_alloc | apply Kd.R_drewN | apply Kd.R_drew)); exact Kd.R_mono HO409.out (fun _ hk => ⟨hk.1.2, hk.2⟩)⟩, ⟨by (with_reducible repeat (first | apply Kd.R_alloc | apply Kd.R_drewN | apply Kd.R_drew)); exact Kd.R_mono HO412.out (fun _ hk => ⟨hk.1.2, hk.2⟩)⟩, ⟨(zK2 BK396.out)⟩, ⟨(zK2 BK405.out)⟩, ⟨(zK2 BK414.out)⟩, ⟨by repeat (first | (with_reducible first | exact HB.out | apply below_alloc | apply pw_below_drewN | apply below_drew1 | refine below_set ?_ GE396.out | refine below_set ?_ GE405.out | refine below_set ?_ GE414.out) | exact HB.out)⟩⟩
 }
 )
 case rest => (
 intro u1_ wc hcut
 dsimp only [frU, cond, Nat.reduceMod, Nat.reduceDiv, Nat.reduceAdd, Nat.reduceBEq, Nat.reduceEqDiff, beq_self_eq_true]
 clear HC14
 try clear c1
 try clear c4
 try clear hcz23_0
 try clear hcz23_1
 try clear hcz23_2
 try clear hcz29_0
 try clear hcz29_1
 try clear hcz29_2
 try clear hcz36_0
 try clear hcz36_1
 try clear hcz36_2
 try clear hfz23_0
 try clear hfz23_1
 try clear hfz23_2
 try clear hfz29_0
 try clear hfz29_1
 try clear hfz29_2
 try clear hfz36_0
 try clear hfz36_1
 try clear hfz36_2
 obtain ⟨kq, x168_13, eu1_168, HA, HJ13, HO_5, HO_8, HO_397001, HO_397002, HO_406001, HO_406002, HO_415001, HO_415002, BK396, BK405, BK414, HB⟩ := hcut
 rw [eu1_168]
 clear eu1_168
 cases kq with
 | zero => exact absurd HA.out (by simp [laws_FnRecords.j0])
 | succ kj13 => (
 have H := HA.out
 clear HA
 simp only [laws_FnRecords.j0] at H
 by_cases c177 : x168_13 = true
 {
 subst c177
 have H1 : (some false) = some r := by rw [if_pos rfl] at H; exact H
 clear H
 have H := H1
 clear H1
 exact absurd ((Option.some.inj H).trans HT.out) (by decide)
 }
 {
 replace c177 := Bool.eq_false_iff.mpr c177
 subst c177
 have H1 : ((impl_FirstWrongCount.f kj13 t397 t398 t401).bind fun bt425 => (if bt425.2 = 6 then (laws_FnRecords.l0 kj13 l1 t373 t380 t416 t417 (-1) 0 t397 t398 t401) else (some false))) = some r := by rw [if_neg (show ¬ (false = true) by decide)] at H; exact H
 clear H
 have H := H1
 clear H1
 replace H := Option.bind_eq_some_iff.mp H
 obtain ⟨⟨t425, t426⟩, A1780, H⟩ := H
 replace H : (if t426 = 6 then (laws_FnRecords.l0 kj13 l1 t373 t380 t416 t417 (-1) 0 t397 t398 t401) else (some false)) = some r := H
 have A178 := ak A1780
 clear A1780
 by_cases c179 : t426 = 6
 {
 rw [if_pos c179] at H
 have c179b0 : (t426 == 6) = true := beq_iff_eq.mpr c179
 have c179b1 : (t426 != 6) = false := bne_eq_false_iff_eq.mpr c179
 clear c179
 have H' := ak H
 clear H
 have hnb180 := NB405_396.out
 have hnc180 := NB396_405.out
 have hnb181 := NB405_414.out
 have hnc181 := NB414_405.out
 have hcz182_0 : wc.cell? ⟨gb405, 0, none⟩ = some (.int .i64 t397) := (blk_cell BK405.out 0).trans rfl
 have hcz182_1 : wc.cell? ⟨gb405, 1, none⟩ = some (.slice Ao30 t398.length co30) := (blk_cell BK405.out 1).trans rfl
 have hcz182_2 : wc.cell? ⟨gb405, 2, none⟩ = some (.slice Ao31 t401.length co31) := (blk_cell BK405.out 2).trans rfl
 have hfz182_0 := blk_frozen BK405.out 0
 have hfz182_1 := blk_frozen BK405.out 1
 have hfz182_2 := blk_frozen BK405.out 2
 go_wp2_with (first | (go_at_call 16; (with_reducible refine (impl_FirstWrongCount.calls kj13 t397 _ _ t398 _ _ t401 t425 t426 _ ?side1 ?side2 ?side3 ?side4 A178.out).mono ?_); (case side1 => exact sC HO_406001); (case side2 => exact sL HO_406001); (case side3 => exact sC HO_406002); (case side4 => exact sL HO_406002); rintro e w183 ⟨rfl, hb⟩; replace HO_5 := kR HO_5 hb; replace HO_8 := kR HO_8 hb; replace HO_397001 := kR HO_397001 hb; replace HO_397002 := kR HO_397002 hb; replace HO_406001 := kR HO_406001 hb; replace HO_406002 := kR HO_406002 hb; replace HO_415001 := kR HO_415001 hb; replace HO_415002 := kR HO_415002 hb; replace BK396 := kK BK396 hb; replace BK405 := kK BK405 hb; replace BK414 := kK BK414 hb; replace HB := kB3 HB GE396 GE405 GE414 hb; (try clear hb)))
 repeat (go_quiet (fail))
 refine wp_loopM 6901746346790563691653784558158971805054419775276062578991329204764688 kj13 (fun kq (u : Nat → Value) w' => ∃ (x24_2 : Int) (x25_2 : Int), u 24 = .int .i64 x24_2 ∧ u 25 = .int .i64 x25_2 ∧ Aside0 (laws_FnRecords.l0 kq l1 t373 t380 t416 t417 x24_2 x25_2 t397 t398 t401 = some r) ∧ Aside0 (kq ≤ kj13) ∧ Aside0 (Kd.R k44 44 w' w.heap.size (fun k_ => some k_ ≠ ((.slice Ao19 t380.length co19) : Value).ownBlock) (.slice Ao16 t373.length co16) t373) ∧ Aside0 (Kd.R k44 44 w' w.heap.size (fun k_ => some k_ ≠ ((.slice Ao16 t373.length co16) : Value).ownBlock) (.slice Ao19 t380.length co19) t380) ∧ Aside0 (Kd.R (Kd.int .u16) 56 w' w.heap.size (fun k_ => some k_ ≠ ((.slice Ao30 t398.length co30) : Value).ownBlock ∧ some k_ ≠ ((.slice Ao37 t407.length co37) : Value).ownBlock) (.slice Ao24 t389.length co24) t389) ∧ Aside0 (Kd.R (Kd.int .i16) 42 w' w.heap.size (fun k_ => some k_ ≠ ((.slice Ao31 t401.length co31) : Value).ownBlock ∧ some k_ ≠ ((.slice Ao38 t410.length co38) : Value).ownBlock) (.slice Ao25 t392.length co25) t392) ∧ Aside0 (Kd.R (Kd.int .u16) 56 w' w.heap.size (fun k_ => some k_ ≠ ((.slice Ao24 t389.length co24) : Value).ownBlock ∧ some k_ ≠ ((.slice Ao37 t407.length co37) : Value).ownBlock) (.slice Ao30 t398.length co30) t398) ∧ Aside0 (Kd.R (Kd.int .i16) 42 w' w.heap.size (fun k_ => some k_ ≠ ((.slice Ao25 t392.length co25) : Value).ownBlock ∧ some k_ ≠ ((.slice Ao38 t410.length co38) : Value).ownBlock) (.slice Ao31 t401.length co31) t401) ∧ Aside0 (Kd.R (Kd.int .u16) 56 w' w.heap.size (fun k_ => some k_ ≠ ((.slice Ao24 t389.length co24) : Value).ownBlock ∧ some k_ ≠ ((.slice Ao30 t398.length co30) : Value).ownBlock) (.slice Ao37 t407.length co37) t407) ∧ Aside0 (Kd.R (Kd.int .i16) 42 w' w.heap.size (fun k_ => some k_ ≠ ((.slice Ao25 t392.length co25) : Value).ownBlock ∧ some k_ ≠ ((.slice Ao31 t401.length co31) : Value).ownBlock) (.slice Ao38 t410.length co38) t410) ∧ Aside0 (w'.heap[gb396]? = some (.cells #[.int .i64 t388, (.slice Ao24 t389.length co24), (.slice Ao25 t392.length co25)] 31 (0, 0))) ∧ Aside0 (w'.heap[gb405]? = some (.cells #[.int .i64 t397, (.slice Ao30 t398.length co30), (.slice Ao31 t401.length co31)] 31 (0, 0))) ∧ Aside0 (w'.heap[gb414]? = some (.cells #[.int .i64 t406, (.slice Ao37 t407.length co37), (.slice Ao38 t410.length co38)] 31 (0, 0))) ∧ Aside0 (Below w.heap.size w w')) ?atStart ?round
 case atStart => dsimp only [List.getD_cons_succ, List.getD_cons_zero]; exact ⟨((-1)), (0), (by first | rfl | (simp; done) | (simp [*]; done)), (by first | rfl | (simp; done) | (simp [*]; done)), H', ⟨Nat.le_refl _⟩, ⟨(zR HO_5.out)⟩, ⟨(zR HO_8.out)⟩, ⟨(zR HO_397001.out)⟩, ⟨(zR HO_397002.out)⟩, ⟨(zR HO_406001.out)⟩, ⟨(zR HO_406002.out)⟩, ⟨(zR HO_415001.out)⟩, ⟨(zR HO_415002.out)⟩, ⟨(zK2 BK396.out)⟩, ⟨(zK2 BK405.out)⟩, ⟨(zK2 BK414.out)⟩, ⟨by repeat (first | (with_reducible first | exact HB.out | apply below_alloc | apply pw_below_drewN | apply below_drew1 | refine below_set ?_ GE396.out | refine below_set ?_ GE405.out | refine below_set ?_ GE414.out) | exact HB.out)⟩⟩
 case round => (
 intro gk u2_ wr hrel J_ K_ hJ2_ hK_
 dsimp only [frU, cond, Nat.reduceMod, Nat.reduceDiv, Nat.reduceAdd, Nat.reduceBEq, Nat.reduceEqDiff, beq_self_eq_true]
 clear H'
 try clear c1
 try clear c4
 try clear c177
 try clear c179
 try clear c179b0
 try clear c179b1
 try clear hcz182_0
 try clear hcz182_1
 try clear hcz182_2
 try clear hcz23_0
 try clear hcz23_1
 try clear hcz23_2
 try clear hcz29_0
 try clear hcz29_1
 try clear hcz29_2
 try clear hcz36_0
 try clear hcz36_1
 try clear hcz36_2
 try clear hfz182_0
 try clear hfz182_1
 try clear hfz182_2
 try clear hfz23_0
 try clear hfz23_1
 try clear hfz23_2
 try clear hfz29_0
 try clear hfz29_1
 try clear hfz29_2
 try clear hfz36_0
 try clear hfz36_1
 try clear hfz36_2
 obtain ⟨x24_2, x25_2, eu2_24, eu2_25, HA, HK2, HO_5, HO_8, HO_397001, HO_397002, HO_406001, HO_406002, HO_415001, HO_415002, BK396, BK405, BK414, HB⟩ := hrel
 rw [eu2_24]
 clear eu2_24
 rw [eu2_25]
 clear eu2_25
 cases gk with
 | zero => exact absurd HA.out (by simp [laws_FnRecords.l0])
 | succ k2 => (
 have H := HA.out
 clear HA
 simp only [laws_FnRecords.l0] at H
 by_cases c184 : x25_2 < (t380.length : Int)
 {
 rw [if_pos c184] at H
 have c184b0 : decide (x25_2 < (t380.length : Int)) = true := decide_eq_true c184
 clear c184
 have HC185 := ak H
 clear H
 go_upto_region 21 with (fail)
 repeat (go_quiet (fail); go_upto_region 21 with (fail))
 refine wp_cutM 6901746346790563691653784558158971805054419775276062578991329087324160 (fun (u : Nat → Value) wc => ∃ (kq : Nat) (x197_184 : Bool), u 197 = .bool x197_184 ∧ Aside0 (laws_FnRecords.j2 kq l1 t373 t380 t416 t417 x24_2 x25_2 x197_184 t397 t398 t401 = some r) ∧ Aside0 (kq ≤ k2) ∧ Aside0 (Kd.R k44 44 wc w.heap.size (fun k_ => some k_ ≠ ((.slice Ao19 t380.length co19) : Value).ownBlock) (.slice Ao16 t373.length co16) t373) ∧ Aside0 (Kd.R k44 44 wc w.heap.size (fun k_ => some k_ ≠ ((.slice Ao16 t373.length co16) : Value).ownBlock) (.slice Ao19 t380.length co19) t380) ∧ Aside0 (Kd.R (Kd.int .u16) 56 wc w.heap.size (fun k_ => some k_ ≠ ((.slice Ao30 t398.length co30) : Value).ownBlock ∧ some k_ ≠ ((.slice Ao37 t407.length co37) : Value).ownBlock) (.slice Ao24 t389.length co24) t389) ∧ Aside0 (Kd.R (Kd.int .i16) 42 wc w.heap.size (fun k_ => some k_ ≠ ((.slice Ao31 t401.length co31) : Value).ownBlock ∧ some k_ ≠ ((.slice Ao38 t410.length co38) : Value).ownBlock) (.slice Ao25 t392.length co25) t392) ∧ Aside0 (Kd.R (Kd.int .u16) 56 wc w.heap.size (fun k_ => some k_ ≠ ((.slice Ao24 t389.length co24) : Value).ownBlock ∧ some k_ ≠ ((.slice Ao37 t407.length co37) : Value).ownBlock) (.slice Ao30 t398.length co30) t398) ∧ Aside0 (Kd.R (Kd.int .i16) 42 wc w.heap.size (fun k_ => some k_ ≠ ((.slice Ao25 t392.length co25) : Value).ownBlock ∧ some k_ ≠ ((.slice Ao38 t410.length co38) : Value).ownBlock) (.slice Ao31 t401.length co31) t401) ∧ Aside0 (Kd.R (Kd.int .u16) 56 wc w.heap.size (fun k_ => some k_ ≠ ((.slice Ao24 t389.length co24) : Value).ownBlock ∧ some k_ ≠ ((.slice Ao30 t398.length co30) : Value).ownBlock) (.slice Ao37 t407.length co37) t407) ∧ Aside0 (Kd.R (Kd.int .i16) 42 wc w.heap.size (fun k_ => some k_ ≠ ((.slice Ao25 t392.length co25) : Value).ownBlock ∧ some k_ ≠ ((.slice Ao31 t401.length co31) : Value).ownBlock) (.slice Ao38 t410.length co38) t410) ∧ Aside0 (wc.heap[gb396]? = some (.cells #[.int .i64 t388, (.slice Ao24 t389.length co24), (.slice Ao25 t392.length co25)] 31 (0, 0))) ∧ Aside0 (wc.heap[gb405]? = some (.cells #[.int .i64 t397, (.slice Ao30 t398.length co30), (.slice Ao31 t401.length co31)] 31 (0, 0))) ∧ Aside0 (wc.heap[gb414]? = some (.cells #[.int .i64 t406, (.slice Ao37 t407.length co37), (.slice Ao38 t410.length co38)] 31 (0, 0))) ∧ Aside0 (Below w.heap.size w wc)) ?first ?rest
 case first => (
 intro J_ K_ hJ3_ hK_
 have H := HC185.out
 clear HC185
 by_cases c186 : x25_2 > 0
 {
 rw [if_pos c186] at H
 have c186b0 : decide (0 < x25_2) = true := decide_eq_true c186
 clear c186
 (first | rw [c186b0] | (simp only [i64_w, i32_w]; rw [c186b0]) | skip)
 by_cases c187 : 0 ≤ x25_2
 {
 rw [if_pos c187] at H
 have c187b0 : decide (0 ≤ x25_2) = true := decide_eq_true c187
 clear c187
 obtain ⟨ji188, hji188⟩ : ∃ j_ : Int, (wrap64 (x25_2 - 1)) = j_ := ⟨_, rfl⟩
 replace H : (if 0 ≤ (ji188) then (if (ji188) < (t380.length : Int) then (laws_FnRecords.j2 k2 l1 t373 t380 t416 t417 x24_2 x25_2 (decide (((rd_T44 t380 x25_2).f2) < ((rd_T44 t380 (ji188)).f2))) t397 t398 t401) else (none)) else (none)) = some r := by first | (rw [hji188] at H; exact H) | (simp only [hji188] at H ⊢; exact H)
 have hji188w : (IntKind.i64.wrap (x25_2 - 1)) = ji188 := (i64_w _).trans hji188
 by_cases c189 : 0 ≤ (ji188)
 {
 rw [if_pos c189] at H
 have c189b0 : decide (0 ≤ (ji188)) = true := decide_eq_true c189
 clear c189
 by_cases c190 : (ji188) < (t380.length : Int)
 {
 rw [if_pos c190] at H
 have c190b0 : decide ((ji188) < (t380.length : Int)) = true := decide_eq_true c190
 clear c190
 have H' := ak H
 clear H
 have p427 : 0 ≤ (x25_2 : Int) := of_decide_eq_true (by first | (with_reducible assumption) | assumption)
 have q427 : x25_2 < (t380.length : Int) := of_decide_eq_true (by first | (with_reducible assumption) | assumption)
 obtain ⟨ad427, e427, hx427_0, hx427_1, hx427_2⟩ := at_T44 (Kd.R_reads' HO_8.out).2.2 x25_2 p427 q427
 cases e427
 replace p427 := eq_true p427
 replace q427 := eq_true q427
 have p428 : 0 ≤ ((ji188) : Int) := of_decide_eq_true (by first | (with_reducible assumption) | assumption)
 have q428 : (ji188) < (t380.length : Int) := of_decide_eq_true (by first | (with_reducible assumption) | assumption)
 obtain ⟨ad428, e428, hx428_0, hx428_1, hx428_2⟩ := at_T44 (Kd.R_reads' HO_8.out).2.2 (ji188) p428 q428
 obtain rfl : ad427 = ad428 := (by injection e428)
 replace p428 := eq_true p428
 replace q428 := eq_true q428
 go_wp2
 repeat (go_quiet (fail); try go_wp2)
 refine meetM hJ3_ (by kernel_rfl) ?rel
 case rel => dsimp only [List.getD_cons_succ, List.getD_cons_zero]; exact ⟨_, (decide (((rd_T44 t380 x25_2).f2) < ((rd_T44 t380 (ji188)).f2))), (by first | rfl | (simp; done) | (simp only [← hji188] <;> (first | rfl | simp)) | (simp [*]; done)), H', ⟨by have := HJ13.out; have := HK2.out; first | omega | exact Nat.le_refl _⟩, ⟨(zR HO_5.out)⟩, ⟨(zR HO_8.out)⟩, ⟨(zR HO_397001.out)⟩, ⟨(zR HO_397002.out)⟩, ⟨(zR HO_406001.out)⟩, ⟨(zR HO_406002.out)⟩, ⟨(zR HO_415001.out)⟩, ⟨(zR HO_415002.out)⟩, ⟨(zK2 BK396.out)⟩, ⟨(zK2 BK405.out)⟩, ⟨(zK2 BK414.out)⟩, ⟨by repeat (first | (with_reducible first | exact HB.out | apply below_alloc | apply pw_below_drewN | apply below_drew1 | refine below_set ?_ GE396.out | refine below_set ?_ GE405.out | refine below_set ?_ GE414.out) | exact HB.out)⟩⟩
 }
 · rw [if_neg c190] at H; exact absurd H (by simp)
 }
 · rw [if_neg c189] at H; exact absurd H (by simp)
 }
 · rw [if_neg c187] at H; exact absurd H (by simp)
 }
 {
 rw [if_neg c186] at H
 have c186b0 : decide (0 < x25_2) = false := decide_eq_false c186
 clear c186
 (first | rw [c186b0] | (simp only [i64_w, i32_w]; rw [c186b0]) | skip)
 have H' := ak H
 clear H
 go_wp2
 repeat (go_quiet (fail); try go_wp2)
 refine meetM hJ3_ (by kernel_rfl) ?rel
 case rel => dsimp only [List.getD_cons_succ, List.getD_cons_zero]; exact ⟨_, (false), (by first | rfl | (simp; done) | (simp [*]; done)), H', ⟨by have := HJ13.out; have := HK2.out; first | omega | exact Nat.le_refl _⟩, ⟨(zR HO_5.out)⟩, ⟨(zR HO_8.out)⟩, ⟨(zR HO_397001.out)⟩, ⟨(zR HO_397002.out)⟩, ⟨(zR HO_406001.out)⟩, ⟨(zR HO_406002.out)⟩, ⟨(zR HO_415001.out)⟩, ⟨(zR HO_415002.out)⟩, ⟨(zK2 BK396.out)⟩, ⟨(zK2 BK405.out)⟩, ⟨(zK2 BK414.out)⟩, ⟨by repeat (first | (with_reducible first | exact HB.out | apply below_alloc | apply pw_below_drewN | apply below_drew1 | refine below_set ?_ GE396.out | refine below_set ?_ GE405.out | refine below_set ?_ GE414.out) | exact HB.out)⟩⟩
 }
 )
 case rest => (
 as_aux_lemma =>
 intro u3_ wc hcut
 dsimp only [frU, cond, Nat.reduceMod, Nat.reduceDiv, Nat.reduceAdd, Nat.reduceBEq, Nat.reduceEqDiff, beq_self_eq_true]
 clear HC185
 try clear c1
 try clear c4
 try clear c177
 try clear c179
 try clear c179b0
 try clear c179b1
 try clear c184
 try clear c184b0
 try clear hcz182_0
 try clear hcz182_1
 try clear hcz182_2
 try clear hcz23_0
 try clear hcz23_1
 try clear hcz23_2
 try clear hcz29_0
 try clear hcz29_1
 try clear hcz29_2
 try clear hcz36_0
 try clear hcz36_1
 try clear hcz36_2
 try clear hfz182_0
 try clear hfz182_1
 try clear hfz182_2
 try clear hfz23_0
 try clear hfz23_1
 try clear hfz23_2
 try clear hfz29_0
 try clear hfz29_1
 try clear hfz29_2
 try clear hfz36_0
 try clear hfz36_1
 try clear hfz36_2
 obtain ⟨kq, x197_184, eu3_197, HA, HJ184, HO_5, HO_8, HO_397001, HO_397002, HO_406001, HO_406002, HO_415001, HO_415002, BK396, BK405, BK414, HB⟩ := hcut
 rw [eu3_197]
 clear eu3_197
 cases kq with
 | zero => exact absurd HA.out (by simp [laws_FnRecords.j2])
 | succ kj184 => (
 have H := HA.out
 clear HA
 simp only [laws_FnRecords.j2] at H
 by_cases c191 : x197_184 = true
 {
 subst c191
 have H1 : (some false) = some r := by rw [if_pos rfl] at H; exact H
 clear H
 have H := H1
 clear H1
 exact absurd ((Option.some.inj H).trans HT.out) (by decide)
 }
 {
 replace c191 := Bool.eq_false_iff.mpr c191
 subst c191
 have H1 : (laws_FnRecords.l1 kj184 l1 t373 t380 t416 t417 x24_2 x25_2 0 t397 t398 t401) = some r := by rw [if_neg (show ¬ (false = true) by decide)] at H; exact H
 clear H
 have H := H1
 clear H1
 have H' := ak H
 clear H
 go_wp2
 repeat (go_quiet (fail); try go_wp2)
 refine wp_loopM 6901746346388829276370008293391534929365818321539835806716826098860032 kj184 (fun kq (u : Nat → Value) w' => ∃ (x24_4 : Int) (x26_4 : Int), u 24 = .int .i64 x24_4 ∧ u 26 = .int .i64 x26_4 ∧ Aside0 (laws_FnRecords.l1 kq l1 t373 t380 t416 t417 x24_4 x25_2 x26_4 t397 t398 t401 = some r) ∧ Aside0 (kq ≤ kj184) ∧ Aside0 (Kd.R k44 44 w' w.heap.size (fun k_ => some k_ ≠ ((.slice Ao19 t380.length co19) : Value).ownBlock) (.slice Ao16 t373.length co16) t373) ∧ Aside0 (Kd.R k44 44 w' w.heap.size (fun k_ => some k_ ≠ ((.slice Ao16 t373.length co16) : Value).ownBlock) (.slice Ao19 t380.length co19) t380) ∧ Aside0 (Kd.R (Kd.int .u16) 56 w' w.heap.size (fun k_ => some k_ ≠ ((.slice Ao30 t398.length co30) : Value).ownBlock ∧ some k_ ≠ ((.slice Ao37 t407.length co37) : Value).ownBlock) (.slice Ao24 t389.length co24) t389) ∧ Aside0 (Kd.R (Kd.int .i16) 42 w' w.heap.size (fun k_ => some k_ ≠ ((.slice Ao31 t401.length co31) : Value).ownBlock ∧ some k_ ≠ ((.slice Ao38 t410.length co38) : Value).ownBlock) (.slice Ao25 t392.length co25) t392) ∧ Aside0 (Kd.R (Kd.int .u16) 56 w' w.heap.size (fun k_ => some k_ ≠ ((.slice Ao24 t389.length co24) : Value).ownBlock ∧ some k_ ≠ ((.slice Ao37 t407.length co37) : Value).ownBlock) (.slice Ao30 t398.length co30) t398) ∧ Aside0 (Kd.R (Kd.int .i16) 42 w' w.heap.size (fun k_ => some k_ ≠ ((.slice Ao25 t392.length co25) : Value).ownBlock ∧ some k_ ≠ ((.slice Ao38 t410.length co38) : Value).ownBlock) (.slice Ao31 t401.length co31) t401) ∧ Aside0 (Kd.R (Kd.int .u16) 56 w' w.heap.size (fun k_ => some k_ ≠ ((.slice Ao24 t389.length co24) : Value).ownBlock ∧ some k_ ≠ ((.slice Ao30 t398.length co30) : Value).ownBlock) (.slice Ao37 t407.length co37) t407) ∧ Aside0 (Kd.R (Kd.int .i16) 42 w' w.heap.size (fun k_ => some k_ ≠ ((.slice Ao25 t392.length co25) : Value).ownBlock ∧ some k_ ≠ ((.slice Ao31 t401.length co31) : Value).ownBlock) (.slice Ao38 t410.length co38) t410) ∧ Aside0 (w'.heap[gb396]? = some (.cells #[.int .i64 t388, (.slice Ao24 t389.length co24), (.slice Ao25 t392.length co25)] 31 (0, 0))) ∧ Aside0 (w'.heap[gb405]? = some (.cells #[.int .i64 t397, (.slice Ao30 t398.length co30), (.slice Ao31 t401.length co31)] 31 (0, 0))) ∧ Aside0 (w'.heap[gb414]? = some (.cells #[.int .i64 t406, (.slice Ao37 t407.length co37), (.slice Ao38 t410.length co38)] 31 (0, 0))) ∧ Aside0 (Below w.heap.size w w')) ?atStart ?round
 case atStart => dsimp only [List.getD_cons_succ, List.getD_cons_zero]; exact ⟨(x24_2), (0), (by first | rfl | (simp; done) | (simp [*]; done)), (by first | rfl | (simp; done) | (simp [*]; done)), H', ⟨Nat.le_refl _⟩, ⟨(zR HO_5.out)⟩, ⟨(zR HO_8.out)⟩, ⟨(zR HO_397001.out)⟩, ⟨(zR HO_397002.out)⟩, ⟨(zR HO_406001.out)⟩, ⟨(zR HO_406002.out)⟩, ⟨(zR HO_415001.out)⟩, ⟨(zR HO_415002.out)⟩, ⟨(zK2 BK396.out)⟩, ⟨(zK2 BK405.out)⟩, ⟨(zK2 BK414.out)⟩, ⟨by repeat (first | (with_reducible first | exact HB.out | apply below_alloc | apply pw_below_drewN | apply below_drew1 | refine below_set ?_ GE396.out | refine below_set ?_ GE405.out | refine below_set ?_ GE414.out) | exact HB.out)⟩⟩
 case round => (
 intro gk u4_ wr hrel J_ K_ hJ4_ hK_
 dsimp only [frU, cond, Nat.reduceMod, Nat.reduceDiv, Nat.reduceAdd, Nat.reduceBEq, Nat.reduceEqDiff, beq_self_eq_true]
 clear H'
 try clear c1
 try clear c4
 try clear c177
 try clear c179
 try clear c179b0
 try clear c179b1
 try clear c184
 try clear c184b0
 try clear c191
 try clear hcz182_0
 try clear hcz182_1
 try clear hcz182_2
 try clear hcz23_0
 try clear hcz23_1
 try clear hcz23_2
 try clear hcz29_0
 try clear hcz29_1
 try clear hcz29_2
 try clear hcz36_0
 try clear hcz36_1
 try clear hcz36_2
 try clear hfz182_0
 try clear hfz182_1
 try clear hfz182_2
 try clear hfz23_0
 try clear hfz23_1
 try clear hfz23_2
 try clear hfz29_0
 try clear hfz29_1
 try clear hfz29_2
 try clear hfz36_0
 try clear hfz36_1
 try clear hfz36_2
 obtain ⟨x24_4, x26_4, eu4_24, eu4_26, HA, HK4, HO_5, HO_8, HO_397001, HO_397002, HO_406001, HO_406002, HO_415001, HO_415002, BK396, BK405, BK414, HB⟩ := hrel
 rw [eu4_24]
 clear eu4_24
 rw [eu4_26]
 clear eu4_26
 cases gk with
 | zero => exact absurd HA.out (by simp [laws_FnRecords.l1])
 | succ k4 => (
 have H := HA.out
 clear HA
 simp only [laws_FnRecords.l1] at H
 have HC192 := ak H
 clear H
 go_upto_region 24 with (fail)
 repeat (go_quiet (fail); go_upto_region 24 with (fail))
 refine wp_cutM 6901746346388829276370008293391534929365818321539835806716826014973952 (fun (u : Nat → Value) wc => ∃ (kq : Nat) (x204_191 : Bool), u 204 = .bool x204_191 ∧ Aside0 (laws_FnRecords.j4 kq l1 t373 t380 t416 t417 x24_4 x25_2 x26_4 x204_191 t397 t398 t401 = some r) ∧ Aside0 (kq ≤ k4) ∧ Aside0 (Kd.R k44 44 wc w.heap.size (fun k_ => some k_ ≠ ((.slice Ao19 t380.length co19) : Value).ownBlock) (.slice Ao16 t373.length co16) t373) ∧ Aside0 (Kd.R k44 44 wc w.heap.size (fun k_ => some k_ ≠ ((.slice Ao16 t373.length co16) : Value).ownBlock) (.slice Ao19 t380.length co19) t380) ∧ Aside0 (Kd.R (Kd.int .u16) 56 wc w.heap.size (fun k_ => some k_ ≠ ((.slice Ao30 t398.length co30) : Value).ownBlock ∧ some k_ ≠ ((.slice Ao37 t407.length co37) : Value).ownBlock) (.slice Ao24 t389.length co24) t389) ∧ Aside0 (Kd.R (Kd.int .i16) 42 wc w.heap.size (fun k_ => some k_ ≠ ((.slice Ao31 t401.length co31) : Value).ownBlock ∧ some k_ ≠ ((.slice Ao38 t410.length co38) : Value).ownBlock) (.slice Ao25 t392.length co25) t392) ∧ Aside0 (Kd.R (Kd.int .u16) 56 wc w.heap.size (fun k_ => some k_ ≠ ((.slice Ao24 t389.length co24) : Value).ownBlock ∧ some k_ ≠ ((.slice Ao37 t407.length co37) : Value).ownBlock) (.slice Ao30 t398.length co30) t398) ∧ Aside0 (Kd.R (Kd.int .i16) 42 wc w.heap.size (fun k_ => some k_ ≠ ((.slice Ao25 t392.length co25) : Value).ownBlock ∧ some k_ ≠ ((.slice Ao38 t410.length co38) : Value).ownBlock) (.slice Ao31 t401.length co31) t401) ∧ Aside0 (Kd.R (Kd.int .u16) 56 wc w.heap.size (fun k_ => some k_ ≠ ((.slice Ao24 t389.length co24) : Value).ownBlock ∧ some k_ ≠ ((.slice Ao30 t398.length co30) : Value).ownBlock) (.slice Ao37 t407.length co37) t407) ∧ Aside0 (Kd.R (Kd.int .i16) 42 wc w.heap.size (fun k_ => some k_ ≠ ((.slice Ao25 t392.length co25) : Value).ownBlock ∧ some k_ ≠ ((.slice Ao31 t401.length co31) : Value).ownBlock) (.slice Ao38 t410.length co38) t410) ∧ Aside0 (wc.heap[gb396]? = some (.cells #[.int .i64 t388, (.slice Ao24 t389.length co24), (.slice Ao25 t392.length co25)] 31 (0, 0))) ∧ Aside0 (wc.heap[gb405]? = some (.cells #[.int .i64 t397, (.slice Ao30 t398.length co30), (.slice Ao31 t401.length co31)] 31 (0, 0))) ∧ Aside0 (wc.heap[gb414]? = some (.cells #[.int .i64 t406, (.slice Ao37 t407.length co37), (.slice Ao38 t410.length co38)] 31 (0, 0))) ∧ Aside0 (Below w.heap.size w wc)) ?first ?rest
 case first => (
 intro J_ K_ hJ5_ hK_
 have H := HC192.out
 clear HC192
 by_cases c193 : x26_4 < x25_2
 {
 rw [if_pos c193] at H
 have c193b0 : decide (x26_4 < x25_2) = true := decide_eq_true c193
 clear c193
 (first | rw [c193b0] | (simp only [i64_w, i32_w]; rw [c193b0]) | skip)
 have H' := ak H
 clear H
 go_wp2
 repeat (go_quiet (fail); try go_wp2)
 refine meetM hJ5_ (by kernel_rfl) ?rel
 case rel => dsimp only [List.getD_cons_succ, List.getD_cons_zero]; exact ⟨_, (decide (x24_4 < 0)), (by first | rfl | (simp; done) | (simp [*]; done)), H', ⟨by have := HJ13.out; have := HK2.out; have := HJ184.out; have := HK4.out; first | omega | exact Nat.le_refl _⟩, ⟨(zR HO_5.out)⟩, ⟨(zR HO_8.out)⟩, ⟨(zR HO_397001.out)⟩, ⟨(zR HO_397002.out)⟩, ⟨(zR HO_406001.out)⟩, ⟨(zR HO_406002.out)⟩, ⟨(zR HO_415001.out)⟩, ⟨(zR HO_415002.out)⟩, ⟨(zK2 BK396.out)⟩, ⟨(zK2 BK405.out)⟩, ⟨(zK2 BK414.out)⟩, ⟨by repeat (first | (with_reducible first | exact HB.out | apply below_alloc | apply pw_below_drewN | apply below_drew1 | refine below_set ?_ GE396.out | refine below_set ?_ GE405.out | refine below_set ?_ GE414.out) | exact HB.out)⟩⟩
 }
 {
 rw [if_neg c193] at H
 have c193b0 : decide (x26_4 < x25_2) = false := decide_eq_false c193
 clear c193
 (first | rw [c193b0] | (simp only [i64_w, i32_w]; rw [c193b0]) | skip)
 have H' := ak H
 clear H
 go_wp2
 repeat (go_quiet (fail); try go_wp2)
 refine meetM hJ5_ (by kernel_rfl) ?rel
 case rel => dsimp only [List.getD_cons_succ, List.getD_cons_zero]; exact ⟨_, (false), (by first | rfl | (simp; done) | (simp [*]; done)), H', ⟨by have := HJ13.out; have := HK2.out; have := HJ184.out; have := HK4.out; first | omega | exact Nat.le_refl _⟩, ⟨(zR HO_5.out)⟩, ⟨(zR HO_8.out)⟩, ⟨(zR HO_397001.out)⟩, ⟨(zR HO_397002.out)⟩, ⟨(zR HO_406001.out)⟩, ⟨(zR HO_406002.out)⟩, ⟨(zR HO_415001.out)⟩, ⟨(zR HO_415002.out)⟩, ⟨(zK2 BK396.out)⟩, ⟨(zK2 BK405.out)⟩, ⟨(zK2 BK414.out)⟩, ⟨by repeat (first | (with_reducible first | exact HB.out | apply below_alloc | apply pw_below_drewN | apply below_drew1 | refine below_set ?_ GE396.out | refine below_set ?_ GE405.out | refine below_set ?_ GE414.out) | exact HB.out)⟩⟩
 }
 )
 case rest => (
 intro u5_ wc hcut
 dsimp only [frU, cond, Nat.reduceMod, Nat.reduceDiv, Nat.reduceAdd, Nat.reduceBEq, Nat.reduceEqDiff, beq_self_eq_true]
 clear HC192
 try clear c1
 try clear c4
 try clear c177
 try clear c179
 try clear c179b0
 try clear c179b1
 try clear c184
 try clear c184b0
 try clear c191
 try clear hcz182_0
 try clear hcz182_1
 try clear hcz182_2
 try clear hcz23_0
 try clear hcz23_1
 try clear hcz23_2
 try clear hcz29_0
 try clear hcz29_1
 try clear hcz29_2
 try clear hcz36_0
 try clear hcz36_1
 try clear hcz36_2
 try clear hfz182_0
 try clear hfz182_1
 try clear hfz182_2
 try clear hfz23_0
 try clear hfz23_1
 try clear hfz23_2
 try clear hfz29_0
 try clear hfz29_1
 try clear hfz29_2
 try clear hfz36_0
 try clear hfz36_1
 try clear hfz36_2
 obtain ⟨kq, x204_191, eu5_204, HA, HJ191, HO_5, HO_8, HO_397001, HO_397002, HO_406001, HO_406002, HO_415001, HO_415002, BK396, BK405, BK414, HB⟩ := hcut
 rw [eu5_204]
 clear eu5_204
 cases kq with
 | zero => exact absurd HA.out (by simp [laws_FnRecords.j4])
 | succ kj191 => (
 have H := HA.out
 clear HA
 simp only [laws_FnRecords.j4] at H
 by_cases c194 : x204_191 = true
 {
 subst c194
 have H1 : (if 0 ≤ x26_4 then (if x26_4 < (t380.length : Int) then (if 0 ≤ x25_2 then (if x25_2 < (t380.length : Int) then (if ((rd_T44 t380 x26_4).f0) = ((rd_T44 t380 x25_2).f0) then (if ((rd_T44 t380 x26_4).f1) > ((rd_T44 t380 x25_2).f1) then (laws_FnRecords.l1 kj191 l1 t373 t380 t416 t417 x25_2 x25_2 (wrap64 (x26_4 + 1)) t397 t398 t401) else (laws_FnRecords.l1 kj191 l1 t373 t380 t416 t417 x24_4 x25_2 (wrap64 (x26_4 + 1)) t397 t398 t401)) else (laws_FnRecords.l1 kj191 l1 t373 t380 t416 t417 x24_4 x25_2 (wrap64 (x26_4 + 1)) t397 t398 t401)) else (none)) else (none)) else (none)) else (none)) = some r := by rw [if_pos rfl] at H; exact H
 clear H
 have H := H1
 clear H1
 by_cases c195 : 0 ≤ x26_4
 {
 rw [if_pos c195] at H
 have c195b0 : decide (0 ≤ x26_4) = true := decide_eq_true c195
 clear c195
 by_cases c196 : x26_4 < (t380.length : Int)
 {
 rw [if_pos c196] at H
 have c196b0 : decide (x26_4 < (t380.length : Int)) = true := decide_eq_true c196
 clear c196
 by_cases c197 : 0 ≤ x25_2
 {
 rw [if_pos c197] at H
 have c197b0 : decide (0 ≤ x25_2) = true := decide_eq_true c197
 clear c197
 by_cases c198 : x25_2 < (t380.length : Int)
 {
 rw [if_pos c198] at H
 have c198b0 : decide (x25_2 < (t380.length : Int)) = true := decide_eq_true c198
 clear c198
 by_cases c199 : ((rd_T44 t380 x26_4).f0) = ((rd_T44 t380 x25_2).f0)
 {
 rw [if_pos c199] at H
 have c199b0 : (((rd_T44 t380 x26_4).f0) == ((rd_T44 t380 x25_2).f0)) = true := beq_iff_eq.mpr c199
 have c199b1 : (((rd_T44 t380 x26_4).f0) != ((rd_T44 t380 x25_2).f0)) = false := bne_eq_false_iff_eq.mpr c199
 clear c199
 by_cases c200 : ((rd_T44 t380 x26_4).f1) > ((rd_T44 t380 x25_2).f1)
 {
 rw [if_pos c200] at H
 have c200b0 : decide (((rd_T44 t380 x25_2).f1) < ((rd_T44 t380 x26_4).f1)) = true := decide_eq_true c200
 clear c200
 have H' := ak H
 clear H
 have p429 : 0 ≤ (x26_4 : Int) := of_decide_eq_true (by first | (with_reducible assumption) | assumption)
 have q429 : x26_4 < (t380.length : Int) := of_decide_eq_true (by first | (with_reducible assumption) | assumption)
 obtain ⟨ad429, e429, hx429_0, hx429_1, hx429_2⟩ := at_T44 (Kd.R_reads' HO_8.out).2.2 x26_4 p429 q429
 cases e429
 replace p429 := eq_true p429
 replace q429 := eq_true q429
 have p430 : 0 ≤ (x25_2 : Int) := of_decide_eq_true (by first | (with_reducible assumption) | assumption)
 have q430 : x25_2 < (t380.length : Int) := of_decide_eq_true (by first | (with_reducible assumption) | assumption)
 obtain ⟨ad430, e430, hx430_0, hx430_1, hx430_2⟩ := at_T44 (Kd.R_reads' HO_8.out).2.2 x25_2 p430 q430
 obtain rfl : ad429 = ad430 := (by injection e430)
 replace p430 := eq_true p430
 replace q430 := eq_true q430
 have p431 : 0 ≤ (x26_4 : Int) := of_decide_eq_true (by first | (with_reducible assumption) | assumption)
 have q431 : x26_4 < (t380.length : Int) := of_decide_eq_true (by first | (with_reducible assumption) | assumption)
 obtain ⟨ad431, e431, hx431_0, hx431_1, hx431_2⟩ := at_T44 (Kd.R_reads' HO_8.out).2.2 x26_4 p431 q431
 obtain rfl : ad429 = ad431 := (by injection e431)
 replace p431 := eq_true p431
 replace q431 := eq_true q431
 have p432 : 0 ≤ (x25_2 : Int) := of_decide_eq_true (by first | (with_reducible assumption) | assumption)
 have q432 : x25_2 < (t380.length : Int) := of_decide_eq_true (by first | (with_reducible assumption) | assumption)
 obtain ⟨ad432, e432, hx432_0, hx432_1, hx432_2⟩ := at_T44 (Kd.R_reads' HO_8.out).2.2 x25_2 p432 q432
 obtain rfl : ad429 = ad432 := (by injection e432)
 replace p432 := eq_true p432
 replace q432 := eq_true q432
 go_wp2
 repeat (go_quiet (fail); try go_wp2)
 refine handM kj191 hJ4_ ?measure (by kernel_rfl) ?rel
 case measure => have := HJ13.out; have := HK2.out; have := HJ184.out; have := HK4.out; have := HJ191.out; omega
 case rel => dsimp only [List.getD_cons_succ, List.getD_cons_zero]; exact ⟨(x25_2), (wrap64 (x26_4 + 1)), (by first | rfl | (simp; done) | (simp [*]; done)), (by first | rfl | (simp; done) | (simp [*]; done)), H', ⟨by have := HJ13.out; have := HK2.out; have := HJ184.out; have := HK4.out; have := HJ191.out; omega⟩, ⟨(zR HO_5.out)⟩, ⟨(zR HO_8.out)⟩, ⟨(zR HO_397001.out)⟩, ⟨(zR HO_397002.out)⟩, ⟨(zR HO_406001.out)⟩, ⟨(zR HO_406002.out)⟩, ⟨(zR HO_415001.out)⟩, ⟨(zR HO_415002.out)⟩, ⟨(zK2 BK396.out)⟩, ⟨(zK2 BK405.out)⟩, ⟨(zK2 BK414.out)⟩, ⟨by repeat (first | (with_reducible first | exact HB.out | apply below_alloc | apply pw_below_drewN | apply below_drew1 | refine below_set ?_ GE396.out | refine below_set ?_ GE405.out | refine below_set ?_ GE414.out) | exact HB.out)⟩⟩
 }
 {
 rw [if_neg c200] at H
 have c200b0 : decide (((rd_T44 t380 x25_2).f1) < ((rd_T44 t380 x26_4).f1)) = false := decide_eq_false c200
 clear c200
 have H' := ak H
 clear H
 have p429 : 0 ≤ (x26_4 : Int) := of_decide_eq_true (by first | (with_reducible assumption) | assumption)
 have q429 : x26_4 < (t380.length : Int) := of_decide_eq_true (by first | (with_reducible assumption) | assumption)
 obtain ⟨ad429, e429, hx429_0, hx429_1, hx429_2⟩ := at_T44 (Kd.R_reads' HO_8.out).2.2 x26_4 p429 q429
 cases e429
 replace p429 := eq_true p429
 replace q429 := eq_true q429
 have p430 : 0 ≤ (x25_2 : Int) := of_decide_eq_true (by first | (with_reducible assumption) | assumption)
 have q430 : x25_2 < (t380.length : Int) := of_decide_eq_true (by first | (with_reducible assumption) | assumption)
 obtain ⟨ad430, e430, hx430_0, hx430_1, hx430_2⟩ := at_T44 (Kd.R_reads' HO_8.out).2.2 x25_2 p430 q430
 obtain rfl : ad429 = ad430 := (by injection e430)
 replace p430 := eq_true p430
 replace q430 := eq_true q430
 have p431 : 0 ≤ (x26_4 : Int) := of_decide_eq_true (by first | (with_reducible assumption) | assumption)
 have q431 : x26_4 < (t380.length : Int) := of_decide_eq_true (by first | (with_reducible assumption) | assumption)
 obtain ⟨ad431, e431, hx431_0, hx431_1, hx431_2⟩ := at_T44 (Kd.R_reads' HO_8.out).2.2 x26_4 p431 q431
 obtain rfl : ad429 = ad431 := (by injection e431)
 replace p431 := eq_true p431
 replace q431 := eq_true q431
 have p432 : 0 ≤ (x25_2 : Int) := of_decide_eq_true (by first | (with_reducible assumption) | assumption)
 have q432 : x25_2 < (t380.length : Int) := of_decide_eq_true (by first | (with_reducible assumption) | assumption)
 obtain ⟨ad432, e432, hx432_0, hx432_1, hx432_2⟩ := at_T44 (Kd.R_reads' HO_8.out).2.2 x25_2 p432 q432
 obtain rfl : ad429 = ad432 := (by injection e432)
 replace p432 := eq_true p432
 replace q432 := eq_true q432
 go_wp2
 repeat (go_quiet (fail); try go_wp2)
 refine handM kj191 hJ4_ ?measure (by kernel_rfl) ?rel
 case measure => have := HJ13.out; have := HK2.out; have := HJ184.out; have := HK4.out; have := HJ191.out; omega
 case rel => dsimp only [List.getD_cons_succ, List.getD_cons_zero]; exact ⟨(x24_4), (wrap64 (x26_4 + 1)), (by first | rfl | (simp; done) | (simp [*]; done)), (by first | rfl | (simp; done) | (simp [*]; done)), H', ⟨by have := HJ13.out; have := HK2.out; have := HJ184.out; have := HK4.out; have := HJ191.out; omega⟩, ⟨(zR HO_5.out)⟩, ⟨(zR HO_8.out)⟩, ⟨(zR HO_397001.out)⟩, ⟨(zR HO_397002.out)⟩, ⟨(zR HO_406001.out)⟩, ⟨(zR HO_406002.out)⟩, ⟨(zR HO_415001.out)⟩, ⟨(zR HO_415002.out)⟩, ⟨(zK2 BK396.out)⟩, ⟨(zK2 BK405.out)⟩, ⟨(zK2 BK414.out)⟩, ⟨by repeat (first | (with_reducible first | exact HB.out | apply below_alloc | apply pw_below_drewN | apply below_drew1 | refine below_set ?_ GE396.out | refine below_set ?_ GE405.out | refine below_set ?_ GE414.out) | exact HB.out)⟩⟩
 }
 }
 {
 rw [if_neg c199] at H
 have c199b0 : (((rd_T44 t380 x26_4).f0) == ((rd_T44 t380 x25_2).f0)) = false := beq_eq_false_iff_ne.mpr c199
 have c199b1 : (((rd_T44 t380 x26_4).f0) != ((rd_T44 t380 x25_2).f0)) = true := bne_iff_ne.mpr c199
 have H' := ak H
 clear H
 have p429 : 0 ≤ (x26_4 : Int) := of_decide_eq_true (by first | (with_reducible assumption) | assumption)
 have q429 : x26_4 < (t380.length : Int) := of_decide_eq_true (by first | (with_reducible assumption) | assumption)
 obtain ⟨ad429, e429, hx429_0, hx429_1, hx429_2⟩ := at_T44 (Kd.R_reads' HO_8.out).2.2 x26_4 p429 q429
 cases e429
 replace p429 := eq_true p429
 replace q429 := eq_true q429
 have p430 : 0 ≤ (x25_2 : Int) := of_decide_eq_true (by first | (with_reducible assumption) | assumption)
 have q430 : x25_2 < (t380.length : Int) := of_decide_eq_true (by first | (with_reducible assumption) | assumption)
 obtain ⟨ad430, e430, hx430_0, hx430_1, hx430_2⟩ := at_T44 (Kd.R_reads' HO_8.out).2.2 x25_2 p430 q430
 obtain rfl : ad429 = ad430 := (by injection e430)
 replace p430 := eq_true p430
 replace q430 := eq_true q430
 go_wp2
 repeat (go_quiet (fail); try go_wp2)
 refine handM kj191 hJ4_ ?measure (by kernel_rfl) ?rel
 case measure => have := HJ13.out; have := HK2.out; have := HJ184.out; have := HK4.out; have := HJ191.out; omega
 case rel => dsimp only [List.getD_cons_succ, List.getD_cons_zero]; exact ⟨(x24_4), (wrap64 (x26_4 + 1)), (by first | rfl | (simp; done) | (simp [*]; done)), (by first | rfl | (simp; done) | (simp [*]; done)), H', ⟨by have := HJ13.out; have := HK2.out; have := HJ184.out; have := HK4.out; have := HJ191.out; omega⟩, ⟨(zR HO_5.out)⟩, ⟨(zR HO_8.out)⟩, ⟨(zR HO_397001.out)⟩, ⟨(zR HO_397002.out)⟩, ⟨(zR HO_406001.out)⟩, ⟨(zR HO_406002.out)⟩, ⟨(zR HO_415001.out)⟩, ⟨(zR HO_415002.out)⟩, ⟨(zK2 BK396.out)⟩, ⟨(zK2 BK405.out)⟩, ⟨(zK2 BK414.out)⟩, ⟨by repeat (first | (with_reducible first | exact HB.out | apply below_alloc | apply pw_below_drewN | apply below_drew1 | refine below_set ?_ GE396.out | refine below_set ?_ GE405.out | refine below_set ?_ GE414.out) | exact HB.out)⟩⟩
 }
 }
 · rw [if_neg c198] at H; exact absurd H (by simp)
 }
 · rw [if_neg c197] at H; exact absurd H (by simp)
 }
 · rw [if_neg c196] at H; exact absurd H (by simp)
 }
 · rw [if_neg c195] at H; exact absurd H (by simp)
 }
 {
 replace c194 := Bool.eq_false_iff.mpr c194
 subst c194
 have H1 : (laws_FnRecords.l0 kj191 l1 t373 t380 t416 t417 x24_4 (wrap64 (x25_2 + 1)) t397 t398 t401) = some r := by rw [if_neg (show ¬ (false = true) by decide)] at H; exact H
 clear H
 have H := H1
 clear H1
 have H' := ak H
 clear H
 go_wp2
 repeat (go_quiet (fail); try go_wp2)
 refine handM kj191 hJ2_ ?measure (by kernel_rfl) ?rel
 case measure => have := HJ13.out; have := HK2.out; have := HJ184.out; have := HK4.out; have := HJ191.out; omega
 case rel => dsimp only [List.getD_cons_succ, List.getD_cons_zero]; exact ⟨(x24_4), (wrap64 (x25_2 + 1)), (by first | rfl | (simp; done) | (simp [*]; done)), (by first | rfl | (simp; done) | (simp [*]; done)), H', ⟨by have := HJ13.out; have := HK2.out; have := HJ184.out; have := HK4.out; have := HJ191.out; omega⟩, ⟨(zR HO_5.out)⟩, ⟨(zR HO_8.out)⟩, ⟨(zR HO_397001.out)⟩, ⟨(zR HO_397002.out)⟩, ⟨(zR HO_406001.out)⟩, ⟨(zR HO_406002.out)⟩, ⟨(zR HO_415001.out)⟩, ⟨(zR HO_415002.out)⟩, ⟨(zK2 BK396.out)⟩, ⟨(zK2 BK405.out)⟩, ⟨(zK2 BK414.out)⟩, ⟨by repeat (first | (with_reducible first | exact HB.out | apply below_alloc | apply pw_below_drewN | apply below_drew1 | refine below_set ?_ GE396.out | refine below_set ?_ GE405.out | refine below_set ?_ GE414.out) | exact HB.out)⟩⟩
 }
 )
 )
 )
 )
 }
 )
 )
 }
 {
 rw [if_neg c184] at H
 have c184b0 : decide (x25_2 < (t380.length : Int)) = false := decide_eq_false c184
 clear c184
 have HC201 := ak H
 clear H
 go_upto_region 28 with (fail)
 repeat (go_quiet (fail); go_upto_region 28 with (fail))
 refine wp_cutM 1146749307995035755805410447651043470398282494584140561868794419693461438044242404035009276554925404323840 (fun (u : Nat → Value) wc => ∃ (kq : Nat) (x249_200 : Bool), u 249 = .bool x249_200 ∧ Aside0 (laws_FnRecords.j5 kq l1 t373 x249_200 t397 t398 t401 = some r) ∧ Aside0 (kq ≤ k2) ∧ Aside0 (Kd.R k44 44 wc w.heap.size (fun _ => True) (.slice Ao16 t373.length co16) t373) ∧ Aside0 (Kd.R (Kd.int .u16) 56 wc w.heap.size (fun k_ => some k_ ≠ ((.slice Ao30 t398.length co30) : Value).ownBlock ∧ some k_ ≠ ((.slice Ao37 t407.length co37) : Value).ownBlock) (.slice Ao24 t389.length co24) t389) ∧ Aside0 (Kd.R (Kd.int .i16) 42 wc w.heap.size (fun k_ => some k_ ≠ ((.slice Ao31 t401.length co31) : Value).ownBlock ∧ some k_ ≠ ((.slice Ao38 t410.length co38) : Value).ownBlock) (.slice Ao25 t392.length co25) t392) ∧ Aside0 (Kd.R (Kd.int .u16) 56 wc w.heap.size (fun k_ => some k_ ≠ ((.slice Ao24 t389.length co24) : Value).ownBlock ∧ some k_ ≠ ((.slice Ao37 t407.length co37) : Value).ownBlock) (.slice Ao30 t398.length co30) t398) ∧ Aside0 (Kd.R (Kd.int .i16) 42 wc w.heap.size (fun k_ => some k_ ≠ ((.slice Ao25 t392.length co25) : Value).ownBlock ∧ some k_ ≠ ((.slice Ao38 t410.length co38) : Value).ownBlock) (.slice Ao31 t401.length co31) t401) ∧ Aside0 (Kd.R (Kd.int .u16) 56 wc w.heap.size (fun k_ => some k_ ≠ ((.slice Ao24 t389.length co24) : Value).ownBlock ∧ some k_ ≠ ((.slice Ao30 t398.length co30) : Value).ownBlock) (.slice Ao37 t407.length co37) t407) ∧ Aside0 (Kd.R (Kd.int .i16) 42 wc w.heap.size (fun k_ => some k_ ≠ ((.slice Ao25 t392.length co25) : Value).ownBlock ∧ some k_ ≠ ((.slice Ao31 t401.length co31) : Value).ownBlock) (.slice Ao38 t410.length co38) t410) ∧ Aside0 (wc.heap[gb396]? = some (.cells #[.int .i64 t388, (.slice Ao24 t389.length co24), (.slice Ao25 t392.length co25)] 31 (0, 0))) ∧ Aside0 (wc.heap[gb405]? = some (.cells #[.int .i64 t397, (.slice Ao30 t398.length co30), (.slice Ao31 t401.length co31)] 31 (0, 0))) ∧ Aside0 (wc.heap[gb414]? = some (.cells #[.int .i64 t406, (.slice Ao37 t407.length co37), (.slice Ao38 t410.length co38)] 31 (0, 0))) ∧ Aside0 (Below w.heap.size w wc)) ?first ?rest
 case first => (
 intro J_ K_ hJ6_ hK_
 have H := HC201.out
 clear HC201
 by_cases c202 : ((decide (x24_2 < 0)) != (t416 == 6)) = true
 {
 rw [if_pos c202] at H
 have c202b0 : ((decide (x24_2 < 0)) != (t416 == 6)) = true := c202
 (try (have c202b1 : decide ((decide (x24_2 < 0)) = (t416 == 6)) = false := by simpa using c202))
 (try (have c202b2 : ((decide (x24_2 < 0)) == (t416 == 6)) = false := by simpa using c202))
 (try (have c202b3 : ¬ ((decide (x24_2 < 0)) = (t416 == 6)) := by simpa using c202))
 clear c202
 (first | rw [c202b0] | (simp only [i64_w, i32_w]; rw [c202b0]) | skip)
 have H' := ak H
 clear H
 go_wp2
 repeat (go_quiet (fail); try go_wp2)
 refine meetM hJ6_ (by kernel_rfl) ?rel
 case rel => dsimp only [List.getD_cons_succ, List.getD_cons_zero]; exact ⟨_, (true), (by first | rfl | (simp; done) | (simp [*]; done)), H', ⟨by have := HJ13.out; have := HK2.out; first | omega | exact Nat.le_refl _⟩, ⟨by (with_reducible repeat (first | apply Kd.R_alloc | apply Kd.R_drewN | apply Kd.R_drew)); exact Kd.R_mono HO_5.out (fun _ hk => trivial)⟩, ⟨(zR HO_397001.out)⟩, ⟨(zR HO_397002.out)⟩, ⟨(zR HO_406001.out)⟩, ⟨(zR HO_406002.out)⟩, ⟨(zR HO_415001.out)⟩, ⟨(zR HO_415002.out)⟩, ⟨(zK2 BK396.out)⟩, ⟨(zK2 BK405.out)⟩, ⟨(zK2 BK414.out)⟩, ⟨by repeat (first | (with_reducible first | exact HB.out | apply below_alloc | apply pw_below_drewN | apply below_drew1 | refine below_set ?_ GE396.out | refine below_set ?_ GE405.out | refine below_set ?_ GE414.out) | exact HB.out)⟩⟩
 }
 {
 rw [if_neg c202] at H
 have c202b0 : ((decide (x24_2 < 0)) != (t416 == 6)) = false := by simpa using c202
 (try (have c202b1 : decide ((decide (x24_2 < 0)) = (t416 == 6)) = true := by simpa using c202))
 (try (have c202b2 : ((decide (x24_2 < 0)) == (t416 == 6)) = true := by simpa using c202))
 clear c202
 (first | rw [c202b0] | (simp only [i64_w, i32_w]; rw [c202b0]) | skip)
 by_cases c203 : x24_2 ≥ 0
 {
 rw [if_pos c203] at H
 have c203b0 : decide (0 ≤ x24_2) = true := decide_eq_true c203
 clear c203
 by_cases c204 : t416 = 0
 {
 rw [if_pos c204] at H
 have c204b0 : (t416 == 0) = true := beq_iff_eq.mpr c204
 have c204b1 : (t416 != 0) = false := bne_eq_false_iff_eq.mpr c204
 clear c204
 have H' := ak H
 clear H
 go_wp2
 repeat (go_quiet (fail); try go_wp2)
 refine meetM hJ6_ (by kernel_rfl) ?rel
 case rel => dsimp only [List.getD_cons_succ, List.getD_cons_zero]; exact ⟨_, ((t417 != x24_2)), (by first | rfl | (simp; done) | (simp [*]; done)), H', ⟨by have := HJ13.out; have := HK2.out; first | omega | exact Nat.le_refl _⟩, ⟨by (with_reducible repeat (first | apply Kd.R_alloc | apply Kd.R_drewN | apply Kd.R_drew)); exact Kd.R_mono HO_5.out (fun _ hk => trivial)⟩, ⟨(zR HO_397001.out)⟩, ⟨(zR HO_397002.out)⟩, ⟨(zR HO_406001.out)⟩, ⟨(zR HO_406002.out)⟩, ⟨(zR HO_415001.out)⟩, ⟨(zR HO_415002.out)⟩, ⟨(zK2 BK396.out)⟩, ⟨(zK2 BK405.out)⟩, ⟨(zK2 BK414.out)⟩, ⟨by repeat (first | (with_reducible first | exact HB.out | apply below_alloc | apply pw_below_drewN | apply below_drew1 | refine below_set ?_ GE396.out | refine below_set ?_ GE405.out | refine below_set ?_ GE414.out) | exact HB.out)⟩⟩
 }
 {
 rw [if_neg c204] at H
 have c204b0 : (t416 == 0) = false := beq_eq_false_iff_ne.mpr c204
 have c204b1 : (t416 != 0) = true := bne_iff_ne.mpr c204
 have H' := ak H
 clear H
 go_wp2
 repeat (go_quiet (fail); try go_wp2)
 refine meetM hJ6_ (by kernel_rfl) ?rel
 case rel => dsimp only [List.getD_cons_succ, List.getD_cons_zero]; exact ⟨_, (true), (by first | rfl | (simp; done) | (simp [*]; done)), H', ⟨by have := HJ13.out; have := HK2.out; first | omega | exact Nat.le_refl _⟩, ⟨by (with_reducible repeat (first | apply Kd.R_alloc | apply Kd.R_drewN | apply Kd.R_drew)); exact Kd.R_mono HO_5.out (fun _ hk => trivial)⟩, ⟨(zR HO_397001.out)⟩, ⟨(zR HO_397002.out)⟩, ⟨(zR HO_406001.out)⟩, ⟨(zR HO_406002.out)⟩, ⟨(zR HO_415001.out)⟩, ⟨(zR HO_415002.out)⟩, ⟨(zK2 BK396.out)⟩, ⟨(zK2 BK405.out)⟩, ⟨(zK2 BK414.out)⟩, ⟨by repeat (first | (with_reducible first | exact HB.out | apply below_alloc | apply pw_below_drewN | apply below_drew1 | refine below_set ?_ GE396.out | refine below_set ?_ GE405.out | refine below_set ?_ GE414.out) | exact HB.out)⟩⟩
 }
 }
 {
 rw [if_neg c203] at H
 have c203b0 : decide (0 ≤ x24_2) = false := decide_eq_false c203
 clear c203
 have H' := ak H
 clear H
 go_wp2
 repeat (go_quiet (fail); try go_wp2)
 refine meetM hJ6_ (by kernel_rfl) ?rel
 case rel => dsimp only [List.getD_cons_succ, List.getD_cons_zero]; exact ⟨_, (false), (by first | rfl | (simp; done) | (simp [*]; done)), H', ⟨by have := HJ13.out; have := HK2.out; first | omega | exact Nat.le_refl _⟩, ⟨by (with_reducible repeat (first | apply Kd.R_alloc | apply Kd.R_drewN | apply Kd.R_drew)); exact Kd.R_mono HO_5.out (fun _ hk => trivial)⟩, ⟨(zR HO_397001.out)⟩, ⟨(zR HO_397002.out)⟩, ⟨(zR HO_406001.out)⟩, ⟨(zR HO_406002.out)⟩, ⟨(zR HO_415001.out)⟩, ⟨(zR HO_415002.out)⟩, ⟨(zK2 BK396.out)⟩, ⟨(zK2 BK405.out)⟩, ⟨(zK2 BK414.out)⟩, ⟨by repeat (first | (with_reducible first | exact HB.out | apply below_alloc | apply pw_below_drewN | apply below_drew1 | refine below_set ?_ GE396.out | refine below_set ?_ GE405.out | refine below_set ?_ GE414.out) | exact HB.out)⟩⟩
 }
 }
 )
 case rest => (
 as_aux_lemma =>
 intro u6_ wc hcut
 dsimp only [frU, cond, Nat.reduceMod, Nat.reduceDiv, Nat.reduceAdd, Nat.reduceBEq, Nat.reduceEqDiff, beq_self_eq_true]
 clear HC201
 try clear c1
 try clear c4
 try clear c177
 try clear c179
 try clear c179b0
 try clear c179b1
 try clear c184
 try clear c184b0
 try clear hcz182_0
 try clear hcz182_1
 try clear hcz182_2
 try clear hcz23_0
 try clear hcz23_1
 try clear hcz23_2
 try clear hcz29_0
 try clear hcz29_1
 try clear hcz29_2
 try clear hcz36_0
 try clear hcz36_1
 try clear hcz36_2
 try clear hfz182_0
 try clear hfz182_1
 try clear hfz182_2
 try clear hfz23_0
 try clear hfz23_1
 try clear hfz23_2
 try clear hfz29_0
 try clear hfz29_1
 try clear hfz29_2
 try clear hfz36_0
 try clear hfz36_1
 try clear hfz36_2
 obtain ⟨kq, x249_200, eu6_249, HA, HJ200, HO_5, HO_397001, HO_397002, HO_406001, HO_406002, HO_415001, HO_415002, BK396, BK405, BK414, HB⟩ := hcut
 rw [eu6_249]
 clear eu6_249
 cases kq with
 | zero => exact absurd HA.out (by simp [laws_FnRecords.j5])
 | succ kj200 => (
 have H := HA.out
 clear HA
 simp only [laws_FnRecords.j5] at H
 by_cases c205 : x249_200 = true
 {
 subst c205
 have H1 : (some false) = some r := by rw [if_pos rfl] at H; exact H
 clear H
 have H := H1
 clear H1
 exact absurd ((Option.some.inj H).trans HT.out) (by decide)
 }
 {
 replace c205 := Bool.eq_false_iff.mpr c205
 subst c205
 have H1 : ((laws_a2At.f l1 0 24).bind fun t433 => ((impl_BetweenAt.f kj200 5 4 t373 t433).bind fun bt434 => ((spec_BetweenAt.f kj200 5 4 t373 t433).bind fun bt438 => ((impl_BetweenAt.f kj200 5 4 t373 10000).bind fun bt442 => (if bt434.2 = bt438.2 then (if bt434.2 = 0 then ((spec_A2Same.f kj200 bt434.1 bt438.1).bind fun t446 => (if t446 = true then (if (bt438.1.length : Int) = 5 then (if bt442.2 = 0 then (laws_FnRecords.j6 kj200 bt438.1 bt442.1 ((bt442.1.length : Int) != 5) t397 t398 t401) else (laws_FnRecords.j6 kj200 bt438.1 bt442.1 true t397 t398 t401)) else (laws_FnRecords.j6 kj200 bt438.1 bt442.1 true t397 t398 t401)) else (laws_FnRecords.j6 kj200 bt438.1 bt442.1 true t397 t398 t401))) else (laws_FnRecords.j6 kj200 bt438.1 bt442.1 true t397 t398 t401)) else (laws_FnRecords.j6 kj200 bt438.1 bt442.1 true t397 t398 t401)))))) = some r := by rw [if_neg (show ¬ (false = true) by decide)] at H; exact H
 clear H
 have H := H1
 clear H1
 replace H := Option.bind_eq_some_iff.mp H
 obtain ⟨t433, A2060, H⟩ := H
 replace H : ((impl_BetweenAt.f kj200 5 4 t373 t433).bind fun bt434 => ((spec_BetweenAt.f kj200 5 4 t373 t433).bind fun bt438 => ((impl_BetweenAt.f kj200 5 4 t373 10000).bind fun bt442 => (if bt434.2 = bt438.2 then (if bt434.2 = 0 then ((spec_A2Same.f kj200 bt434.1 bt438.1).bind fun t446 => (if t446 = true then (if (bt438.1.length : Int) = 5 then (if bt442.2 = 0 then (laws_FnRecords.j6 kj200 bt438.1 bt442.1 ((bt442.1.length : Int) != 5) t397 t398 t401) else (laws_FnRecords.j6 kj200 bt438.1 bt442.1 true t397 t398 t401)) else (laws_FnRecords.j6 kj200 bt438.1 bt442.1 true t397 t398 t401)) else (laws_FnRecords.j6 kj200 bt438.1 bt442.1 true t397 t398 t401))) else (laws_FnRecords.j6 kj200 bt438.1 bt442.1 true t397 t398 t401)) else (laws_FnRecords.j6 kj200 bt438.1 bt442.1 true t397 t398 t401))))) = some r := H
 have A206 := ak A2060
 clear A2060
 replace H := Option.bind_eq_some_iff.mp H
 obtain ⟨⟨t434, t435⟩, A2070, H⟩ := H
 replace H : ((spec_BetweenAt.f kj200 5 4 t373 t433).bind fun bt438 => ((impl_BetweenAt.f kj200 5 4 t373 10000).bind fun bt442 => (if t435 = bt438.2 then (if t435 = 0 then ((spec_A2Same.f kj200 t434 bt438.1).bind fun t446 => (if t446 = true then (if (bt438.1.length : Int) = 5 then (if bt442.2 = 0 then (laws_FnRecords.j6 kj200 bt438.1 bt442.1 ((bt442.1.length : Int) != 5) t397 t398 t401) else (laws_FnRecords.j6 kj200 bt438.1 bt442.1 true t397 t398 t401)) else (laws_FnRecords.j6 kj200 bt438.1 bt442.1 true t397 t398 t401)) else (laws_FnRecords.j6 kj200 bt438.1 bt442.1 true t397 t398 t401))) else (laws_FnRecords.j6 kj200 bt438.1 bt442.1 true t397 t398 t401)) else (laws_FnRecords.j6 kj200 bt438.1 bt442.1 true t397 t398 t401)))) = some r := H
 have A207 := ak A2070
 clear A2070
 replace H := Option.bind_eq_some_iff.mp H
 obtain ⟨⟨t438, t439⟩, A2080, H⟩ := H
 replace H : ((impl_BetweenAt.f kj200 5 4 t373 10000).bind fun bt442 => (if t435 = t439 then (if t435 = 0 then ((spec_A2Same.f kj200 t434 t438).bind fun t446 => (if t446 = true then (if (t438.length : Int) = 5 then (if bt442.2 = 0 then (laws_FnRecords.j6 kj200 t438 bt442.1 ((bt442.1.length : Int) != 5) t397 t398 t401) else (laws_FnRecords.j6 kj200 t438 bt442.1 true t397 t398 t401)) else (laws_FnRecords.j6 kj200 t438 bt442.1 true t397 t398 t401)) else (laws_FnRecords.j6 kj200 t438 bt442.1 true t397 t398 t401))) else (laws_FnRecords.j6 kj200 t438 bt442.1 true t397 t398 t401)) else (laws_FnRecords.j6 kj200 t438 bt442.1 true t397 t398 t401))) = some r := H
 have A208 := ak A2080
 clear A2080
 replace H := Option.bind_eq_some_iff.mp H
 obtain ⟨⟨t442, t443⟩, A2090, H⟩ := H
 replace H : (if t435 = t439 then (if t435 = 0 then ((spec_A2Same.f kj200 t434 t438).bind fun t446 => (if t446 = true then (if (t438.length : Int) = 5 then (if t443 = 0 then (laws_FnRecords.j6 kj200 t438 t442 ((t442.length : Int) != 5) t397 t398 t401) else (laws_FnRecords.j6 kj200 t438 t442 true t397 t398 t401)) else (laws_FnRecords.j6 kj200 t438 t442 true t397 t398 t401)) else (laws_FnRecords.j6 kj200 t438 t442 true t397 t398 t401))) else (laws_FnRecords.j6 kj200 t438 t442 true t397 t398 t401)) else (laws_FnRecords.j6 kj200 t438 t442 true t397 t398 t401)) = some r := H
 have A209 := ak A2090
 clear A2090
 have HC210 := ak H
 clear H
 go_upto_region 34 with (first | (go_at_call 17; (with_reducible refine (laws_a2At.calls _ _ l1 0 24 t433 _ ?side1 ?side2 A206.out).mono ?_); (case side1 => repeat (first | exact (Kd.C_below HR1.out HB.out) | (with_reducible refine Kd.C_alloc ?_ _) | (with_reducible refine Kd.C_drewN ?_ _) | (with_reducible refine Kd.C_drew ?_))); (case side2 => exact HC1.out); rintro e w' ⟨rfl, ⟨nd, rfl⟩⟩) | (go_at_call 18; (with_reducible refine (impl_BetweenAt.calls kj200 5 4 _ _ t373 t433 t434 t435 _ ?side1 ?side2 A207.out).mono ?_); (case side1 => exact sC HO_5); (case side2 => exact sL HO_5); rintro e w211 ⟨v436, rfl, ho0, hb⟩; have HO437 := ak (Kd.R_lower ho0 (below_size (by repeat (first | (with_reducible first | exact HB.out | apply below_alloc | apply pw_below_drewN | apply below_drew1 | refine below_set ?_ GE396.out | refine below_set ?_ GE405.out | refine below_set ?_ GE414.out) | exact HB.out)))); replace HO_5 := kR HO_5 hb; replace HO_397001 := kR HO_397001 hb; replace HO_397002 := kR HO_397002 hb; replace HO_406001 := kR HO_406001 hb; replace HO_406002 := kR HO_406002 hb; replace HO_415001 := kR HO_415001 hb; replace HO_415002 := kR HO_415002 hb; replace BK396 := kK BK396 hb; replace BK405 := kK BK405 hb; replace BK414 := kK BK414 hb; replace HB := kB3 HB GE396 GE405 GE414 hb; (try clear hb); (try clear ho0)) | (go_at_call 19; (with_reducible refine (spec_BetweenAt.calls kj200 5 4 _ _ t373 t433 t438 t439 _ ?side1 ?side2 A208.out).mono ?_); (case side1 => exact sC HO_5); (case side2 => exact sL HO_5); rintro e w212 ⟨v440, rfl, ho0, hb⟩; have HO441 := ak (Kd.R_lower (Kd.R_new' ho0 (Kd.R_lt (zR HO437.out))) (below_size (by repeat (first | (with_reducible first | exact HB.out | apply below_alloc | apply pw_below_drewN | apply below_drew1 | refine below_set ?_ GE396.out | refine below_set ?_ GE405.out | refine below_set ?_ GE414.out) | exact HB.out)))); replace HO_5 := kR HO_5 hb; replace HO_397001 := kR HO_397001 hb; replace HO_397002 := kR HO_397002 hb; replace HO_406001 := kR HO_406001 hb; replace HO_406002 := kR HO_406002 hb; replace HO_415001 := kR HO_415001 hb; replace HO_415002 := kR HO_415002 hb; replace HO437 := kE HO437 ho0 hb; replace BK396 := kK BK396 hb; replace BK405 := kK BK405 hb; replace BK414 := kK BK414 hb; replace HB := kB3 HB GE396 GE405 GE414 hb; (try clear hb); (try clear ho0)) | (go_at_call 18; (with_reducible refine (impl_BetweenAt.calls kj200 5 4 _ _ t373 10000 t442 t443 _ ?side1 ?side2 A209.out).mono ?_); (case side1 => exact sC HO_5); (case side2 => exact sL HO_5); rintro e w213 ⟨v444, rfl, ho0, hb⟩; have HO445 := ak (Kd.R_lower (Kd.R_new' (Kd.R_new' ho0 (Kd.R_lt (zR HO437.out))) (Kd.R_lt (zR HO441.out))) (below_size (by repeat (first | (with_reducible first | exact HB.out | apply below_alloc | apply pw_below_drewN | apply below_drew1 | refine below_set ?_ GE396.out | refine below_set ?_ GE405.out | refine below_set ?_ GE414.out) | exact HB.out)))); replace HO_5 := kR HO_5 hb; replace HO_397001 := kR HO_397001 hb; replace HO_397002 := kR HO_397002 hb; replace HO_406001 := kR HO_406001 hb; replace HO_406002 := kR HO_406002 hb; replace HO_415001 := kR HO_415001 hb; replace HO_415002 := kR HO_415002 hb; replace HO437 := kE HO437 ho0 hb; replace HO441 := kE HO441 ho0 hb; replace BK396 := kK BK396 hb; replace BK405 := kK BK405 hb; replace BK414 := kK BK414 hb; replace HB := kB3 HB GE396 GE405 GE414 hb; (try clear hb); (try clear ho0)))
 repeat (go_quiet (fail))
 (try simp only [Act.put, zs, zz, zk])
 refine wp_cutM 1146749307995035755805410447651043470398282494584140561868794419693461438044242404035009276554925404323840 (fun (u : Nat → Value) wc => ∃ (kq : Nat) (x295_209 : Bool), u 295 = .bool x295_209 ∧ Aside0 (laws_FnRecords.j6 kq t438 t442 x295_209 t397 t398 t401 = some r) ∧ Aside0 (kq ≤ kj200) ∧ Aside0 (Kd.R (Kd.int .i64) 2 wc w.heap.size (fun k_ => some k_ ≠ (v444 : Value).ownBlock) v440 t438) ∧ Aside0 (Kd.R (Kd.int .i64) 2 wc w.heap.size (fun k_ => some k_ ≠ (v440 : Value).ownBlock) v444 t442) ∧ Aside0 (Kd.R (Kd.int .u16) 56 wc w.heap.size (fun k_ => some k_ ≠ ((.slice Ao30 t398.length co30) : Value).ownBlock ∧ some k_ ≠ ((.slice Ao37 t407.length co37) : Value).ownBlock) (.slice Ao24 t389.length co24) t389) ∧ Aside0 (Kd.R (Kd.int .i16) 42 wc w.heap.size (fun k_ => some k_ ≠ ((.slice Ao31 t401.length co31) : Value).ownBlock ∧ some k_ ≠ ((.slice Ao38 t410.length co38) : Value).ownBlock) (.slice Ao25 t392.length co25) t392) ∧ Aside0 (Kd.R (Kd.int .u16) 56 wc w.heap.size (fun k_ => some k_ ≠ ((.slice Ao24 t389.length co24) : Value).ownBlock ∧ some k_ ≠ ((.slice Ao37 t407.length co37) : Value).ownBlock) (.slice Ao30 t398.length co30) t398) ∧ Aside0 (Kd.R (Kd.int .i16) 42 wc w.heap.size (fun k_ => some k_ ≠ ((.slice Ao25 t392.length co25) : Value).ownBlock ∧ some k_ ≠ ((.slice Ao38 t410.length co38) : Value).ownBlock) (.slice Ao31 t401.length co31) t401) ∧ Aside0 (Kd.R (Kd.int .u16) 56 wc w.heap.size (fun k_ => some k_ ≠ ((.slice Ao24 t389.length co24) : Value).ownBlock ∧ some k_ ≠ ((.slice Ao30 t398.length co30) : Value).ownBlock) (.slice Ao37 t407.length co37) t407) ∧ Aside0 (Kd.R (Kd.int .i16) 42 wc w.heap.size (fun k_ => some k_ ≠ ((.slice Ao25 t392.length co25) : Value).ownBlock ∧ some k_ ≠ ((.slice Ao31 t401.length co31) : Value).ownBlock) (.slice Ao38 t410.length co38) t410) ∧ Aside0 (wc.heap[gb396]? = some (.cells #[.int .i64 t388, (.slice Ao24 t389.length co24), (.slice Ao25 t392.length co25)] 31 (0, 0))) ∧ Aside0 (wc.heap[gb405]? = some (.cells #[.int .i64 t397, (.slice Ao30 t398.length co30), (.slice Ao31 t401.length co31)] 31 (0, 0))) ∧ Aside0 (wc.heap[gb414]? = some (.cells #[.int .i64 t406, (.slice Ao37 t407.length co37), (.slice Ao38 t410.length co38)] 31 (0, 0))) ∧ Aside0 (Below w.heap.size w wc)) ?first ?rest
 case first => (
 intro J_ K_ hJ7_ hK_
 have H := HC210.out
 clear HC210
 by_cases c214 : t435 = t439
 {
 rw [if_pos c214] at H
 have c214b0 : (t435 == t439) = true := beq_iff_eq.mpr c214
 have c214b1 : (t435 != t439) = false := bne_eq_false_iff_eq.mpr c214
 clear c214
 (first | rw [c214b0] | (simp only [i64_w, i32_w]; rw [c214b0]) | skip)
 by_cases c215 : t435 = 0
 {
 rw [if_pos c215] at H
 have c215b0 : (t435 == 0) = true := beq_iff_eq.mpr c215
 have c215b1 : (t435 != 0) = false := bne_eq_false_iff_eq.mpr c215
 clear c215
 replace H := Option.bind_eq_some_iff.mp H
 obtain ⟨t446, A2160, H⟩ := H
 replace H : (if t446 = true then (if (t438.length : Int) = 5 then (if t443 = 0 then (laws_FnRecords.j6 kj200 t438 t442 ((t442.length : Int) != 5) t397 t398 t401) else (laws_FnRecords.j6 kj200 t438 t442 true t397 t398 t401)) else (laws_FnRecords.j6 kj200 t438 t442 true t397 t398 t401)) else (laws_FnRecords.j6 kj200 t438 t442 true t397 t398 t401)) = some r := H
 have A216 := ak A2160
 clear A2160
 by_cases c217 : t446 = true
 {
 subst c217
 have H1 : (if (t438.length : Int) = 5 then (if t443 = 0 then (laws_FnRecords.j6 kj200 t438 t442 ((t442.length : Int) != 5) t397 t398 t401) else (laws_FnRecords.j6 kj200 t438 t442 true t397 t398 t401)) else (laws_FnRecords.j6 kj200 t438 t442 true t397 t398 t401)) = some r := by rw [if_pos rfl] at H; exact H
 clear H
 have H := H1
 clear H1
 by_cases c218 : (t438.length : Int) = 5
 {
 rw [if_pos c218] at H
 have c218b0 : ((t438.length : Int) == 5) = true := beq_iff_eq.mpr c218
 have c218b1 : ((t438.length : Int) != 5) = false := bne_eq_false_iff_eq.mpr c218
 clear c218
 by_cases c219 : t443 = 0
 {
 rw [if_pos c219] at H
 have c219b0 : (t443 == 0) = true := beq_iff_eq.mpr c219
 have c219b1 : (t443 != 0) = false := bne_eq_false_iff_eq.mpr c219
 clear c219
 have H' := ak H
 clear H
 obtain ⟨Ao220, co220, eo220⟩ := Kd.R_slice HO437.out
 subst eo220
 obtain ⟨Ao221, co221, eo221⟩ := Kd.R_slice HO441.out
 subst eo221
 go_wp2_with (first | (go_at_call 20; (with_reducible refine (spec_A2Same.calls kj200 _ _ t434 _ _ t438 true _ ?side1 ?side2 ?side3 ?side4 A216.out).mono ?_); (case side1 => exact sC HO437); (case side2 => exact sL HO437); (case side3 => exact sC HO441); (case side4 => exact sL HO441); rintro e w' ⟨rfl, ⟨nd, rfl⟩⟩; obtain ⟨Ao222, co222, eo222⟩ := Kd.R_slice HO445.out; subst eo222))
 try (obtain ⟨Ao222, co222, eo222⟩ := Kd.R_slice HO445.out; subst eo222)
 repeat (go_quiet (fail))
 refine meetM hJ7_ (by kernel_rfl) ?rel
 case rel => dsimp only [List.getD_cons_succ, List.getD_cons_zero]; exact ⟨_, (((t442.length : Int) != 5)), (by first | rfl | (simp; done) | (simp [*]; done)), H', ⟨by have := HJ13.out; have := HK2.out; have := HJ200.out; first | omega | exact Nat.le_refl _⟩, ⟨by (with_reducible repeat (first | apply Kd.R_alloc | apply Kd.R_drewN | apply Kd.R_drew)); exact Kd.R_mono HO441.out (fun _ hk => hk.2)⟩, ⟨by (with_reducible repeat (first | apply Kd.R_alloc | apply Kd.R_drewN | apply Kd.R_drew)); exact Kd.R_mono HO445.out (fun _ hk => hk.2)⟩, ⟨(zR HO_397001.out)⟩, ⟨(zR HO_397002.out)⟩, ⟨(zR HO_406001.out)⟩, ⟨(zR HO_406002.out)⟩, ⟨(zR HO_415001.out)⟩, ⟨(zR HO_415002.out)⟩, ⟨(zK2 BK396.out)⟩, ⟨(zK2 BK405.out)⟩, ⟨(zK2 BK414.out)⟩, ⟨by repeat (first | (with_reducible first | exact HB.out | apply below_alloc | apply pw_below_drewN | apply below_drew1 | refine below_set ?_ GE396.out | refine below_set ?_ GE405.out | refine below_set ?_ GE414.out) | exact HB.out)⟩⟩
 }
 {
 rw [if_neg c219] at H
 have c219b0 : (t443 == 0) = false := beq_eq_false_iff_ne.mpr c219
 have c219b1 : (t443 != 0) = true := bne_iff_ne.mpr c219
 have H' := ak H
 clear H
 obtain ⟨Ao223, co223, eo223⟩ := Kd.R_slice HO437.out
 subst eo223
 obtain ⟨Ao224, co224, eo224⟩ := Kd.R_slice HO441.out
 subst eo224
 go_wp2_with (first | (go_at_call 20; (with_reducible refine (spec_A2Same.calls kj200 _ _ t434 _ _ t438 true _ ?side1 ?side2 ?side3 ?side4 A216.out).mono ?_); (case side1 => exact sC HO437); (case side2 => exact sL HO437); (case side3 => exact sC HO441); (case side4 => exact sL HO441); rintro e w' ⟨rfl, ⟨nd, rfl⟩⟩))
 repeat (go_quiet (fail))
 refine meetM hJ7_ (by kernel_rfl) ?rel
 case rel => dsimp only [List.getD_cons_succ, List.getD_cons_zero]; exact ⟨_, (true), (by first | rfl | (simp; done) | (simp [*]; done)), H', ⟨by have := HJ13.out; have := HK2.out; have := HJ200.out; first | omega | exact Nat.le_refl _⟩, ⟨by (with_reducible repeat (first | apply Kd.R_alloc | apply Kd.R_drewN | apply Kd.R_drew)); exact Kd.R_mono HO441.out (fun _ hk => hk.2)⟩, ⟨by (with_reducible repeat (first | apply Kd.R_alloc | apply Kd.R_drewN | apply Kd.R_drew)); exact Kd.R_mono HO445.out (fun _ hk => hk.2)⟩, ⟨(zR HO_397001.out)⟩, ⟨(zR HO_397002.out)⟩, ⟨(zR HO_406001.out)⟩, ⟨(zR HO_406002.out)⟩, ⟨(zR HO_415001.out)⟩, ⟨(zR HO_415002.out)⟩, ⟨(zK2 BK396.out)⟩, ⟨(zK2 BK405.out)⟩, ⟨(zK2 BK414.out)⟩, ⟨by repeat (first | (with_reducible first | exact HB.out | apply below_alloc | apply pw_below_drewN | apply below_drew1 | refine below_set ?_ GE396.out | refine below_set ?_ GE405.out | refine below_set ?_ GE414.out) | exact HB.out)⟩⟩
 }
 }
 {
 rw [if_neg c218] at H
 have c218b0 : ((t438.length : Int) == 5) = false := beq_eq_false_iff_ne.mpr c218
 have c218b1 : ((t438.length : Int) != 5) = true := bne_iff_ne.mpr c218
 have H' := ak H
 clear H
 obtain ⟨Ao225, co225, eo225⟩ := Kd.R_slice HO437.out
 subst eo225
 obtain ⟨Ao226, co226, eo226⟩ := Kd.R_slice HO441.out
 subst eo226
 go_wp2_with (first | (go_at_call 20; (with_reducible refine (spec_A2Same.calls kj200 _ _ t434 _ _ t438 true _ ?side1 ?side2 ?side3 ?side4 A216.out).mono ?_); (case side1 => exact sC HO437); (case side2 => exact sL HO437); (case side3 => exact sC HO441); (case side4 => exact sL HO441); rintro e w' ⟨rfl, ⟨nd, rfl⟩⟩))
 repeat (go_quiet (fail))
 refine meetM hJ7_ (by kernel_rfl) ?rel
 case rel => dsimp only [List.getD_cons_succ, List.getD_cons_zero]; exact ⟨_, (true), (by first | rfl | (simp; done) | (simp [*]; done)), H', ⟨by have := HJ13.out; have := HK2.out; have := HJ200.out; first | omega | exact Nat.le_refl _⟩, ⟨by (with_reducible repeat (first | apply Kd.R_alloc | apply Kd.R_drewN | apply Kd.R_drew)); exact Kd.R_mono HO441.out (fun _ hk => hk.2)⟩, ⟨by (with_reducible repeat (first | apply Kd.R_alloc | apply Kd.R_drewN | apply Kd.R_drew)); exact Kd.R_mono HO445.out (fun _ hk => hk.2)⟩, ⟨(zR HO_397001.out)⟩, ⟨(zR HO_397002.out)⟩, ⟨(zR HO_406001.out)⟩, ⟨(zR HO_406002.out)⟩, ⟨(zR HO_415001.out)⟩, ⟨(zR HO_415002.out)⟩, ⟨(zK2 BK396.out)⟩, ⟨(zK2 BK405.out)⟩, ⟨(zK2 BK414.out)⟩, ⟨by repeat (first | (with_reducible first | exact HB.out | apply below_alloc | apply pw_below_drewN | apply below_drew1 | refine below_set ?_ GE396.out | refine below_set ?_ GE405.out | refine below_set ?_ GE414.out) | exact HB.out)⟩⟩
 }
 }
 {
 replace c217 := Bool.eq_false_iff.mpr c217
 subst c217
 have H1 : (laws_FnRecords.j6 kj200 t438 t442 true t397 t398 t401) = some r := by rw [if_neg (show ¬ (false = true) by decide)] at H; exact H
 clear H
 have H := H1
 clear H1
 have H' := ak H
 clear H
 obtain ⟨Ao227, co227, eo227⟩ := Kd.R_slice HO437.out
 subst eo227
 obtain ⟨Ao228, co228, eo228⟩ := Kd.R_slice HO441.out
 subst eo228
 go_wp2_with (first | (go_at_call 20; (with_reducible refine (spec_A2Same.calls kj200 _ _ t434 _ _ t438 false _ ?side1 ?side2 ?side3 ?side4 A216.out).mono ?_); (case side1 => exact sC HO437); (case side2 => exact sL HO437); (case side3 => exact sC HO441); (case side4 => exact sL HO441); rintro e w' ⟨rfl, ⟨nd, rfl⟩⟩))
 repeat (go_quiet (fail))
 refine meetM hJ7_ (by kernel_rfl) ?rel
 case rel => dsimp only [List.getD_cons_succ, List.getD_cons_zero]; exact ⟨_, (true), (by first | rfl | (simp; done) | (simp [*]; done)), H', ⟨by have := HJ13.out; have := HK2.out; have := HJ200.out; first | omega | exact Nat.le_refl _⟩, ⟨by (with_reducible repeat (first | apply Kd.R_alloc | apply Kd.R_drewN | apply Kd.R_drew)); exact Kd.R_mono HO441.out (fun _ hk => hk.2)⟩, ⟨by (with_reducible repeat (first | apply Kd.R_alloc | apply Kd.R_drewN | apply Kd.R_drew)); exact Kd.R_mono HO445.out (fun _ hk => hk.2)⟩, ⟨(zR HO_397001.out)⟩, ⟨(zR HO_397002.out)⟩, ⟨(zR HO_406001.out)⟩, ⟨(zR HO_406002.out)⟩, ⟨(zR HO_415001.out)⟩, ⟨(zR HO_415002.out)⟩, ⟨(zK2 BK396.out)⟩, ⟨(zK2 BK405.out)⟩, ⟨(zK2 BK414.out)⟩, ⟨by repeat (first | (with_reducible first | exact HB.out | apply below_alloc | apply pw_below_drewN | apply below_drew1 | refine below_set ?_ GE396.out | refine below_set ?_ GE405.out | refine below_set ?_ GE414.out) | exact HB.out)⟩⟩
 }
 }
 {
 rw [if_neg c215] at H
 have c215b0 : (t435 == 0) = false := beq_eq_false_iff_ne.mpr c215
 have c215b1 : (t435 != 0) = true := bne_iff_ne.mpr c215
 have H' := ak H
 clear H
 go_wp2
 repeat (go_quiet (fail); try go_wp2)
 refine meetM hJ7_ (by kernel_rfl) ?rel
 case rel => dsimp only [List.getD_cons_succ, List.getD_cons_zero]; exact ⟨_, (true), (by first | rfl | (simp; done) | (simp [*]; done)), H', ⟨by have := HJ13.out; have := HK2.out; have := HJ200.out; first | omega | exact Nat.le_refl _⟩, ⟨by (with_reducible repeat (first | apply Kd.R_alloc | apply Kd.R_drewN | apply Kd.R_drew)); exact Kd.R_mono HO441.out (fun _ hk => hk.2)⟩, ⟨by (with_reducible repeat (first | apply Kd.R_alloc | apply Kd.R_drewN | apply Kd.R_drew)); exact Kd.R_mono HO445.out (fun _ hk => hk.2)⟩, ⟨(zR HO_397001.out)⟩, ⟨(zR HO_397002.out)⟩, ⟨(zR HO_406001.out)⟩, ⟨(zR HO_406002.out)⟩, ⟨(zR HO_415001.out)⟩, ⟨(zR HO_415002.out)⟩, ⟨(zK2 BK396.out)⟩, ⟨(zK2 BK405.out)⟩, ⟨(zK2 BK414.out)⟩, ⟨by repeat (first | (with_reducible first | exact HB.out | apply below_alloc | apply pw_below_drewN | apply below_drew1 | refine below_set ?_ GE396.out | refine below_set ?_ GE405.out | refine below_set ?_ GE414.out) | exact HB.out)⟩⟩
 }
 }
 {
 rw [if_neg c214] at H
 have c214b0 : (t435 == t439) = false := beq_eq_false_iff_ne.mpr c214
 have c214b1 : (t435 != t439) = true := bne_iff_ne.mpr c214
 (first | rw [c214b0] | (simp only [i64_w, i32_w]; rw [c214b0]) | skip)
 have H' := ak H
 clear H
 go_wp2
 repeat (go_quiet (fail); try go_wp2)
 refine meetM hJ7_ (by kernel_rfl) ?rel
 case rel => dsimp only [List.getD_cons_succ, List.getD_cons_zero]; exact ⟨_, (true), (by first | rfl | (simp; done) | (simp [*]; done)), H', ⟨by have := HJ13.out; have := HK2.out; have := HJ200.out; first | omega | exact Nat.le_refl _⟩, ⟨by (with_reducible repeat (first | apply Kd.R_alloc | apply Kd.R_drewN | apply Kd.R_drew)); exact Kd.R_mono HO441.out (fun _ hk => hk.2)⟩, ⟨by (with_reducible repeat (first | apply Kd.R_alloc | apply Kd.R_drewN | apply Kd.R_drew)); exact Kd.R_mono HO445.out (fun _ hk => hk.2)⟩, ⟨(zR HO_397001.out)⟩, ⟨(zR HO_397002.out)⟩, ⟨(zR HO_406001.out)⟩, ⟨(zR HO_406002.out)⟩, ⟨(zR HO_415001.out)⟩, ⟨(zR HO_415002.out)⟩, ⟨(zK2 BK396.out)⟩, ⟨(zK2 BK405.out)⟩, ⟨(zK2 BK414.out)⟩, ⟨by repeat (first | (with_reducible first | exact HB.out | apply below_alloc | apply pw_below_drewN | apply below_drew1 | refine below_set ?_ GE396.out | refine below_set ?_ GE405.out | refine below_set ?_ GE414.out) | exact HB.out)⟩⟩
 }
 )
 case rest => (
 as_aux_lemma =>
 intro u7_ wc hcut
 dsimp only [frU, cond, Nat.reduceMod, Nat.reduceDiv, Nat.reduceAdd, Nat.reduceBEq, Nat.reduceEqDiff, beq_self_eq_true]
 clear HC210
 try clear c1
 try clear c4
 try clear c177
 try clear c179
 try clear c179b0
 try clear c179b1
 try clear c184
 try clear c184b0
 try clear c205
 try clear hcz182_0
 try clear hcz182_1
 try clear hcz182_2
 try clear hcz23_0
 try clear hcz23_1
 try clear hcz23_2
 try clear hcz29_0
 try clear hcz29_1
 try clear hcz29_2
 try clear hcz36_0
 try clear hcz36_1
 try clear hcz36_2
 try clear hfz182_0
 try clear hfz182_1
 try clear hfz182_2
 try clear hfz23_0
 try clear hfz23_1
 try clear hfz23_2
 try clear hfz29_0
 try clear hfz29_1
 try clear hfz29_2
 try clear hfz36_0
 try clear hfz36_1
 try clear hfz36_2
 obtain ⟨kq, x295_209, eu7_295, HA, HJ209, HO_30, HO_32, HO_397001, HO_397002, HO_406001, HO_406002, HO_415001, HO_415002, BK396, BK405, BK414, HB⟩ := hcut
 rw [eu7_295]
 clear eu7_295
 cases kq with
 | zero => exact absurd HA.out (by simp [laws_FnRecords.j6])
 | succ kj209 => (
 have H := HA.out
 clear HA
 simp only [laws_FnRecords.j6] at H
 by_cases c229 : x295_209 = true
 {
 subst c229
 have H1 : (some false) = some r := by rw [if_pos rfl] at H; exact H
 clear H
 have H := H1
 clear H1
 exact absurd ((Option.some.inj H).trans HT.out) (by decide)
 }
 {
 replace c229 := Bool.eq_false_iff.mpr c229
 subst c229
 have H1 : (laws_FnRecords.l2 kj209 t438 t442 0 t397 t398 t401) = some r := by rw [if_neg (show ¬ (false = true) by decide)] at H; exact H
 clear H
 have H := H1
 clear H1
 have H' := ak H
 clear H
 go_wp2
 repeat (go_quiet (fail); try go_wp2)
 refine wp_loopM 1146749307995035628490661926745663078620426968998005496152019815572445773285464319386178041346638965899280 kj209 (fun kq (u : Nat → Value) w' => ∃ (x34_5 : Int), u 34 = .int .i64 x34_5 ∧ Aside0 (laws_FnRecords.l2 kq t438 t442 x34_5 t397 t398 t401 = some r) ∧ Aside0 (kq ≤ kj209) ∧ Aside0 (Kd.R (Kd.int .i64) 2 w' w.heap.size (fun k_ => some k_ ≠ (v444 : Value).ownBlock) v440 t438) ∧ Aside0 (Kd.R (Kd.int .i64) 2 w' w.heap.size (fun k_ => some k_ ≠ (v440 : Value).ownBlock) v444 t442) ∧ Aside0 (Kd.R (Kd.int .u16) 56 w' w.heap.size (fun k_ => some k_ ≠ ((.slice Ao30 t398.length co30) : Value).ownBlock ∧ some k_ ≠ ((.slice Ao37 t407.length co37) : Value).ownBlock) (.slice Ao24 t389.length co24) t389) ∧ Aside0 (Kd.R (Kd.int .i16) 42 w' w.heap.size (fun k_ => some k_ ≠ ((.slice Ao31 t401.length co31) : Value).ownBlock ∧ some k_ ≠ ((.slice Ao38 t410.length co38) : Value).ownBlock) (.slice Ao25 t392.length co25) t392) ∧ Aside0 (Kd.R (Kd.int .u16) 56 w' w.heap.size (fun k_ => some k_ ≠ ((.slice Ao24 t389.length co24) : Value).ownBlock ∧ some k_ ≠ ((.slice Ao37 t407.length co37) : Value).ownBlock) (.slice Ao30 t398.length co30) t398) ∧ Aside0 (Kd.R (Kd.int .i16) 42 w' w.heap.size (fun k_ => some k_ ≠ ((.slice Ao25 t392.length co25) : Value).ownBlock ∧ some k_ ≠ ((.slice Ao38 t410.length co38) : Value).ownBlock) (.slice Ao31 t401.length co31) t401) ∧ Aside0 (Kd.R (Kd.int .u16) 56 w' w.heap.size (fun k_ => some k_ ≠ ((.slice Ao24 t389.length co24) : Value).ownBlock ∧ some k_ ≠ ((.slice Ao30 t398.length co30) : Value).ownBlock) (.slice Ao37 t407.length co37) t407) ∧ Aside0 (Kd.R (Kd.int .i16) 42 w' w.heap.size (fun k_ => some k_ ≠ ((.slice Ao25 t392.length co25) : Value).ownBlock ∧ some k_ ≠ ((.slice Ao31 t401.length co31) : Value).ownBlock) (.slice Ao38 t410.length co38) t410) ∧ Aside0 (w'.heap[gb396]? = some (.cells #[.int .i64 t388, (.slice Ao24 t389.length co24), (.slice Ao25 t392.length co25)] 31 (0, 0))) ∧ Aside0 (w'.heap[gb405]? = some (.cells #[.int .i64 t397, (.slice Ao30 t398.length co30), (.slice Ao31 t401.length co31)] 31 (0, 0))) ∧ Aside0 (w'.heap[gb414]? = some (.cells #[.int .i64 t406, (.slice Ao37 t407.length co37), (.slice Ao38 t410.length co38)] 31 (0, 0))) ∧ Aside0 (Below w.heap.size w w')) ?atStart ?round
 case atStart => dsimp only [List.getD_cons_succ, List.getD_cons_zero]; exact ⟨(0), (by first | rfl | (simp; done) | (simp [*]; done)), H', ⟨Nat.le_refl _⟩, ⟨(zR HO_30.out)⟩, ⟨(zR HO_32.out)⟩, ⟨(zR HO_397001.out)⟩, ⟨(zR HO_397002.out)⟩, ⟨(zR HO_406001.out)⟩, ⟨(zR HO_406002.out)⟩, ⟨(zR HO_415001.out)⟩, ⟨(zR HO_415002.out)⟩, ⟨(zK2 BK396.out)⟩, ⟨(zK2 BK405.out)⟩, ⟨(zK2 BK414.out)⟩, ⟨by repeat (first | (with_reducible first | exact HB.out | apply below_alloc | apply pw_below_drewN | apply below_drew1 | refine below_set ?_ GE396.out | refine below_set ?_ GE405.out | refine below_set ?_ GE414.out) | exact HB.out)⟩⟩
 case round => (
 intro gk u8_ wr hrel J_ K_ hJ8_ hK_
 dsimp only [frU, cond, Nat.reduceMod, Nat.reduceDiv, Nat.reduceAdd, Nat.reduceBEq, Nat.reduceEqDiff, beq_self_eq_true]
 clear H'
 try clear c1
 try clear c4
 try clear c177
 try clear c179
 try clear c179b0
 try clear c179b1
 try clear c184
 try clear c184b0
 try clear c205
 try clear c229
 try clear hcz182_0
 try clear hcz182_1
 try clear hcz182_2
 try clear hcz23_0
 try clear hcz23_1
 try clear hcz23_2
 try clear hcz29_0
 try clear hcz29_1
 try clear hcz29_2
 try clear hcz36_0
 try clear hcz36_1
 try clear hcz36_2
 try clear hfz182_0
 try clear hfz182_1
 try clear hfz182_2
 try clear hfz23_0
 try clear hfz23_1
 try clear hfz23_2
 try clear hfz29_0
 try clear hfz29_1
 try clear hfz29_2
 try clear hfz36_0
 try clear hfz36_1
 try clear hfz36_2
 obtain ⟨x34_5, eu8_34, HA, HK5, HO_30, HO_32, HO_397001, HO_397002, HO_406001, HO_406002, HO_415001, HO_415002, BK396, BK405, BK414, HB⟩ := hrel
 rw [eu8_34]
 clear eu8_34
 cases gk with
 | zero => exact absurd HA.out (by simp [laws_FnRecords.l2])
 | succ k5 => (
 have H := HA.out
 clear HA
 simp only [laws_FnRecords.l2] at H
 by_cases c230 : x34_5 < 5
 {
 rw [if_pos c230] at H
 have c230b0 : decide (x34_5 < 5) = true := decide_eq_true c230
 clear c230
 have HC231 := ak H
 clear H
 go_upto_region 39 with (fail)
 repeat (go_quiet (fail); go_upto_region 39 with (fail))
 refine wp_cutM 1146749307995035628490661926745663078620426968998005496152019815572445773285464319386178041346518706814976 (fun (u : Nat → Value) wc => ∃ (kq : Nat) (x322_230 : Bool), u 322 = .bool x322_230 ∧ Aside0 (laws_FnRecords.j8 kq t438 t442 x34_5 x322_230 t397 t398 t401 = some r) ∧ Aside0 (kq ≤ k5) ∧ Aside0 (Kd.R (Kd.int .i64) 2 wc w.heap.size (fun k_ => some k_ ≠ (v444 : Value).ownBlock) v440 t438) ∧ Aside0 (Kd.R (Kd.int .i64) 2 wc w.heap.size (fun k_ => some k_ ≠ (v440 : Value).ownBlock) v444 t442) ∧ Aside0 (Kd.R (Kd.int .u16) 56 wc w.heap.size (fun k_ => some k_ ≠ ((.slice Ao30 t398.length co30) : Value).ownBlock ∧ some k_ ≠ ((.slice Ao37 t407.length co37) : Value).ownBlock) (.slice Ao24 t389.length co24) t389) ∧ Aside0 (Kd.R (Kd.int .i16) 42 wc w.heap.size (fun k_ => some k_ ≠ ((.slice Ao31 t401.length co31) : Value).ownBlock ∧ some k_ ≠ ((.slice Ao38 t410.length co38) : Value).ownBlock) (.slice Ao25 t392.length co25) t392) ∧ Aside0 (Kd.R (Kd.int .u16) 56 wc w.heap.size (fun k_ => some k_ ≠ ((.slice Ao24 t389.length co24) : Value).ownBlock ∧ some k_ ≠ ((.slice Ao37 t407.length co37) : Value).ownBlock) (.slice Ao30 t398.length co30) t398) ∧ Aside0 (Kd.R (Kd.int .i16) 42 wc w.heap.size (fun k_ => some k_ ≠ ((.slice Ao25 t392.length co25) : Value).ownBlock ∧ some k_ ≠ ((.slice Ao38 t410.length co38) : Value).ownBlock) (.slice Ao31 t401.length co31) t401) ∧ Aside0 (Kd.R (Kd.int .u16) 56 wc w.heap.size (fun k_ => some k_ ≠ ((.slice Ao24 t389.length co24) : Value).ownBlock ∧ some k_ ≠ ((.slice Ao30 t398.length co30) : Value).ownBlock) (.slice Ao37 t407.length co37) t407) ∧ Aside0 (Kd.R (Kd.int .i16) 42 wc w.heap.size (fun k_ => some k_ ≠ ((.slice Ao25 t392.length co25) : Value).ownBlock ∧ some k_ ≠ ((.slice Ao31 t401.length co31) : Value).ownBlock) (.slice Ao38 t410.length co38) t410) ∧ Aside0 (wc.heap[gb396]? = some (.cells #[.int .i64 t388, (.slice Ao24 t389.length co24), (.slice Ao25 t392.length co25)] 31 (0, 0))) ∧ Aside0 (wc.heap[gb405]? = some (.cells #[.int .i64 t397, (.slice Ao30 t398.length co30), (.slice Ao31 t401.length co31)] 31 (0, 0))) ∧ Aside0 (wc.heap[gb414]? = some (.cells #[.int .i64 t406, (.slice Ao37 t407.length co37), (.slice Ao38 t410.length co38)] 31 (0, 0))) ∧ Aside0 (Below w.heap.size w wc)) ?first ?rest
 case first => (
 intro J_ K_ hJ9_ hK_
 have H := HC231.out
 clear HC231
 by_cases c232 : 0 ≤ x34_5
 {
 rw [if_pos c232] at H
 have c232b0 : decide (0 ≤ x34_5) = true := decide_eq_true c232
 clear c232
 (first | rw [c232b0] | (simp only [i64_w, i32_w]; rw [c232b0]) | skip)
 by_cases c233 : x34_5 < (t438.length : Int)
 {
 rw [if_pos c233] at H
 have c233b0 : decide (x34_5 < (t438.length : Int)) = true := decide_eq_true c233
 clear c233
 by_cases c234 : x34_5 < (t442.length : Int)
 {
 rw [if_pos c234] at H
 have c234b0 : decide (x34_5 < (t442.length : Int)) = true := decide_eq_true c234
 clear c234
 by_cases c235 : (rd t438 x34_5) > (rd t442 x34_5)
 {
 rw [if_pos c235] at H
 have c235b0 : decide ((rd t442 x34_5) < (rd t438 x34_5)) = true := decide_eq_true c235
 clear c235
 have H' := ak H
 clear H
 obtain ⟨Ao236, co236, eo236⟩ := Kd.R_slice HO_30.out
 subst eo236
 have p447 : 0 ≤ (x34_5 : Int) := of_decide_eq_true (by first | (with_reducible assumption) | assumption)
 have q447 : x34_5 < (t438.length : Int) := of_decide_eq_true (by first | (with_reducible assumption) | assumption)
 obtain ⟨ad447, e447, hx447_0⟩ := Kd.at_int (Kd.R_reads' HO_30.out).2.2 x34_5 p447 q447
 cases e447
 replace p447 := eq_true p447
 replace q447 := eq_true q447
 obtain ⟨Ao237, co237, eo237⟩ := Kd.R_slice HO_32.out
 subst eo237
 have p448 : 0 ≤ (x34_5 : Int) := of_decide_eq_true (by first | (with_reducible assumption) | assumption)
 have q448 : x34_5 < (t442.length : Int) := of_decide_eq_true (by first | (with_reducible assumption) | assumption)
 obtain ⟨ad448, e448, hx448_0⟩ := Kd.at_int (Kd.R_reads' HO_32.out).2.2 x34_5 p448 q448
 cases e448
 replace p448 := eq_true p448
 replace q448 := eq_true q448
 go_wp2
 repeat (go_quiet (fail); try go_wp2)
 refine meetM hJ9_ (by kernel_rfl) ?rel
 case rel => dsimp only [List.getD_cons_succ, List.getD_cons_zero]; exact ⟨_, (true), (by first | rfl | (simp; done) | (simp [*]; done)), H', ⟨by have := HJ13.out; have := HK2.out; have := HJ200.out; have := HJ209.out; have := HK5.out; first | omega | exact Nat.le_refl _⟩, ⟨(zR HO_30.out)⟩, ⟨(zR HO_32.out)⟩, ⟨(zR HO_397001.out)⟩, ⟨(zR HO_397002.out)⟩, ⟨(zR HO_406001.out)⟩, ⟨(zR HO_406002.out)⟩, ⟨(zR HO_415001.out)⟩, ⟨(zR HO_415002.out)⟩, ⟨(zK2 BK396.out)⟩, ⟨(zK2 BK405.out)⟩, ⟨(zK2 BK414.out)⟩, ⟨by repeat (first | (with_reducible first | exact HB.out | apply below_alloc | apply pw_below_drewN | apply below_drew1 | refine below_set ?_ GE396.out | refine below_set ?_ GE405.out | refine below_set ?_ GE414.out) | exact HB.out)⟩⟩
 }
 {
 rw [if_neg c235] at H
 have c235b0 : decide ((rd t442 x34_5) < (rd t438 x34_5)) = false := decide_eq_false c235
 clear c235
 by_cases c238 : (rd t438 x34_5) < (-1)
 {
 rw [if_pos c238] at H
 have c238b0 : decide ((rd t438 x34_5) < (-1)) = true := decide_eq_true c238
 clear c238
 have H' := ak H
 clear H
 obtain ⟨Ao239, co239, eo239⟩ := Kd.R_slice HO_30.out
 subst eo239
 have p447 : 0 ≤ (x34_5 : Int) := of_decide_eq_true (by first | (with_reducible assumption) | assumption)
 have q447 : x34_5 < (t438.length : Int) := of_decide_eq_true (by first | (with_reducible assumption) | assumption)
 obtain ⟨ad447, e447, hx447_0⟩ := Kd.at_int (Kd.R_reads' HO_30.out).2.2 x34_5 p447 q447
 cases e447
 replace p447 := eq_true p447
 replace q447 := eq_true q447
 obtain ⟨Ao240, co240, eo240⟩ := Kd.R_slice HO_32.out
 subst eo240
 have p448 : 0 ≤ (x34_5 : Int) := of_decide_eq_true (by first | (with_reducible assumption) | assumption)
 have q448 : x34_5 < (t442.length : Int) := of_decide_eq_true (by first | (with_reducible assumption) | assumption)
 obtain ⟨ad448, e448, hx448_0⟩ := Kd.at_int (Kd.R_reads' HO_32.out).2.2 x34_5 p448 q448
 cases e448
 replace p448 := eq_true p448
 replace q448 := eq_true q448
 have p449 : 0 ≤ (x34_5 : Int) := of_decide_eq_true (by first | (with_reducible assumption) | assumption)
 have q449 : x34_5 < (t438.length : Int) := of_decide_eq_true (by first | (with_reducible assumption) | assumption)
 obtain ⟨ad449, e449, hx449_0⟩ := Kd.at_int (Kd.R_reads' HO_30.out).2.2 x34_5 p449 q449
 obtain rfl : ad447 = ad449 := (by injection e449)
 replace p449 := eq_true p449
 replace q449 := eq_true q449
 go_wp2
 repeat (go_quiet (fail); try go_wp2)
 refine meetM hJ9_ (by kernel_rfl) ?rel
 case rel => dsimp only [List.getD_cons_succ, List.getD_cons_zero]; exact ⟨_, (true), (by first | rfl | (simp; done) | (simp [*]; done)), H', ⟨by have := HJ13.out; have := HK2.out; have := HJ200.out; have := HJ209.out; have := HK5.out; first | omega | exact Nat.le_refl _⟩, ⟨(zR HO_30.out)⟩, ⟨(zR HO_32.out)⟩, ⟨(zR HO_397001.out)⟩, ⟨(zR HO_397002.out)⟩, ⟨(zR HO_406001.out)⟩, ⟨(zR HO_406002.out)⟩, ⟨(zR HO_415001.out)⟩, ⟨(zR HO_415002.out)⟩, ⟨(zK2 BK396.out)⟩, ⟨(zK2 BK405.out)⟩, ⟨(zK2 BK414.out)⟩, ⟨by repeat (first | (with_reducible first | exact HB.out | apply below_alloc | apply pw_below_drewN | apply below_drew1 | refine below_set ?_ GE396.out | refine below_set ?_ GE405.out | refine below_set ?_ GE414.out) | exact HB.out)⟩⟩
 }
 {
 rw [if_neg c238] at H
 have c238b0 : decide ((rd t438 x34_5) < (-1)) = false := decide_eq_false c238
 clear c238
 have H' := ak H
 clear H
 obtain ⟨Ao241, co241, eo241⟩ := Kd.R_slice HO_30.out
 subst eo241
 have p447 : 0 ≤ (x34_5 : Int) := of_decide_eq_true (by first | (with_reducible assumption) | assumption)
 have q447 : x34_5 < (t438.length : Int) := of_decide_eq_true (by first | (with_reducible assumption) | assumption)
 obtain ⟨ad447, e447, hx447_0⟩ := Kd.at_int (Kd.R_reads' HO_30.out).2.2 x34_5 p447 q447
 cases e447
 replace p447 := eq_true p447
 replace q447 := eq_true q447
 obtain ⟨Ao242, co242, eo242⟩ := Kd.R_slice HO_32.out
 subst eo242
 have p448 : 0 ≤ (x34_5 : Int) := of_decide_eq_true (by first | (with_reducible assumption) | assumption)
 have q448 : x34_5 < (t442.length : Int) := of_decide_eq_true (by first | (with_reducible assumption) | assumption)
 obtain ⟨ad448, e448, hx448_0⟩ := Kd.at_int (Kd.R_reads' HO_32.out).2.2 x34_5 p448 q448
 cases e448
 replace p448 := eq_true p448
 replace q448 := eq_true q448
 have p449 : 0 ≤ (x34_5 : Int) := of_decide_eq_true (by first | (with_reducible assumption) | assumption)
 have q449 : x34_5 < (t438.length : Int) := of_decide_eq_true (by first | (with_reducible assumption) | assumption)
 obtain ⟨ad449, e449, hx449_0⟩ := Kd.at_int (Kd.R_reads' HO_30.out).2.2 x34_5 p449 q449
 obtain rfl : ad447 = ad449 := (by injection e449)
 replace p449 := eq_true p449
 replace q449 := eq_true q449
 have p450 : 0 ≤ (x34_5 : Int) := of_decide_eq_true (by first | (with_reducible assumption) | assumption)
 have q450 : x34_5 < (t442.length : Int) := of_decide_eq_true (by first | (with_reducible assumption) | assumption)
 obtain ⟨ad450, e450, hx450_0⟩ := Kd.at_int (Kd.R_reads' HO_32.out).2.2 x34_5 p450 q450
 obtain rfl : ad448 = ad450 := (by injection e450)
 replace p450 := eq_true p450
 replace q450 := eq_true q450
 go_wp2
 repeat (go_quiet (fail); try go_wp2)
 refine meetM hJ9_ (by kernel_rfl) ?rel
 case rel => dsimp only [List.getD_cons_succ, List.getD_cons_zero]; exact ⟨_, (decide ((rd t442 x34_5) > 3)), (by first | rfl | (simp; done) | (simp [*]; done)), H', ⟨by have := HJ13.out; have := HK2.out; have := HJ200.out; have := HJ209.out; have := HK5.out; first | omega | exact Nat.le_refl _⟩, ⟨(zR HO_30.out)⟩, ⟨(zR HO_32.out)⟩, ⟨(zR HO_397001.out)⟩, ⟨(zR HO_397002.out)⟩, ⟨(zR HO_406001.out)⟩, ⟨(zR HO_406002.out)⟩, ⟨(zR HO_415001.out)⟩, ⟨(zR HO_415002.out)⟩, ⟨(zK2 BK396.out)⟩, ⟨(zK2 BK405.out)⟩, ⟨(zK2 BK414.out)⟩, ⟨by repeat (first | (with_reducible first | exact HB.out | apply below_alloc | apply pw_below_drewN | apply below_drew1 | refine below_set ?_ GE396.out | refine below_set ?_ GE405.out | refine below_set ?_ GE414.out) | exact HB.out)⟩⟩
 }
 }
 }
 · rw [if_neg c234] at H; exact absurd H (by simp)
 }
 · rw [if_neg c233] at H; exact absurd H (by simp)
 }
 · rw [if_neg c232] at H; exact absurd H (by simp)
 )
 case rest => (
 intro u9_ wc hcut
 dsimp only [frU, cond, Nat.reduceMod, Nat.reduceDiv, Nat.reduceAdd, Nat.reduceBEq, Nat.reduceEqDiff, beq_self_eq_true]
 clear HC231
 try clear c1
 try clear c4
 try clear c177
 try clear c179
 try clear c179b0
 try clear c179b1
 try clear c184
 try clear c184b0
 try clear c205
 try clear c229
 try clear c230
 try clear c230b0
 try clear hcz182_0
 try clear hcz182_1
 try clear hcz182_2
 try clear hcz23_0
 try clear hcz23_1
 try clear hcz23_2
 try clear hcz29_0
 try clear hcz29_1
 try clear hcz29_2
 try clear hcz36_0
 try clear hcz36_1
 try clear hcz36_2
 try clear hfz182_0
 try clear hfz182_1
 try clear hfz182_2
 try clear hfz23_0
 try clear hfz23_1
 try clear hfz23_2
 try clear hfz29_0
 try clear hfz29_1
 try clear hfz29_2
 try clear hfz36_0
 try clear hfz36_1
 try clear hfz36_2
 obtain ⟨kq, x322_230, eu9_322, HA, HJ230, HO_30, HO_32, HO_397001, HO_397002, HO_406001, HO_406002, HO_415001, HO_415002, BK396, BK405, BK414, HB⟩ := hcut
 rw [eu9_322]
 clear eu9_322
 cases kq with
 | zero => exact absurd HA.out (by simp [laws_FnRecords.j8])
 | succ kj230 => (
 have H := HA.out
 clear HA
 simp only [laws_FnRecords.j8] at H
 by_cases c243 : x322_230 = true
 {
 subst c243
 have H1 : (some false) = some r := by rw [if_pos rfl] at H; exact H
 clear H
 have H := H1
 clear H1
 exact absurd ((Option.some.inj H).trans HT.out) (by decide)
 }
 {
 replace c243 := Bool.eq_false_iff.mpr c243
 subst c243
 have H1 : ((impl_LastSeen.f kj230 t397 t398 t401 x34_5).bind fun bt451 => (if 0 ≤ x34_5 then (if x34_5 < (t442.length : Int) then (if ((bt451.2 == 0) != (decide ((rd t442 x34_5) ≥ 0))) = true then (some false) else (if bt451.2 = 0 then (if bt451.1 = (rd t442 x34_5) then (laws_FnRecords.l2 kj230 t438 t442 (wrap64 (x34_5 + 1)) t397 t398 t401) else (some false)) else (laws_FnRecords.l2 kj230 t438 t442 (wrap64 (x34_5 + 1)) t397 t398 t401))) else (none)) else (none))) = some r := by rw [if_neg (show ¬ (false = true) by decide)] at H; exact H
 clear H
 have H := H1
 clear H1
 replace H := Option.bind_eq_some_iff.mp H
 obtain ⟨⟨t451, t452⟩, A2440, H⟩ := H
 replace H : (if 0 ≤ x34_5 then (if x34_5 < (t442.length : Int) then (if ((t452 == 0) != (decide ((rd t442 x34_5) ≥ 0))) = true then (some false) else (if t452 = 0 then (if t451 = (rd t442 x34_5) then (laws_FnRecords.l2 kj230 t438 t442 (wrap64 (x34_5 + 1)) t397 t398 t401) else (some false)) else (laws_FnRecords.l2 kj230 t438 t442 (wrap64 (x34_5 + 1)) t397 t398 t401))) else (none)) else (none)) = some r := H
 have A244 := ak A2440
 clear A2440
 by_cases c245 : 0 ≤ x34_5
 {
 rw [if_pos c245] at H
 have c245b0 : decide (0 ≤ x34_5) = true := decide_eq_true c245
 clear c245
 by_cases c246 : x34_5 < (t442.length : Int)
 {
 rw [if_pos c246] at H
 have c246b0 : decide (x34_5 < (t442.length : Int)) = true := decide_eq_true c246
 clear c246
 by_cases c247 : ((t452 == 0) != (decide ((rd t442 x34_5) ≥ 0))) = true
 {
 rw [if_pos c247] at H
 have c247b0 : ((t452 == 0) != (decide ((rd t442 x34_5) ≥ 0))) = true := c247
 (try (have c247b1 : decide ((t452 == 0) = (decide ((rd t442 x34_5) ≥ 0))) = false := by simpa using c247))
 (try (have c247b2 : ((t452 == 0) == (decide ((rd t442 x34_5) ≥ 0))) = false := by simpa using c247))
 (try (have c247b3 : ¬ ((t452 == 0) = (decide ((rd t442 x34_5) ≥ 0))) := by simpa using c247))
 clear c247
 exact absurd ((Option.some.inj H).trans HT.out) (by decide)
 }
 {
 rw [if_neg c247] at H
 have c247b0 : ((t452 == 0) != (decide ((rd t442 x34_5) ≥ 0))) = false := by simpa using c247
 (try (have c247b1 : decide ((t452 == 0) = (decide ((rd t442 x34_5) ≥ 0))) = true := by simpa using c247))
 (try (have c247b2 : ((t452 == 0) == (decide ((rd t442 x34_5) ≥ 0))) = true := by simpa using c247))
 clear c247
 by_cases c248 : t452 = 0
 {
 rw [if_pos c248] at H
 have c248b0 : (t452 == 0) = true := beq_iff_eq.mpr c248
 have c248b1 : (t452 != 0) = false := bne_eq_false_iff_eq.mpr c248
 clear c248
 by_cases c249 : t451 = (rd t442 x34_5)
 {
 rw [if_pos c249] at H
 have c249b0 : (t451 == (rd t442 x34_5)) = true := beq_iff_eq.mpr c249
 have c249b1 : (t451 != (rd t442 x34_5)) = false := bne_eq_false_iff_eq.mpr c249
 clear c249
 have H' := ak H
 clear H
 have hnb250 := NB405_396.out
 have hnc250 := NB396_405.out
 have hnb251 := NB405_414.out
 have hnc251 := NB414_405.out
 have hcz252_0 : wc.cell? ⟨gb405, 0, none⟩ = some (.int .i64 t397) := (blk_cell BK405.out 0).trans rfl
 have hcz252_1 : wc.cell? ⟨gb405, 1, none⟩ = some (.slice Ao30 t398.length co30) := (blk_cell BK405.out 1).trans rfl
 have hcz252_2 : wc.cell? ⟨gb405, 2, none⟩ = some (.slice Ao31 t401.length co31) := (blk_cell BK405.out 2).trans rfl
 have hfz252_0 := blk_frozen BK405.out 0
 have hfz252_1 := blk_frozen BK405.out 1
 have hfz252_2 := blk_frozen BK405.out 2
 go_wp2_with (first | (go_at_call 21; (with_reducible refine (impl_LastSeen.calls kj230 t397 _ _ t398 _ _ t401 x34_5 t451 t452 _ ?side1 ?side2 ?side3 ?side4 A244.out).mono ?_); (case side1 => exact sC HO_406001); (case side2 => exact sL HO_406001); (case side3 => exact sC HO_406002); (case side4 => exact sL HO_406002); rintro e w253 ⟨rfl, hb⟩; replace HO_30 := kR HO_30 hb; replace HO_32 := kR HO_32 hb; replace HO_397001 := kR HO_397001 hb; replace HO_397002 := kR HO_397002 hb; replace HO_406001 := kR HO_406001 hb; replace HO_406002 := kR HO_406002 hb; replace HO_415001 := kR HO_415001 hb; replace HO_415002 := kR HO_415002 hb; replace BK396 := kK BK396 hb; replace BK405 := kK BK405 hb; replace BK414 := kK BK414 hb; replace HB := kB3 HB GE396 GE405 GE414 hb; (try clear hb); obtain ⟨Ao254, co254, eo254⟩ := Kd.R_slice HO_32.out; subst eo254; have p453 : 0 ≤ (x34_5 : Int) := of_decide_eq_true (by first | (with_reducible assumption) | assumption); have q453 : x34_5 < (t442.length : Int) := of_decide_eq_true (by first | (with_reducible assumption) | assumption); obtain ⟨ad453, e453, hx453_0⟩ := Kd.at_int (Kd.R_reads' HO_32.out).2.2 x34_5 p453 q453; cases e453; replace p453 := eq_true p453; replace q453 := eq_true q453; have p454 : 0 ≤ (x34_5 : Int) := of_decide_eq_true (by first | (with_reducible assumption) | assumption); have q454 : x34_5 < (t442.length : Int) := of_decide_eq_true (by first | (with_reducible assumption) | assumption); obtain ⟨ad454, e454, hx454_0⟩ := Kd.at_int (Kd.R_reads' HO_32.out).2.2 x34_5 p454 q454; obtain rfl : ad453 = ad454 := (by injection e454); replace p454 := eq_true p454; replace q454 := eq_true q454))
 repeat (go_quiet (fail))
 refine handM kj230 hJ8_ ?measure (by kernel_rfl) ?rel
 case measure => have := HJ13.out; have := HK2.out; have := HJ200.out; have := HJ209.out; have := HK5.out; have := HJ230.out; omega
 case rel => dsimp only [List.getD_cons_succ, List.getD_cons_zero]; exact ⟨(wrap64 (x34_5 + 1)), (by first | rfl | (simp; done) | (simp [*]; done)), H', ⟨by have := HJ13.out; have := HK2.out; have := HJ200.out; have := HJ209.out; have := HK5.out; have := HJ230.out; omega⟩, ⟨(zR HO_30.out)⟩, ⟨(zR HO_32.out)⟩, ⟨(zR HO_397001.out)⟩, ⟨(zR HO_397002.out)⟩, ⟨(zR HO_406001.out)⟩, ⟨(zR HO_406002.out)⟩, ⟨(zR HO_415001.out)⟩, ⟨(zR HO_415002.out)⟩, ⟨(zK2 BK396.out)⟩, ⟨(zK2 BK405.out)⟩, ⟨(zK2 BK414.out)⟩, ⟨by repeat (first | (with_reducible first | exact HB.out | apply below_alloc | apply pw_below_drewN | apply below_drew1 | refine below_set ?_ GE396.out | refine below_set ?_ GE405.out | refine below_set ?_ GE414.out) | exact HB.out)⟩⟩
 all_goals (exfalso; have z9 := c247b2; rw [c248b0] at z9; have z8 := of_decide_eq_true (eq_of_beq z9).symm; omega)
 }
 · rw [if_neg c249] at H; have c249b0 : (t451 == (rd t442 x34_5)) = false := beq_eq_false_iff_ne.mpr c249; have c249b1 : (t451 != (rd t442 x34_5)) = true := bne_iff_ne.mpr c249; exact absurd ((Option.some.inj H).trans HT.out) (by decide)
 }
 {
 rw [if_neg c248] at H
 have c248b0 : (t452 == 0) = false := beq_eq_false_iff_ne.mpr c248
 have c248b1 : (t452 != 0) = true := bne_iff_ne.mpr c248
 have H' := ak H
 clear H
 have hnb255 := NB405_396.out
 have hnc255 := NB396_405.out
 have hnb256 := NB405_414.out
 have hnc256 := NB414_405.out
 have hcz257_0 : wc.cell? ⟨gb405, 0, none⟩ = some (.int .i64 t397) := (blk_cell BK405.out 0).trans rfl
 have hcz257_1 : wc.cell? ⟨gb405, 1, none⟩ = some (.slice Ao30 t398.length co30) := (blk_cell BK405.out 1).trans rfl
 have hcz257_2 : wc.cell? ⟨gb405, 2, none⟩ = some (.slice Ao31 t401.length co31) := (blk_cell BK405.out 2).trans rfl
 have hfz257_0 := blk_frozen BK405.out 0
 have hfz257_1 := blk_frozen BK405.out 1
 have hfz257_2 := blk_frozen BK405.out 2
 go_wp2_with (first | (go_at_call 21; (with_reducible refine (impl_LastSeen.calls kj230 t397 _ _ t398 _ _ t401 x34_5 t451 t452 _ ?side1 ?side2 ?side3 ?side4 A244.out).mono ?_); (case side1 => exact sC HO_406001); (case side2 => exact sL HO_406001); (case side3 => exact sC HO_406002); (case side4 => exact sL HO_406002); rintro e w258 ⟨rfl, hb⟩; replace HO_30 := kR HO_30 hb; replace HO_32 := kR HO_32 hb; replace HO_397001 := kR HO_397001 hb; replace HO_397002 := kR HO_397002 hb; replace HO_406001 := kR HO_406001 hb; replace HO_406002 := kR HO_406002 hb; replace HO_415001 := kR HO_415001 hb; replace HO_415002 := kR HO_415002 hb; replace BK396 := kK BK396 hb; replace BK405 := kK BK405 hb; replace BK414 := kK BK414 hb; replace HB := kB3 HB GE396 GE405 GE414 hb; (try clear hb); obtain ⟨Ao259, co259, eo259⟩ := Kd.R_slice HO_32.out; subst eo259; have p453 : 0 ≤ (x34_5 : Int) := of_decide_eq_true (by first | (with_reducible assumption) | assumption); have q453 : x34_5 < (t442.length : Int) := of_decide_eq_true (by first | (with_reducible assumption) | assumption); obtain ⟨ad453, e453, hx453_0⟩ := Kd.at_int (Kd.R_reads' HO_32.out).2.2 x34_5 p453 q453; cases e453; replace p453 := eq_true p453; replace q453 := eq_true q453))
 repeat (go_quiet (fail))
 refine handM kj230 hJ8_ ?measure (by kernel_rfl) ?rel
 case measure => have := HJ13.out; have := HK2.out; have := HJ200.out; have := HJ209.out; have := HK5.out; have := HJ230.out; omega
 case rel => dsimp only [List.getD_cons_succ, List.getD_cons_zero]; exact ⟨(wrap64 (x34_5 + 1)), (by first | rfl | (simp; done) | (simp [*]; done)), H', ⟨by have := HJ13.out; have := HK2.out; have := HJ200.out; have := HJ209.out; have := HK5.out; have := HJ230.out; omega⟩, ⟨(zR HO_30.out)⟩, ⟨(zR HO_32.out)⟩, ⟨(zR HO_397001.out)⟩, ⟨(zR HO_397002.out)⟩, ⟨(zR HO_406001.out)⟩, ⟨(zR HO_406002.out)⟩, ⟨(zR HO_415001.out)⟩, ⟨(zR HO_415002.out)⟩, ⟨(zK2 BK396.out)⟩, ⟨(zK2 BK405.out)⟩, ⟨(zK2 BK414.out)⟩, ⟨by repeat (first | (with_reducible first | exact HB.out | apply below_alloc | apply pw_below_drewN | apply below_drew1 | refine below_set ?_ GE396.out | refine below_set ?_ GE405.out | refine below_set ?_ GE414.out) | exact HB.out)⟩⟩
 all_goals (exfalso; have z9 := c247b2; rw [c248b0] at z9; have z8 := of_decide_eq_false (eq_of_beq z9).symm; omega)
 }
 }
 }
 · rw [if_neg c246] at H; exact absurd H (by simp)
 }
 · rw [if_neg c245] at H; exact absurd H (by simp)
 }
 )
 )
 }
 {
 rw [if_neg c230] at H
 have c230b0 : decide (x34_5 < 5) = false := decide_eq_false c230
 clear c230
 obtain rfl := Option.some.inj H
 go_wp2
 repeat (go_quiet (fail); try go_wp2)
 go_ret
 exact ⟨by first | rfl | (simp [errW_none, errW_some] <;> rfl) | (simp [*, errW_none, errW_some] <;> rfl), by repeat (first | (with_reducible first | exact HB.out | apply below_alloc | apply pw_below_drewN | apply below_drew1 | refine below_set ?_ GE396.out | refine below_set ?_ GE405.out | refine below_set ?_ GE414.out) | exact HB.out)⟩
 }
 )
 )
 }
 )
 )
 }
 )
 )
 }
 )
 )
 }
 · rw [if_neg c179] at H; have c179b0 : (t426 == 6) = false := beq_eq_false_iff_ne.mpr c179; have c179b1 : (t426 != 6) = true := bne_iff_ne.mpr c179; exact absurd ((Option.some.inj H).trans HT.out) (by decide)
 }
 )
 )
 }
/-- THE ONE PURE STATEMENT of laws_FnRecords: yours. -/
def laws_FnRecords.Pure : Prop := ∀ (l0 : List Int) (l1 : List Int), l0.length ≤ maxLen → l0.length * 1 ≤ 140737488351232 → (∀ x ∈ l0, (Lit.int .u8 x).wf = true) → l1.length ≤ maxLen → l1.length * 1 ≤ 140737488351232 → (∀ x ∈ l1, (Lit.int .u8 x).wf = true) → ∃ k, laws_FnRecords.f k l0 l1 = some true
theorem laws_FnRecords.walk (P : laws_FnRecords.Pure) (a0 : Option Addr) (len0 cap0 : Nat) (z0 : List Int) (a1 : Option Addr) (len1 cap1 : Nat) (z1 : List Int) (w : World) (w0 : (a0 = none ∧ len0 = 0 ∧ cap0 = 0 ∧ z0 = []) ∨ ∃ x, a0 = some x ∧ len0 ≤ cap0 ∧ cap0 ≤ maxLen ∧ z0.length = cap0 ∧ (∀ i, i < z0.length → w.cell? (x.add i) = some (.int .u8 (z0.getD i 0))) ∧ ∀ n ∈ z0, (Lit.int .u8 n).wf = true) (y0 : len0 * 1 ≤ 140737488351232) (w1 : (a1 = none ∧ len1 = 0 ∧ cap1 = 0 ∧ z1 = []) ∨ ∃ x, a1 = some x ∧ len1 ≤ cap1 ∧ cap1 ≤ maxLen ∧ z1.length = cap1 ∧ (∀ i, i < z1.length → w.cell? (x.add i) = some (.int .u8 (z1.getD i 0))) ∧ ∀ n ∈ z1, (Lit.int .u8 n).wf = true) (y1 : len1 * 1 ≤ 140737488351232) :
    Calls Try.prog 3 #[.slice a0 len0 cap0, .slice a1 len1 cap1] w fun e w' => e = .returned (.bool true) ∧ Below w.heap.size w w' := by
  obtain ⟨l0, rfl, hr0, hm0, hw0, hc0⟩ := ReadsInt.ofRowC w0
  obtain ⟨l1, rfl, hr1, hm1, hw1, hc1⟩ := ReadsInt.ofRowC w1
  obtain ⟨k, h⟩ := P l0 l1 hm0 y0 hw0 hm1 y1 hw1
  refine (laws_FnRecords.calls k _ _ l0 _ _ l1 true w (Kd.C_of_reads (d := (0 : Int)) (h1 := fun _ => rfl) hr0) hc0 (Kd.C_of_reads (d := (0 : Int)) (h1 := fun _ => rfl) hr1) hc1 rfl h).mono ?_
  rintro e w' ⟨rfl, hd⟩
  exact ⟨rfl, hd⟩

end Go.Proofs.Ytcjchobajjbhkaa.P
