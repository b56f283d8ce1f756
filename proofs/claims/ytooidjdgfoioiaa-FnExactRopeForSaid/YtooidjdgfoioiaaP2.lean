-- Printed by wip/print (my turned copy of the kit's print) out of the translation; Lean checks it.
import Derived.Test.YtooidjdgfoioiaaP0
import Derived.Test.YtooidjdgfoioiaaP1
namespace Go.Proofs.Ytooidjdgfoioiaa.P
open Go.RowKit Go.Proofs.YtooidjdgfoioiaaW.PrintWords Go.Proofs.YtooidjdgfoioiaaW.PrintLast Go.Proofs.YtooidjdgfoioiaaW.PrintMore
attribute [local go_sem] max2_int min2_int max_two min_two max_three min_three max_four min_four   -- for this text's walks alone
set_option linter.unusedVariables false
set_option linter.unusedSimpArgs false

/-! ### spec_l01Ok: function 40 -/
mutual
def spec_l01Ok.j0 : Nat → Bool → Int → Int → Int → Int → Int → Int → Int → Int → Int → Int → Int → Int → Option (Bool)
  | 0, _, _, _, _, _, _, _, _, _, _, _, _, _ => none
  | k + 1, x19, x1000, x1001, x1002, x1003, x1004, x1005, x1006, x1007, x1008, x1009, x1010, x1011 => if x19 = true then (some false) else (spec_l01Ok.l0 k 0 x1000 x1001 x1002 x1003 x1004 x1005 x1006 x1007 x1008 x1009 x1010 x1011)
def spec_l01Ok.l0 : Nat → Int → Int → Int → Int → Int → Int → Int → Int → Int → Int → Int → Int → Int → Option (Bool)
  | 0, _, _, _, _, _, _, _, _, _, _, _, _, _ => none
  | k + 1, x3, x1000, x1001, x1002, x1003, x1004, x1005, x1006, x1007, x1008, x1009, x1010, x1011 => if x3 < 10 then (if 0 ≤ x3 then (if x3 = 0 then (if 0 ≤ (IntKind.u64.wrap (x1000)) then (if (shr .u16 x1002 (IntKind.u64.wrap (x1000))) = 0 then (if x3 ≥ (wrap64 (x1001)) then (if x1002 = 0 then (spec_l01Ok.l0 k (wrap64 (x3 + 1)) x1000 x1001 x1002 x1003 x1004 x1005 x1006 x1007 x1008 x1009 x1010 x1011) else (some false)) else (spec_l01Ok.l0 k (wrap64 (x3 + 1)) x1000 x1001 x1002 x1003 x1004 x1005 x1006 x1007 x1008 x1009 x1010 x1011)) else (some false)) else (none)) else (if x3 = 1 then (if 0 ≤ (IntKind.u64.wrap (x1000)) then (if (shr .u16 x1003 (IntKind.u64.wrap (x1000))) = 0 then (if x3 ≥ (wrap64 (x1001)) then (if x1003 = 0 then (spec_l01Ok.l0 k (wrap64 (x3 + 1)) x1000 x1001 x1002 x1003 x1004 x1005 x1006 x1007 x1008 x1009 x1010 x1011) else (some false)) else (spec_l01Ok.l0 k (wrap64 (x3 + 1)) x1000 x1001 x1002 x1003 x1004 x1005 x1006 x1007 x1008 x1009 x1010 x1011)) else (some false)) else (none)) else (if x3 = 2 then (if 0 ≤ (IntKind.u64.wrap (x1000)) then (if (shr .u16 x1004 (IntKind.u64.wrap (x1000))) = 0 then (if x3 ≥ (wrap64 (x1001)) then (if x1004 = 0 then (spec_l01Ok.l0 k (wrap64 (x3 + 1)) x1000 x1001 x1002 x1003 x1004 x1005 x1006 x1007 x1008 x1009 x1010 x1011) else (some false)) else (spec_l01Ok.l0 k (wrap64 (x3 + 1)) x1000 x1001 x1002 x1003 x1004 x1005 x1006 x1007 x1008 x1009 x1010 x1011)) else (some false)) else (none)) else (if x3 = 3 then (if 0 ≤ (IntKind.u64.wrap (x1000)) then (if (shr .u16 x1005 (IntKind.u64.wrap (x1000))) = 0 then (if x3 ≥ (wrap64 (x1001)) then (if x1005 = 0 then (spec_l01Ok.l0 k (wrap64 (x3 + 1)) x1000 x1001 x1002 x1003 x1004 x1005 x1006 x1007 x1008 x1009 x1010 x1011) else (some false)) else (spec_l01Ok.l0 k (wrap64 (x3 + 1)) x1000 x1001 x1002 x1003 x1004 x1005 x1006 x1007 x1008 x1009 x1010 x1011)) else (some false)) else (none)) else (if x3 = 4 then (if 0 ≤ (IntKind.u64.wrap (x1000)) then (if (shr .u16 x1006 (IntKind.u64.wrap (x1000))) = 0 then (if x3 ≥ (wrap64 (x1001)) then (if x1006 = 0 then (spec_l01Ok.l0 k (wrap64 (x3 + 1)) x1000 x1001 x1002 x1003 x1004 x1005 x1006 x1007 x1008 x1009 x1010 x1011) else (some false)) else (spec_l01Ok.l0 k (wrap64 (x3 + 1)) x1000 x1001 x1002 x1003 x1004 x1005 x1006 x1007 x1008 x1009 x1010 x1011)) else (some false)) else (none)) else (if x3 = 5 then (if 0 ≤ (IntKind.u64.wrap (x1000)) then (if (shr .u16 x1007 (IntKind.u64.wrap (x1000))) = 0 then (if x3 ≥ (wrap64 (x1001)) then (if x1007 = 0 then (spec_l01Ok.l0 k (wrap64 (x3 + 1)) x1000 x1001 x1002 x1003 x1004 x1005 x1006 x1007 x1008 x1009 x1010 x1011) else (some false)) else (spec_l01Ok.l0 k (wrap64 (x3 + 1)) x1000 x1001 x1002 x1003 x1004 x1005 x1006 x1007 x1008 x1009 x1010 x1011)) else (some false)) else (none)) else (if x3 = 6 then (if 0 ≤ (IntKind.u64.wrap (x1000)) then (if (shr .u16 x1008 (IntKind.u64.wrap (x1000))) = 0 then (if x3 ≥ (wrap64 (x1001)) then (if x1008 = 0 then (spec_l01Ok.l0 k (wrap64 (x3 + 1)) x1000 x1001 x1002 x1003 x1004 x1005 x1006 x1007 x1008 x1009 x1010 x1011) else (some false)) else (spec_l01Ok.l0 k (wrap64 (x3 + 1)) x1000 x1001 x1002 x1003 x1004 x1005 x1006 x1007 x1008 x1009 x1010 x1011)) else (some false)) else (none)) else (if x3 = 7 then (if 0 ≤ (IntKind.u64.wrap (x1000)) then (if (shr .u16 x1009 (IntKind.u64.wrap (x1000))) = 0 then (if x3 ≥ (wrap64 (x1001)) then (if x1009 = 0 then (spec_l01Ok.l0 k (wrap64 (x3 + 1)) x1000 x1001 x1002 x1003 x1004 x1005 x1006 x1007 x1008 x1009 x1010 x1011) else (some false)) else (spec_l01Ok.l0 k (wrap64 (x3 + 1)) x1000 x1001 x1002 x1003 x1004 x1005 x1006 x1007 x1008 x1009 x1010 x1011)) else (some false)) else (none)) else (if x3 = 8 then (if 0 ≤ (IntKind.u64.wrap (x1000)) then (if (shr .u16 x1010 (IntKind.u64.wrap (x1000))) = 0 then (if x3 ≥ (wrap64 (x1001)) then (if x1010 = 0 then (spec_l01Ok.l0 k (wrap64 (x3 + 1)) x1000 x1001 x1002 x1003 x1004 x1005 x1006 x1007 x1008 x1009 x1010 x1011) else (some false)) else (spec_l01Ok.l0 k (wrap64 (x3 + 1)) x1000 x1001 x1002 x1003 x1004 x1005 x1006 x1007 x1008 x1009 x1010 x1011)) else (some false)) else (none)) else (if x3 = 9 then (if 0 ≤ (IntKind.u64.wrap (x1000)) then (if (shr .u16 x1011 (IntKind.u64.wrap (x1000))) = 0 then (if x3 ≥ (wrap64 (x1001)) then (if x1011 = 0 then (spec_l01Ok.l0 k (wrap64 (x3 + 1)) x1000 x1001 x1002 x1003 x1004 x1005 x1006 x1007 x1008 x1009 x1010 x1011) else (some false)) else (spec_l01Ok.l0 k (wrap64 (x3 + 1)) x1000 x1001 x1002 x1003 x1004 x1005 x1006 x1007 x1008 x1009 x1010 x1011)) else (some false)) else (none)) else (none))))))))))) else (none)) else (some true)
end
def spec_l01Ok.f (k : Nat) (a0_0 : Int) (a0_1 : Int) (a0_2 : Int) (a0_3 : Int) (a0_4 : Int) (a0_5 : Int) (a0_6 : Int) (a0_7 : Int) (a0_8 : Int) (a0_9 : Int) (a0_10 : Int) (a0_11 : Int) : Option (Bool) := (spec_l00In.f (wrap64 (a0_0)) 1 10).bind fun t127 => (if t127 = true then ((spec_l00In.f (wrap64 (a0_1)) 1 10).bind fun t128 => (spec_l01Ok.j0 k (!t128) a0_0 a0_1 a0_2 a0_3 a0_4 a0_5 a0_6 a0_7 a0_8 a0_9 a0_10 a0_11)) else (spec_l01Ok.j0 k true a0_0 a0_1 a0_2 a0_3 a0_4 a0_5 a0_6 a0_7 a0_8 a0_9 a0_10 a0_11))
theorem spec_l01Ok.mono_l : ∀ k, (∀ y0 y1 y2 y3 y4 y5 y6 y7 y8 y9 y10 y11 y12, LeO (spec_l01Ok.j0 k y0 y1 y2 y3 y4 y5 y6 y7 y8 y9 y10 y11 y12) (spec_l01Ok.j0 (k + 1) y0 y1 y2 y3 y4 y5 y6 y7 y8 y9 y10 y11 y12)) ∧ (∀ y0 y1 y2 y3 y4 y5 y6 y7 y8 y9 y10 y11 y12, LeO (spec_l01Ok.l0 k y0 y1 y2 y3 y4 y5 y6 y7 y8 y9 y10 y11 y12) (spec_l01Ok.l0 (k + 1) y0 y1 y2 y3 y4 y5 y6 y7 y8 y9 y10 y11 y12))
  | 0 => ⟨fun _ _ _ _ _ _ _ _ _ _ _ _ _ r h => by simp [spec_l01Ok.j0] at h, fun _ _ _ _ _ _ _ _ _ _ _ _ _ r h => by simp [spec_l01Ok.l0] at h⟩
  | k + 1 => by
    obtain ⟨ih0, ih1⟩ := spec_l01Ok.mono_l k
    refine ⟨?_, ?_⟩
    · intro y0 y1 y2 y3 y4 y5 y6 y7 y8 y9 y10 y11 y12
      unfold spec_l01Ok.j0
      repeat' first
      | (with_reducible exact ih0 _ _ _ _ _ _ _ _ _ _ _ _ _)
      | (with_reducible exact ih1 _ _ _ _ _ _ _ _ _ _ _ _ _)
      | (with_reducible exact LeO.refl _)
      | (with_reducible exact LeO.none _)
      | (with_reducible refine LeO.ite ?_ ?_)
      | (with_reducible refine LeO.bind ?_ (fun _ => ?_))
      | exact ih0 _ _ _ _ _ _ _ _ _ _ _ _ _
      | exact ih1 _ _ _ _ _ _ _ _ _ _ _ _ _
      | exact LeO.none _
      | refine LeO.ite ?_ ?_
      | refine LeO.bind ?_ (fun _ => ?_)
    · intro y0 y1 y2 y3 y4 y5 y6 y7 y8 y9 y10 y11 y12
      unfold spec_l01Ok.l0
      repeat' first
      | (with_reducible exact ih0 _ _ _ _ _ _ _ _ _ _ _ _ _)
      | (with_reducible exact ih1 _ _ _ _ _ _ _ _ _ _ _ _ _)
      | (with_reducible exact LeO.refl _)
      | (with_reducible exact LeO.none _)
      | (with_reducible refine LeO.ite ?_ ?_)
      | (with_reducible refine LeO.bind ?_ (fun _ => ?_))
      | exact ih0 _ _ _ _ _ _ _ _ _ _ _ _ _
      | exact ih1 _ _ _ _ _ _ _ _ _ _ _ _ _
      | exact LeO.none _
      | refine LeO.ite ?_ ?_
      | refine LeO.bind ?_ (fun _ => ?_)
theorem spec_l01Ok.mono : ∀ a0 a1 a2 a3 a4 a5 a6 a7 a8 a9 a10 a11 k, LeO (spec_l01Ok.f k a0 a1 a2 a3 a4 a5 a6 a7 a8 a9 a10 a11) (spec_l01Ok.f (k + 1) a0 a1 a2 a3 a4 a5 a6 a7 a8 a9 a10 a11) := by
  intro a0 a1 a2 a3 a4 a5 a6 a7 a8 a9 a10 a11 k
  obtain ⟨ih0, ih1⟩ := spec_l01Ok.mono_l k
  unfold spec_l01Ok.f
  repeat' first
      | (with_reducible exact ih0 _ _ _ _ _ _ _ _ _ _ _ _ _)
      | (with_reducible exact ih1 _ _ _ _ _ _ _ _ _ _ _ _ _)
      | (with_reducible exact LeO.refl _)
      | (with_reducible exact LeO.none _)
      | (with_reducible refine LeO.ite ?_ ?_)
      | (with_reducible refine LeO.bind ?_ (fun _ => ?_))
      | exact ih0 _ _ _ _ _ _ _ _ _ _ _ _ _
      | exact ih1 _ _ _ _ _ _ _ _ _ _ _ _ _
      | exact LeO.none _
      | refine LeO.ite ?_ ?_
      | refine LeO.bind ?_ (fun _ => ?_)
set_option maxHeartbeats 8000000 in
set_option maxRecDepth 100000 in
theorem spec_l01Ok.calls (k : Nat) (b0 : Nat) (a0_0 : Int) (a0_1 : Int) (a0_2 : Int) (a0_3 : Int) (a0_4 : Int) (a0_5 : Int) (a0_6 : Int) (a0_7 : Int) (a0_8 : Int) (a0_9 : Int) (a0_10 : Int) (a0_11 : Int) (r : Bool) (w : World) (hx0 : w.heap[b0]? = some (.cells #[.int .i8 a0_0, .int .i8 a0_1, .int .u16 a0_2, .int .u16 a0_3, .int .u16 a0_4, .int .u16 a0_5, .int .u16 a0_6, .int .u16 a0_7, .int .u16 a0_8, .int .u16 a0_9, .int .u16 a0_10, .int .u16 a0_11] 35 (0, 0))) (h : spec_l01Ok.f k a0_0 a0_1 a0_2 a0_3 a0_4 a0_5 a0_6 a0_7 a0_8 a0_9 a0_10 a0_11 = some r) :
    Calls Try.prog 40 #[.pointer (some ⟨b0, 0, none⟩)] w fun e w' => e = .returned (.bool r) ∧ Drawn0 w w' := by
 have BK0 := ak hx0
 clear hx0
 have H : ((spec_l00In.f (wrap64 (a0_0)) 1 10).bind fun t127 => (if t127 = true then ((spec_l00In.f (wrap64 (a0_1)) 1 10).bind fun t128 => (spec_l01Ok.j0 k (!t128) a0_0 a0_1 a0_2 a0_3 a0_4 a0_5 a0_6 a0_7 a0_8 a0_9 a0_10 a0_11)) else (spec_l01Ok.j0 k true a0_0 a0_1 a0_2 a0_3 a0_4 a0_5 a0_6 a0_7 a0_8 a0_9 a0_10 a0_11))) = some r := h
 clear h
 have HC2 := ak H
 clear H
 go_enter Try.func40, Try.ntmps40
 go_upto_region 1 with (fail)
 repeat (go_quiet (fail); go_upto_region 1 with (fail))
 go_cut [19] (fun v19 wc => ∃ (kq : Nat) (x19_1 : Bool), v19 = .bool x19_1 ∧ Aside0 (spec_l01Ok.j0 kq x19_1 a0_0 a0_1 a0_2 a0_3 a0_4 a0_5 a0_6 a0_7 a0_8 a0_9 a0_10 a0_11 = some r) ∧ Aside0 (kq ≤ k) ∧ Aside0 (wc.heap[b0]? = some (.cells #[.int .i8 a0_0, .int .i8 a0_1, .int .u16 a0_2, .int .u16 a0_3, .int .u16 a0_4, .int .u16 a0_5, .int .u16 a0_6, .int .u16 a0_7, .int .u16 a0_8, .int .u16 a0_9, .int .u16 a0_10, .int .u16 a0_11] 35 (0, 0))) ∧ Drawn0 w wc)
 case first => (
 have H := HC2.out
 clear HC2
 replace H := Option.bind_eq_some_iff.mp H
 obtain ⟨t127, A30, H⟩ := H
 replace H : (if t127 = true then ((spec_l00In.f (wrap64 (a0_1)) 1 10).bind fun t128 => (spec_l01Ok.j0 k (!t128) a0_0 a0_1 a0_2 a0_3 a0_4 a0_5 a0_6 a0_7 a0_8 a0_9 a0_10 a0_11)) else (spec_l01Ok.j0 k true a0_0 a0_1 a0_2 a0_3 a0_4 a0_5 a0_6 a0_7 a0_8 a0_9 a0_10 a0_11)) = some r := H
 have A3 := ak A30
 clear A30
 by_cases c4 : t127 = true
 {
 subst c4
 have H1 : ((spec_l00In.f (wrap64 (a0_1)) 1 10).bind fun t128 => (spec_l01Ok.j0 k (!t128) a0_0 a0_1 a0_2 a0_3 a0_4 a0_5 a0_6 a0_7 a0_8 a0_9 a0_10 a0_11)) = some r := by rw [if_pos rfl] at H; exact H
 clear H
 have H := H1
 clear H1
 replace H := Option.bind_eq_some_iff.mp H
 obtain ⟨t128, A50, H⟩ := H
 replace H : (spec_l01Ok.j0 k (!t128) a0_0 a0_1 a0_2 a0_3 a0_4 a0_5 a0_6 a0_7 a0_8 a0_9 a0_10 a0_11) = some r := H
 have A5 := ak A50
 clear A50
 have H' := ak H
 clear H
 obtain ⟨hcz6_0, hcz6_1, hcz6_2, hcz6_3, hcz6_4, hcz6_5, hcz6_6, hcz6_7, hcz6_8, hcz6_9, hcz6_10, hcz6_11, hfz6_0, hfz6_1, hfz6_2, hfz6_3, hfz6_4, hfz6_5, hfz6_6, hfz6_7, hfz6_8, hfz6_9, hfz6_10, hfz6_11⟩ := cz12 w BK0
 go_wp2_with (first | (go_at_call 72; (with_reducible refine (spec_l00In.calls (wrap64 (a0_0)) 1 10 true _ A3.out).mono ?_); rintro e w' ⟨rfl, ⟨nd, rfl⟩⟩) | (go_at_call 72; (with_reducible refine (spec_l00In.calls (wrap64 (a0_1)) 1 10 t128 _ A5.out).mono ?_); rintro e w' ⟨rfl, ⟨nd, rfl⟩⟩))
 repeat (go_quiet (fail))
 go_meet
 case rel => exact ⟨_, (!t128), (by first | rfl | (simp; done) | (simp [*]; done)), H', ⟨by first | omega | exact Nat.le_refl _⟩, ⟨(zK BK0.out)⟩, by repeat (first | exact Drawn0.refl _ | apply Drawn0.step)⟩
 }
 {
 replace c4 := Bool.eq_false_iff.mpr c4
 subst c4
 have H1 : (spec_l01Ok.j0 k true a0_0 a0_1 a0_2 a0_3 a0_4 a0_5 a0_6 a0_7 a0_8 a0_9 a0_10 a0_11) = some r := by rw [if_neg (show ¬ (false = true) by decide)] at H; exact H
 clear H
 have H := H1
 clear H1
 have H' := ak H
 clear H
 obtain ⟨hcz7_0, hcz7_1, hcz7_2, hcz7_3, hcz7_4, hcz7_5, hcz7_6, hcz7_7, hcz7_8, hcz7_9, hcz7_10, hcz7_11, hfz7_0, hfz7_1, hfz7_2, hfz7_3, hfz7_4, hfz7_5, hfz7_6, hfz7_7, hfz7_8, hfz7_9, hfz7_10, hfz7_11⟩ := cz12 w BK0
 go_wp2_with (first | (go_at_call 72; (with_reducible refine (spec_l00In.calls (wrap64 (a0_0)) 1 10 false _ A3.out).mono ?_); rintro e w' ⟨rfl, ⟨nd, rfl⟩⟩))
 repeat (go_quiet (fail))
 go_meet
 case rel => exact ⟨_, (true), (by first | rfl | (simp; done) | (simp [*]; done)), H', ⟨by first | omega | exact Nat.le_refl _⟩, ⟨(zK BK0.out)⟩, by repeat (first | exact Drawn0.refl _ | apply Drawn0.step)⟩
 }
 )
 case rest => (
 clear HC2
 obtain ⟨kq, x19_1, rfl, HA, HJ1, BK0, ⟨mc1, rfl⟩⟩ := hcut
 cases kq with
 | zero => exact absurd HA.out (by simp [spec_l01Ok.j0])
 | succ kj1 => (
 have H := HA.out
 clear HA
 simp only [spec_l01Ok.j0] at H
 by_cases c8 : x19_1 = true
 {
 subst c8
 have H1 : (some false) = some r := by rw [if_pos rfl] at H; exact H
 clear H
 have H := H1
 clear H1
 obtain rfl := Option.some.inj H
 go_wp2
 repeat (go_quiet (fail); try go_wp2)
 go_ret
 exact ⟨by first | rfl | (simp; done) | (simp [*]; done), by repeat (first | exact Drawn0.refl _ | apply Drawn0.step)⟩
 }
 {
 replace c8 := Bool.eq_false_iff.mpr c8
 subst c8
 have H1 : (spec_l01Ok.l0 kj1 0 a0_0 a0_1 a0_2 a0_3 a0_4 a0_5 a0_6 a0_7 a0_8 a0_9 a0_10 a0_11) = some r := by rw [if_neg (show ¬ (false = true) by decide)] at H; exact H
 clear H
 have H := H1
 clear H1
 have H' := ak H
 clear H
 go_wp2
 repeat (go_quiet (fail); try go_wp2)
 go_loopg [3] kj1 (fun kq v3 w' => ∃ (x3_2 : Int), v3 = .int .i64 x3_2 ∧ Aside0 (spec_l01Ok.l0 kq x3_2 a0_0 a0_1 a0_2 a0_3 a0_4 a0_5 a0_6 a0_7 a0_8 a0_9 a0_10 a0_11 = some r) ∧ Aside0 (kq ≤ kj1) ∧ Aside0 (w'.heap[b0]? = some (.cells #[.int .i8 a0_0, .int .i8 a0_1, .int .u16 a0_2, .int .u16 a0_3, .int .u16 a0_4, .int .u16 a0_5, .int .u16 a0_6, .int .u16 a0_7, .int .u16 a0_8, .int .u16 a0_9, .int .u16 a0_10, .int .u16 a0_11] 35 (0, 0))) ∧ Drawn0 w w')
 case atStart => exact ⟨(0), (by first | rfl | (simp; done) | (simp [*]; done)), H', ⟨Nat.le_refl _⟩, ⟨(zK BK0.out)⟩, by repeat (first | exact Drawn0.refl _ | apply Drawn0.step)⟩
 case round => (
 clear H'
 try clear c8
 obtain ⟨x3_2, rfl, HA, HK2, BK0, ⟨m2, rfl⟩⟩ := hrel
 cases gk with
 | zero => exact absurd HA.out (by simp [spec_l01Ok.l0])
 | succ k2 => (
 have H := HA.out
 clear HA
 simp only [spec_l01Ok.l0] at H
 by_cases c9 : x3_2 < 10
 {
 rw [if_pos c9] at H
 have c9b0 : decide (x3_2 < 10) = true := decide_eq_true c9
 clear c9
 by_cases c10 : 0 ≤ x3_2
 {
 rw [if_pos c10] at H
 have c10b0 : decide (0 ≤ x3_2) = true := decide_eq_true c10
 clear c10
 by_cases c11 : x3_2 = 0
 {
 rw [if_pos c11] at H
 subst c11
 obtain ⟨ji12, hji12⟩ : ∃ j_ : Int, (IntKind.u64.wrap (a0_0)) = j_ := ⟨_, rfl⟩
 replace H : (if 0 ≤ (ji12) then (if (shr .u16 a0_2 (ji12)) = 0 then (if (0 : Int) ≥ (wrap64 (a0_1)) then (if a0_2 = 0 then (spec_l01Ok.l0 k2 (wrap64 ((0 : Int) + 1)) a0_0 a0_1 a0_2 a0_3 a0_4 a0_5 a0_6 a0_7 a0_8 a0_9 a0_10 a0_11) else (some false)) else (spec_l01Ok.l0 k2 (wrap64 ((0 : Int) + 1)) a0_0 a0_1 a0_2 a0_3 a0_4 a0_5 a0_6 a0_7 a0_8 a0_9 a0_10 a0_11)) else (some false)) else (none)) = some r := by first | (rw [hji12] at H; exact H) | (simp only [hji12] at H ⊢; exact H)
 by_cases c13 : 0 ≤ (ji12)
 {
 rw [if_pos c13] at H
 have c13b0 := eq_true c13
 have c13b1 : decide (0 ≤ (ji12)) = true := decide_eq_true c13
 clear c13
 obtain ⟨ji14, hji14⟩ : ∃ j_ : Int, (shr .u16 a0_2 (ji12)) = j_ := ⟨_, rfl⟩
 replace H : (if (ji14) = 0 then (if (0 : Int) ≥ (wrap64 (a0_1)) then (if a0_2 = 0 then (spec_l01Ok.l0 k2 (wrap64 ((0 : Int) + 1)) a0_0 a0_1 a0_2 a0_3 a0_4 a0_5 a0_6 a0_7 a0_8 a0_9 a0_10 a0_11) else (some false)) else (spec_l01Ok.l0 k2 (wrap64 ((0 : Int) + 1)) a0_0 a0_1 a0_2 a0_3 a0_4 a0_5 a0_6 a0_7 a0_8 a0_9 a0_10 a0_11)) else (some false)) = some r := by first | (rw [hji14] at H; exact H) | (simp only [hji14] at H ⊢; exact H)
 have hji14_ : (a0_2 / 2 ^ min (ji12).toNat 16) = ji14 := hji14
 have hji14z : (ji12) ≤ 16 → (a0_2 / 2 ^ (ji12).toNat) = ji14 := shr_small hji14
 by_cases c15 : (ji14) = 0
 {
 rw [if_pos c15] at H
 have c15b0 : ((ji14) == 0) = true := beq_iff_eq.mpr c15
 have c15b1 : ((ji14) != 0) = false := bne_eq_false_iff_eq.mpr c15
 clear c15
 by_cases c16 : (0 : Int) ≥ (wrap64 (a0_1))
 {
 rw [if_pos c16] at H
 have c16b0 : decide ((wrap64 (a0_1)) ≤ (0 : Int)) = true := decide_eq_true c16
 (try (have c16b1 : decide ((IntKind.i64.wrap (a0_1)) ≤ (0 : Int)) = true := by first | simpa only [i64_w, i32_w] using (show decide ((wrap64 (a0_1)) ≤ (0 : Int)) = true from decide_eq_true c16) | simpa only [i64_w] using (show decide ((wrap64 (a0_1)) ≤ (0 : Int)) = true from decide_eq_true c16)))
 clear c16
 by_cases c17 : a0_2 = 0
 {
 rw [if_pos c17] at H
 have c17b0 : (a0_2 == 0) = true := beq_iff_eq.mpr c17
 have c17b1 : (a0_2 != 0) = false := bne_eq_false_iff_eq.mpr c17
 clear c17
 have H' := ak H
 clear H
 obtain ⟨hcz18_0, hcz18_1, hcz18_2, hcz18_3, hcz18_4, hcz18_5, hcz18_6, hcz18_7, hcz18_8, hcz18_9, hcz18_10, hcz18_11, hfz18_0, hfz18_1, hfz18_2, hfz18_3, hfz18_4, hfz18_5, hfz18_6, hfz18_7, hfz18_8, hfz18_9, hfz18_10, hfz18_11⟩ := cz12 w BK0
 go_wp2
 repeat (go_quiet (fail); try go_wp2)
 go_roundg k2
 case measure => have := HJ1.out; have := HK2.out; omega
 case rel => exact ⟨(wrap64 ((0 : Int) + 1)), (by first | rfl | (simp; done) | (simp [*]; done) | kernel_rfl), H', ⟨by have := HJ1.out; have := HK2.out; omega⟩, ⟨(zK BK0.out)⟩, by repeat (first | exact Drawn0.refl _ | apply Drawn0.step)⟩
 }
 {
 rw [if_neg c17] at H
 have c17b0 : (a0_2 == 0) = false := beq_eq_false_iff_ne.mpr c17
 have c17b1 : (a0_2 != 0) = true := bne_iff_ne.mpr c17
 obtain rfl := Option.some.inj H
 obtain ⟨hcz19_0, hcz19_1, hcz19_2, hcz19_3, hcz19_4, hcz19_5, hcz19_6, hcz19_7, hcz19_8, hcz19_9, hcz19_10, hcz19_11, hfz19_0, hfz19_1, hfz19_2, hfz19_3, hfz19_4, hfz19_5, hfz19_6, hfz19_7, hfz19_8, hfz19_9, hfz19_10, hfz19_11⟩ := cz12 w BK0
 go_wp2
 repeat (go_quiet (fail); try go_wp2)
 go_ret
 exact ⟨by first | rfl | (simp; done) | (simp only [← hji12, ← hji14] <;> (first | rfl | simp)) | (simp [*]; done), by repeat (first | exact Drawn0.refl _ | apply Drawn0.step)⟩
 }
 }
 {
 rw [if_neg c16] at H
 have c16b0 : decide ((wrap64 (a0_1)) ≤ (0 : Int)) = false := decide_eq_false c16
 (try (have c16b1 : decide ((IntKind.i64.wrap (a0_1)) ≤ (0 : Int)) = false := by first | simpa only [i64_w, i32_w] using (show decide ((wrap64 (a0_1)) ≤ (0 : Int)) = false from decide_eq_false c16) | simpa only [i64_w] using (show decide ((wrap64 (a0_1)) ≤ (0 : Int)) = false from decide_eq_false c16)))
 clear c16
 have H' := ak H
 clear H
 obtain ⟨hcz20_0, hcz20_1, hcz20_2, hcz20_3, hcz20_4, hcz20_5, hcz20_6, hcz20_7, hcz20_8, hcz20_9, hcz20_10, hcz20_11, hfz20_0, hfz20_1, hfz20_2, hfz20_3, hfz20_4, hfz20_5, hfz20_6, hfz20_7, hfz20_8, hfz20_9, hfz20_10, hfz20_11⟩ := cz12 w BK0
 go_wp2
 repeat (go_quiet (fail); try go_wp2)
 go_roundg k2
 case measure => have := HJ1.out; have := HK2.out; omega
 case rel => exact ⟨(wrap64 ((0 : Int) + 1)), (by first | rfl | (simp; done) | (simp [*]; done) | kernel_rfl), H', ⟨by have := HJ1.out; have := HK2.out; omega⟩, ⟨(zK BK0.out)⟩, by repeat (first | exact Drawn0.refl _ | apply Drawn0.step)⟩
 }
 }
 {
 rw [if_neg c15] at H
 have c15b0 : ((ji14) == 0) = false := beq_eq_false_iff_ne.mpr c15
 have c15b1 : ((ji14) != 0) = true := bne_iff_ne.mpr c15
 obtain rfl := Option.some.inj H
 obtain ⟨hcz21_0, hcz21_1, hcz21_2, hcz21_3, hcz21_4, hcz21_5, hcz21_6, hcz21_7, hcz21_8, hcz21_9, hcz21_10, hcz21_11, hfz21_0, hfz21_1, hfz21_2, hfz21_3, hfz21_4, hfz21_5, hfz21_6, hfz21_7, hfz21_8, hfz21_9, hfz21_10, hfz21_11⟩ := cz12 w BK0
 go_wp2
 repeat (go_quiet (fail); try go_wp2)
 go_ret
 exact ⟨by first | rfl | (simp; done) | (simp only [← hji12, ← hji14] <;> (first | rfl | simp)) | (simp [*]; done), by repeat (first | exact Drawn0.refl _ | apply Drawn0.step)⟩
 }
 }
 · rw [if_neg c13] at H; exact absurd H (by simp)
 }
 {
 rw [if_neg c11] at H
 have c11b0 : (x3_2 == 0) = false := beq_eq_false_iff_ne.mpr c11
 have c11b1 : (x3_2 != 0) = true := bne_iff_ne.mpr c11
 by_cases c22 : x3_2 = 1
 {
 rw [if_pos c22] at H
 subst c22
 obtain ⟨ji23, hji23⟩ : ∃ j_ : Int, (IntKind.u64.wrap (a0_0)) = j_ := ⟨_, rfl⟩
 replace H : (if 0 ≤ (ji23) then (if (shr .u16 a0_3 (ji23)) = 0 then (if (1 : Int) ≥ (wrap64 (a0_1)) then (if a0_3 = 0 then (spec_l01Ok.l0 k2 (wrap64 ((1 : Int) + 1)) a0_0 a0_1 a0_2 a0_3 a0_4 a0_5 a0_6 a0_7 a0_8 a0_9 a0_10 a0_11) else (some false)) else (spec_l01Ok.l0 k2 (wrap64 ((1 : Int) + 1)) a0_0 a0_1 a0_2 a0_3 a0_4 a0_5 a0_6 a0_7 a0_8 a0_9 a0_10 a0_11)) else (some false)) else (none)) = some r := by first | (rw [hji23] at H; exact H) | (simp only [hji23] at H ⊢; exact H)
 by_cases c24 : 0 ≤ (ji23)
 {
 rw [if_pos c24] at H
 have c24b0 := eq_true c24
 have c24b1 : decide (0 ≤ (ji23)) = true := decide_eq_true c24
 clear c24
 obtain ⟨ji25, hji25⟩ : ∃ j_ : Int, (shr .u16 a0_3 (ji23)) = j_ := ⟨_, rfl⟩
 replace H : (if (ji25) = 0 then (if (1 : Int) ≥ (wrap64 (a0_1)) then (if a0_3 = 0 then (spec_l01Ok.l0 k2 (wrap64 ((1 : Int) + 1)) a0_0 a0_1 a0_2 a0_3 a0_4 a0_5 a0_6 a0_7 a0_8 a0_9 a0_10 a0_11) else (some false)) else (spec_l01Ok.l0 k2 (wrap64 ((1 : Int) + 1)) a0_0 a0_1 a0_2 a0_3 a0_4 a0_5 a0_6 a0_7 a0_8 a0_9 a0_10 a0_11)) else (some false)) = some r := by first | (rw [hji25] at H; exact H) | (simp only [hji25] at H ⊢; exact H)
 have hji25_ : (a0_3 / 2 ^ min (ji23).toNat 16) = ji25 := hji25
 have hji25z : (ji23) ≤ 16 → (a0_3 / 2 ^ (ji23).toNat) = ji25 := shr_small hji25
 by_cases c26 : (ji25) = 0
 {
 rw [if_pos c26] at H
 have c26b0 : ((ji25) == 0) = true := beq_iff_eq.mpr c26
 have c26b1 : ((ji25) != 0) = false := bne_eq_false_iff_eq.mpr c26
 clear c26
 by_cases c27 : (1 : Int) ≥ (wrap64 (a0_1))
 {
 rw [if_pos c27] at H
 have c27b0 : decide ((wrap64 (a0_1)) ≤ (1 : Int)) = true := decide_eq_true c27
 (try (have c27b1 : decide ((IntKind.i64.wrap (a0_1)) ≤ (1 : Int)) = true := by first | simpa only [i64_w, i32_w] using (show decide ((wrap64 (a0_1)) ≤ (1 : Int)) = true from decide_eq_true c27) | simpa only [i64_w] using (show decide ((wrap64 (a0_1)) ≤ (1 : Int)) = true from decide_eq_true c27)))
 clear c27
 by_cases c28 : a0_3 = 0
 {
 rw [if_pos c28] at H
 have c28b0 : (a0_3 == 0) = true := beq_iff_eq.mpr c28
 have c28b1 : (a0_3 != 0) = false := bne_eq_false_iff_eq.mpr c28
 clear c28
 have H' := ak H
 clear H
 obtain ⟨hcz29_0, hcz29_1, hcz29_2, hcz29_3, hcz29_4, hcz29_5, hcz29_6, hcz29_7, hcz29_8, hcz29_9, hcz29_10, hcz29_11, hfz29_0, hfz29_1, hfz29_2, hfz29_3, hfz29_4, hfz29_5, hfz29_6, hfz29_7, hfz29_8, hfz29_9, hfz29_10, hfz29_11⟩ := cz12 w BK0
 go_wp2
 repeat (go_quiet (fail); try go_wp2)
 go_roundg k2
 case measure => have := HJ1.out; have := HK2.out; omega
 case rel => exact ⟨(wrap64 ((1 : Int) + 1)), (by first | rfl | (simp; done) | (simp [*]; done) | kernel_rfl), H', ⟨by have := HJ1.out; have := HK2.out; omega⟩, ⟨(zK BK0.out)⟩, by repeat (first | exact Drawn0.refl _ | apply Drawn0.step)⟩
 }
 {
 rw [if_neg c28] at H
 have c28b0 : (a0_3 == 0) = false := beq_eq_false_iff_ne.mpr c28
 have c28b1 : (a0_3 != 0) = true := bne_iff_ne.mpr c28
 obtain rfl := Option.some.inj H
 obtain ⟨hcz30_0, hcz30_1, hcz30_2, hcz30_3, hcz30_4, hcz30_5, hcz30_6, hcz30_7, hcz30_8, hcz30_9, hcz30_10, hcz30_11, hfz30_0, hfz30_1, hfz30_2, hfz30_3, hfz30_4, hfz30_5, hfz30_6, hfz30_7, hfz30_8, hfz30_9, hfz30_10, hfz30_11⟩ := cz12 w BK0
 go_wp2
 repeat (go_quiet (fail); try go_wp2)
 go_ret
 exact ⟨by first | rfl | (simp; done) | (simp only [← hji23, ← hji25] <;> (first | rfl | simp)) | (simp [*]; done), by repeat (first | exact Drawn0.refl _ | apply Drawn0.step)⟩
 }
 }
 {
 rw [if_neg c27] at H
 have c27b0 : decide ((wrap64 (a0_1)) ≤ (1 : Int)) = false := decide_eq_false c27
 (try (have c27b1 : decide ((IntKind.i64.wrap (a0_1)) ≤ (1 : Int)) = false := by first | simpa only [i64_w, i32_w] using (show decide ((wrap64 (a0_1)) ≤ (1 : Int)) = false from decide_eq_false c27) | simpa only [i64_w] using (show decide ((wrap64 (a0_1)) ≤ (1 : Int)) = false from decide_eq_false c27)))
 clear c27
 have H' := ak H
 clear H
 obtain ⟨hcz31_0, hcz31_1, hcz31_2, hcz31_3, hcz31_4, hcz31_5, hcz31_6, hcz31_7, hcz31_8, hcz31_9, hcz31_10, hcz31_11, hfz31_0, hfz31_1, hfz31_2, hfz31_3, hfz31_4, hfz31_5, hfz31_6, hfz31_7, hfz31_8, hfz31_9, hfz31_10, hfz31_11⟩ := cz12 w BK0
 go_wp2
 repeat (go_quiet (fail); try go_wp2)
 go_roundg k2
 case measure => have := HJ1.out; have := HK2.out; omega
 case rel => exact ⟨(wrap64 ((1 : Int) + 1)), (by first | rfl | (simp; done) | (simp [*]; done) | kernel_rfl), H', ⟨by have := HJ1.out; have := HK2.out; omega⟩, ⟨(zK BK0.out)⟩, by repeat (first | exact Drawn0.refl _ | apply Drawn0.step)⟩
 }
 }
 {
 rw [if_neg c26] at H
 have c26b0 : ((ji25) == 0) = false := beq_eq_false_iff_ne.mpr c26
 have c26b1 : ((ji25) != 0) = true := bne_iff_ne.mpr c26
 obtain rfl := Option.some.inj H
 obtain ⟨hcz32_0, hcz32_1, hcz32_2, hcz32_3, hcz32_4, hcz32_5, hcz32_6, hcz32_7, hcz32_8, hcz32_9, hcz32_10, hcz32_11, hfz32_0, hfz32_1, hfz32_2, hfz32_3, hfz32_4, hfz32_5, hfz32_6, hfz32_7, hfz32_8, hfz32_9, hfz32_10, hfz32_11⟩ := cz12 w BK0
 go_wp2
 repeat (go_quiet (fail); try go_wp2)
 go_ret
 exact ⟨by first | rfl | (simp; done) | (simp only [← hji23, ← hji25] <;> (first | rfl | simp)) | (simp [*]; done), by repeat (first | exact Drawn0.refl _ | apply Drawn0.step)⟩
 }
 }
 · rw [if_neg c24] at H; exact absurd H (by simp)
 }
 {
 rw [if_neg c22] at H
 have c22b0 : (x3_2 == 1) = false := beq_eq_false_iff_ne.mpr c22
 have c22b1 : (x3_2 != 1) = true := bne_iff_ne.mpr c22
 by_cases c33 : x3_2 = 2
 {
 rw [if_pos c33] at H
 subst c33
 obtain ⟨ji34, hji34⟩ : ∃ j_ : Int, (IntKind.u64.wrap (a0_0)) = j_ := ⟨_, rfl⟩
 replace H : (if 0 ≤ (ji34) then (if (shr .u16 a0_4 (ji34)) = 0 then (if (2 : Int) ≥ (wrap64 (a0_1)) then (if a0_4 = 0 then (spec_l01Ok.l0 k2 (wrap64 ((2 : Int) + 1)) a0_0 a0_1 a0_2 a0_3 a0_4 a0_5 a0_6 a0_7 a0_8 a0_9 a0_10 a0_11) else (some false)) else (spec_l01Ok.l0 k2 (wrap64 ((2 : Int) + 1)) a0_0 a0_1 a0_2 a0_3 a0_4 a0_5 a0_6 a0_7 a0_8 a0_9 a0_10 a0_11)) else (some false)) else (none)) = some r := by first | (rw [hji34] at H; exact H) | (simp only [hji34] at H ⊢; exact H)
 by_cases c35 : 0 ≤ (ji34)
 {
 rw [if_pos c35] at H
 have c35b0 := eq_true c35
 have c35b1 : decide (0 ≤ (ji34)) = true := decide_eq_true c35
 clear c35
 obtain ⟨ji36, hji36⟩ : ∃ j_ : Int, (shr .u16 a0_4 (ji34)) = j_ := ⟨_, rfl⟩
 replace H : (if (ji36) = 0 then (if (2 : Int) ≥ (wrap64 (a0_1)) then (if a0_4 = 0 then (spec_l01Ok.l0 k2 (wrap64 ((2 : Int) + 1)) a0_0 a0_1 a0_2 a0_3 a0_4 a0_5 a0_6 a0_7 a0_8 a0_9 a0_10 a0_11) else (some false)) else (spec_l01Ok.l0 k2 (wrap64 ((2 : Int) + 1)) a0_0 a0_1 a0_2 a0_3 a0_4 a0_5 a0_6 a0_7 a0_8 a0_9 a0_10 a0_11)) else (some false)) = some r := by first | (rw [hji36] at H; exact H) | (simp only [hji36] at H ⊢; exact H)
 have hji36_ : (a0_4 / 2 ^ min (ji34).toNat 16) = ji36 := hji36
 have hji36z : (ji34) ≤ 16 → (a0_4 / 2 ^ (ji34).toNat) = ji36 := shr_small hji36
 by_cases c37 : (ji36) = 0
 {
 rw [if_pos c37] at H
 have c37b0 : ((ji36) == 0) = true := beq_iff_eq.mpr c37
 have c37b1 : ((ji36) != 0) = false := bne_eq_false_iff_eq.mpr c37
 clear c37
 by_cases c38 : (2 : Int) ≥ (wrap64 (a0_1))
 {
 rw [if_pos c38] at H
 have c38b0 : decide ((wrap64 (a0_1)) ≤ (2 : Int)) = true := decide_eq_true c38
 (try (have c38b1 : decide ((IntKind.i64.wrap (a0_1)) ≤ (2 : Int)) = true := by first | simpa only [i64_w, i32_w] using (show decide ((wrap64 (a0_1)) ≤ (2 : Int)) = true from decide_eq_true c38) | simpa only [i64_w] using (show decide ((wrap64 (a0_1)) ≤ (2 : Int)) = true from decide_eq_true c38)))
 clear c38
 by_cases c39 : a0_4 = 0
 {
 rw [if_pos c39] at H
 have c39b0 : (a0_4 == 0) = true := beq_iff_eq.mpr c39
 have c39b1 : (a0_4 != 0) = false := bne_eq_false_iff_eq.mpr c39
 clear c39
 have H' := ak H
 clear H
 obtain ⟨hcz40_0, hcz40_1, hcz40_2, hcz40_3, hcz40_4, hcz40_5, hcz40_6, hcz40_7, hcz40_8, hcz40_9, hcz40_10, hcz40_11, hfz40_0, hfz40_1, hfz40_2, hfz40_3, hfz40_4, hfz40_5, hfz40_6, hfz40_7, hfz40_8, hfz40_9, hfz40_10, hfz40_11⟩ := cz12 w BK0
 go_wp2
 repeat (go_quiet (fail); try go_wp2)
 go_roundg k2
 case measure => have := HJ1.out; have := HK2.out; omega
 case rel => exact ⟨(wrap64 ((2 : Int) + 1)), (by first | rfl | (simp; done) | (simp [*]; done) | kernel_rfl), H', ⟨by have := HJ1.out; have := HK2.out; omega⟩, ⟨(zK BK0.out)⟩, by repeat (first | exact Drawn0.refl _ | apply Drawn0.step)⟩
 }
 {
 rw [if_neg c39] at H
 have c39b0 : (a0_4 == 0) = false := beq_eq_false_iff_ne.mpr c39
 have c39b1 : (a0_4 != 0) = true := bne_iff_ne.mpr c39
 obtain rfl := Option.some.inj H
 obtain ⟨hcz41_0, hcz41_1, hcz41_2, hcz41_3, hcz41_4, hcz41_5, hcz41_6, hcz41_7, hcz41_8, hcz41_9, hcz41_10, hcz41_11, hfz41_0, hfz41_1, hfz41_2, hfz41_3, hfz41_4, hfz41_5, hfz41_6, hfz41_7, hfz41_8, hfz41_9, hfz41_10, hfz41_11⟩ := cz12 w BK0
 go_wp2
 repeat (go_quiet (fail); try go_wp2)
 go_ret
 exact ⟨by first | rfl | (simp; done) | (simp only [← hji34, ← hji36] <;> (first | rfl | simp)) | (simp [*]; done), by repeat (first | exact Drawn0.refl _ | apply Drawn0.step)⟩
 }
 }
 {
 rw [if_neg c38] at H
 have c38b0 : decide ((wrap64 (a0_1)) ≤ (2 : Int)) = false := decide_eq_false c38
 (try (have c38b1 : decide ((IntKind.i64.wrap (a0_1)) ≤ (2 : Int)) = false := by first | simpa only [i64_w, i32_w] using (show decide ((wrap64 (a0_1)) ≤ (2 : Int)) = false from decide_eq_false c38) | simpa only [i64_w] using (show decide ((wrap64 (a0_1)) ≤ (2 : Int)) = false from decide_eq_false c38)))
 clear c38
 have H' := ak H
 clear H
 obtain ⟨hcz42_0, hcz42_1, hcz42_2, hcz42_3, hcz42_4, hcz42_5, hcz42_6, hcz42_7, hcz42_8, hcz42_9, hcz42_10, hcz42_11, hfz42_0, hfz42_1, hfz42_2, hfz42_3, hfz42_4, hfz42_5, hfz42_6, hfz42_7, hfz42_8, hfz42_9, hfz42_10, hfz42_11⟩ := cz12 w BK0
 go_wp2
 repeat (go_quiet (fail); try go_wp2)
 go_roundg k2
 case measure => have := HJ1.out; have := HK2.out; omega
 case rel => exact ⟨(wrap64 ((2 : Int) + 1)), (by first | rfl | (simp; done) | (simp [*]; done) | kernel_rfl), H', ⟨by have := HJ1.out; have := HK2.out; omega⟩, ⟨(zK BK0.out)⟩, by repeat (first | exact Drawn0.refl _ | apply Drawn0.step)⟩
 }
 }
 {
 rw [if_neg c37] at H
 have c37b0 : ((ji36) == 0) = false := beq_eq_false_iff_ne.mpr c37
 have c37b1 : ((ji36) != 0) = true := bne_iff_ne.mpr c37
 obtain rfl := Option.some.inj H
 obtain ⟨hcz43_0, hcz43_1, hcz43_2, hcz43_3, hcz43_4, hcz43_5, hcz43_6, hcz43_7, hcz43_8, hcz43_9, hcz43_10, hcz43_11, hfz43_0, hfz43_1, hfz43_2, hfz43_3, hfz43_4, hfz43_5, hfz43_6, hfz43_7, hfz43_8, hfz43_9, hfz43_10, hfz43_11⟩ := cz12 w BK0
 go_wp2
 repeat (go_quiet (fail); try go_wp2)
 go_ret
 exact ⟨by first | rfl | (simp; done) | (simp only [← hji34, ← hji36] <;> (first | rfl | simp)) | (simp [*]; done), by repeat (first | exact Drawn0.refl _ | apply Drawn0.step)⟩
 }
 }
 · rw [if_neg c35] at H; exact absurd H (by simp)
 }
 {
 rw [if_neg c33] at H
 have c33b0 : (x3_2 == 2) = false := beq_eq_false_iff_ne.mpr c33
 have c33b1 : (x3_2 != 2) = true := bne_iff_ne.mpr c33
 by_cases c44 : x3_2 = 3
 {
 rw [if_pos c44] at H
 subst c44
 obtain ⟨ji45, hji45⟩ : ∃ j_ : Int, (IntKind.u64.wrap (a0_0)) = j_ := ⟨_, rfl⟩
 replace H : (if 0 ≤ (ji45) then (if (shr .u16 a0_5 (ji45)) = 0 then (if (3 : Int) ≥ (wrap64 (a0_1)) then (if a0_5 = 0 then (spec_l01Ok.l0 k2 (wrap64 ((3 : Int) + 1)) a0_0 a0_1 a0_2 a0_3 a0_4 a0_5 a0_6 a0_7 a0_8 a0_9 a0_10 a0_11) else (some false)) else (spec_l01Ok.l0 k2 (wrap64 ((3 : Int) + 1)) a0_0 a0_1 a0_2 a0_3 a0_4 a0_5 a0_6 a0_7 a0_8 a0_9 a0_10 a0_11)) else (some false)) else (none)) = some r := by first | (rw [hji45] at H; exact H) | (simp only [hji45] at H ⊢; exact H)
 by_cases c46 : 0 ≤ (ji45)
 {
 rw [if_pos c46] at H
 have c46b0 := eq_true c46
 have c46b1 : decide (0 ≤ (ji45)) = true := decide_eq_true c46
 clear c46
 obtain ⟨ji47, hji47⟩ : ∃ j_ : Int, (shr .u16 a0_5 (ji45)) = j_ := ⟨_, rfl⟩
 replace H : (if (ji47) = 0 then (if (3 : Int) ≥ (wrap64 (a0_1)) then (if a0_5 = 0 then (spec_l01Ok.l0 k2 (wrap64 ((3 : Int) + 1)) a0_0 a0_1 a0_2 a0_3 a0_4 a0_5 a0_6 a0_7 a0_8 a0_9 a0_10 a0_11) else (some false)) else (spec_l01Ok.l0 k2 (wrap64 ((3 : Int) + 1)) a0_0 a0_1 a0_2 a0_3 a0_4 a0_5 a0_6 a0_7 a0_8 a0_9 a0_10 a0_11)) else (some false)) = some r := by first | (rw [hji47] at H; exact H) | (simp only [hji47] at H ⊢; exact H)
 have hji47_ : (a0_5 / 2 ^ min (ji45).toNat 16) = ji47 := hji47
 have hji47z : (ji45) ≤ 16 → (a0_5 / 2 ^ (ji45).toNat) = ji47 := shr_small hji47
 by_cases c48 : (ji47) = 0
 {
 rw [if_pos c48] at H
 have c48b0 : ((ji47) == 0) = true := beq_iff_eq.mpr c48
 have c48b1 : ((ji47) != 0) = false := bne_eq_false_iff_eq.mpr c48
 clear c48
 by_cases c49 : (3 : Int) ≥ (wrap64 (a0_1))
 {
 rw [if_pos c49] at H
 have c49b0 : decide ((wrap64 (a0_1)) ≤ (3 : Int)) = true := decide_eq_true c49
 (try (have c49b1 : decide ((IntKind.i64.wrap (a0_1)) ≤ (3 : Int)) = true := by first | simpa only [i64_w, i32_w] using (show decide ((wrap64 (a0_1)) ≤ (3 : Int)) = true from decide_eq_true c49) | simpa only [i64_w] using (show decide ((wrap64 (a0_1)) ≤ (3 : Int)) = true from decide_eq_true c49)))
 clear c49
 by_cases c50 : a0_5 = 0
 {
 rw [if_pos c50] at H
 have c50b0 : (a0_5 == 0) = true := beq_iff_eq.mpr c50
 have c50b1 : (a0_5 != 0) = false := bne_eq_false_iff_eq.mpr c50
 clear c50
 have H' := ak H
 clear H
 obtain ⟨hcz51_0, hcz51_1, hcz51_2, hcz51_3, hcz51_4, hcz51_5, hcz51_6, hcz51_7, hcz51_8, hcz51_9, hcz51_10, hcz51_11, hfz51_0, hfz51_1, hfz51_2, hfz51_3, hfz51_4, hfz51_5, hfz51_6, hfz51_7, hfz51_8, hfz51_9, hfz51_10, hfz51_11⟩ := cz12 w BK0
 go_wp2
 repeat (go_quiet (fail); try go_wp2)
 go_roundg k2
 case measure => have := HJ1.out; have := HK2.out; omega
 case rel => exact ⟨(wrap64 ((3 : Int) + 1)), (by first | rfl | (simp; done) | (simp [*]; done) | kernel_rfl), H', ⟨by have := HJ1.out; have := HK2.out; omega⟩, ⟨(zK BK0.out)⟩, by repeat (first | exact Drawn0.refl _ | apply Drawn0.step)⟩
 }
 {
 rw [if_neg c50] at H
 have c50b0 : (a0_5 == 0) = false := beq_eq_false_iff_ne.mpr c50
 have c50b1 : (a0_5 != 0) = true := bne_iff_ne.mpr c50
 obtain rfl := Option.some.inj H
 obtain ⟨hcz52_0, hcz52_1, hcz52_2, hcz52_3, hcz52_4, hcz52_5, hcz52_6, hcz52_7, hcz52_8, hcz52_9, hcz52_10, hcz52_11, hfz52_0, hfz52_1, hfz52_2, hfz52_3, hfz52_4, hfz52_5, hfz52_6, hfz52_7, hfz52_8, hfz52_9, hfz52_10, hfz52_11⟩ := cz12 w BK0
 go_wp2
 repeat (go_quiet (fail); try go_wp2)
 go_ret
 exact ⟨by first | rfl | (simp; done) | (simp only [← hji45, ← hji47] <;> (first | rfl | simp)) | (simp [*]; done), by repeat (first | exact Drawn0.refl _ | apply Drawn0.step)⟩
 }
 }
 {
 rw [if_neg c49] at H
 have c49b0 : decide ((wrap64 (a0_1)) ≤ (3 : Int)) = false := decide_eq_false c49
 (try (have c49b1 : decide ((IntKind.i64.wrap (a0_1)) ≤ (3 : Int)) = false := by first | simpa only [i64_w, i32_w] using (show decide ((wrap64 (a0_1)) ≤ (3 : Int)) = false from decide_eq_false c49) | simpa only [i64_w] using (show decide ((wrap64 (a0_1)) ≤ (3 : Int)) = false from decide_eq_false c49)))
 clear c49
 have H' := ak H
 clear H
 obtain ⟨hcz53_0, hcz53_1, hcz53_2, hcz53_3, hcz53_4, hcz53_5, hcz53_6, hcz53_7, hcz53_8, hcz53_9, hcz53_10, hcz53_11, hfz53_0, hfz53_1, hfz53_2, hfz53_3, hfz53_4, hfz53_5, hfz53_6, hfz53_7, hfz53_8, hfz53_9, hfz53_10, hfz53_11⟩ := cz12 w BK0
 go_wp2
 repeat (go_quiet (fail); try go_wp2)
 go_roundg k2
 case measure => have := HJ1.out; have := HK2.out; omega
 case rel => exact ⟨(wrap64 ((3 : Int) + 1)), (by first | rfl | (simp; done) | (simp [*]; done) | kernel_rfl), H', ⟨by have := HJ1.out; have := HK2.out; omega⟩, ⟨(zK BK0.out)⟩, by repeat (first | exact Drawn0.refl _ | apply Drawn0.step)⟩
 }
 }
 {
 rw [if_neg c48] at H
 have c48b0 : ((ji47) == 0) = false := beq_eq_false_iff_ne.mpr c48
 have c48b1 : ((ji47) != 0) = true := bne_iff_ne.mpr c48
 obtain rfl := Option.some.inj H
 obtain ⟨hcz54_0, hcz54_1, hcz54_2, hcz54_3, hcz54_4, hcz54_5, hcz54_6, hcz54_7, hcz54_8, hcz54_9, hcz54_10, hcz54_11, hfz54_0, hfz54_1, hfz54_2, hfz54_3, hfz54_4, hfz54_5, hfz54_6, hfz54_7, hfz54_8, hfz54_9, hfz54_10, hfz54_11⟩ := cz12 w BK0
 go_wp2
 repeat (go_quiet (fail); try go_wp2)
 go_ret
 exact ⟨by first | rfl | (simp; done) | (simp only [← hji45, ← hji47] <;> (first | rfl | simp)) | (simp [*]; done), by repeat (first | exact Drawn0.refl _ | apply Drawn0.step)⟩
 }
 }
 · rw [if_neg c46] at H; exact absurd H (by simp)
 }
 {
 rw [if_neg c44] at H
 have c44b0 : (x3_2 == 3) = false := beq_eq_false_iff_ne.mpr c44
 have c44b1 : (x3_2 != 3) = true := bne_iff_ne.mpr c44
 by_cases c55 : x3_2 = 4
 {
 rw [if_pos c55] at H
 subst c55
 obtain ⟨ji56, hji56⟩ : ∃ j_ : Int, (IntKind.u64.wrap (a0_0)) = j_ := ⟨_, rfl⟩
 replace H : (if 0 ≤ (ji56) then (if (shr .u16 a0_6 (ji56)) = 0 then (if (4 : Int) ≥ (wrap64 (a0_1)) then (if a0_6 = 0 then (spec_l01Ok.l0 k2 (wrap64 ((4 : Int) + 1)) a0_0 a0_1 a0_2 a0_3 a0_4 a0_5 a0_6 a0_7 a0_8 a0_9 a0_10 a0_11) else (some false)) else (spec_l01Ok.l0 k2 (wrap64 ((4 : Int) + 1)) a0_0 a0_1 a0_2 a0_3 a0_4 a0_5 a0_6 a0_7 a0_8 a0_9 a0_10 a0_11)) else (some false)) else (none)) = some r := by first | (rw [hji56] at H; exact H) | (simp only [hji56] at H ⊢; exact H)
 by_cases c57 : 0 ≤ (ji56)
 {
 rw [if_pos c57] at H
 have c57b0 := eq_true c57
 have c57b1 : decide (0 ≤ (ji56)) = true := decide_eq_true c57
 clear c57
 obtain ⟨ji58, hji58⟩ : ∃ j_ : Int, (shr .u16 a0_6 (ji56)) = j_ := ⟨_, rfl⟩
 replace H : (if (ji58) = 0 then (if (4 : Int) ≥ (wrap64 (a0_1)) then (if a0_6 = 0 then (spec_l01Ok.l0 k2 (wrap64 ((4 : Int) + 1)) a0_0 a0_1 a0_2 a0_3 a0_4 a0_5 a0_6 a0_7 a0_8 a0_9 a0_10 a0_11) else (some false)) else (spec_l01Ok.l0 k2 (wrap64 ((4 : Int) + 1)) a0_0 a0_1 a0_2 a0_3 a0_4 a0_5 a0_6 a0_7 a0_8 a0_9 a0_10 a0_11)) else (some false)) = some r := by first | (rw [hji58] at H; exact H) | (simp only [hji58] at H ⊢; exact H)
 have hji58_ : (a0_6 / 2 ^ min (ji56).toNat 16) = ji58 := hji58
 have hji58z : (ji56) ≤ 16 → (a0_6 / 2 ^ (ji56).toNat) = ji58 := shr_small hji58
 by_cases c59 : (ji58) = 0
 {
 rw [if_pos c59] at H
 have c59b0 : ((ji58) == 0) = true := beq_iff_eq.mpr c59
 have c59b1 : ((ji58) != 0) = false := bne_eq_false_iff_eq.mpr c59
 clear c59
 by_cases c60 : (4 : Int) ≥ (wrap64 (a0_1))
 {
 rw [if_pos c60] at H
 have c60b0 : decide ((wrap64 (a0_1)) ≤ (4 : Int)) = true := decide_eq_true c60
 (try (have c60b1 : decide ((IntKind.i64.wrap (a0_1)) ≤ (4 : Int)) = true := by first | simpa only [i64_w, i32_w] using (show decide ((wrap64 (a0_1)) ≤ (4 : Int)) = true from decide_eq_true c60) | simpa only [i64_w] using (show decide ((wrap64 (a0_1)) ≤ (4 : Int)) = true from decide_eq_true c60)))
 clear c60
 by_cases c61 : a0_6 = 0
 {
 rw [if_pos c61] at H
 have c61b0 : (a0_6 == 0) = true := beq_iff_eq.mpr c61
 have c61b1 : (a0_6 != 0) = false := bne_eq_false_iff_eq.mpr c61
 clear c61
 have H' := ak H
 clear H
 obtain ⟨hcz62_0, hcz62_1, hcz62_2, hcz62_3, hcz62_4, hcz62_5, hcz62_6, hcz62_7, hcz62_8, hcz62_9, hcz62_10, hcz62_11, hfz62_0, hfz62_1, hfz62_2, hfz62_3, hfz62_4, hfz62_5, hfz62_6, hfz62_7, hfz62_8, hfz62_9, hfz62_10, hfz62_11⟩ := cz12 w BK0
 go_wp2
 repeat (go_quiet (fail); try go_wp2)
 go_roundg k2
 case measure => have := HJ1.out; have := HK2.out; omega
 case rel => exact ⟨(wrap64 ((4 : Int) + 1)), (by first | rfl | (simp; done) | (simp [*]; done) | kernel_rfl), H', ⟨by have := HJ1.out; have := HK2.out; omega⟩, ⟨(zK BK0.out)⟩, by repeat (first | exact Drawn0.refl _ | apply Drawn0.step)⟩
 }
 {
 rw [if_neg c61] at H
 have c61b0 : (a0_6 == 0) = false := beq_eq_false_iff_ne.mpr c61
 have c61b1 : (a0_6 != 0) = true := bne_iff_ne.mpr c61
 obtain rfl := Option.some.inj H
 obtain ⟨hcz63_0, hcz63_1, hcz63_2, hcz63_3, hcz63_4, hcz63_5, hcz63_6, hcz63_7, hcz63_8, hcz63_9, hcz63_10, hcz63_11, hfz63_0, hfz63_1, hfz63_2, hfz63_3, hfz63_4, hfz63_5, hfz63_6, hfz63_7, hfz63_8, hfz63_9, hfz63_10, hfz63_11⟩ := cz12 w BK0
 go_wp2
 repeat (go_quiet (fail); try go_wp2)
 go_ret
 exact ⟨by first | rfl | (simp; done) | (simp only [← hji56, ← hji58] <;> (first | rfl | simp)) | (simp [*]; done), by repeat (first | exact Drawn0.refl _ | apply Drawn0.step)⟩
 }
 }
 {
 rw [if_neg c60] at H
 have c60b0 : decide ((wrap64 (a0_1)) ≤ (4 : Int)) = false := decide_eq_false c60
 (try (have c60b1 : decide ((IntKind.i64.wrap (a0_1)) ≤ (4 : Int)) = false := by first | simpa only [i64_w, i32_w] using (show decide ((wrap64 (a0_1)) ≤ (4 : Int)) = false from decide_eq_false c60) | simpa only [i64_w] using (show decide ((wrap64 (a0_1)) ≤ (4 : Int)) = false from decide_eq_false c60)))
 clear c60
 have H' := ak H
 clear H
 obtain ⟨hcz64_0, hcz64_1, hcz64_2, hcz64_3, hcz64_4, hcz64_5, hcz64_6, hcz64_7, hcz64_8, hcz64_9, hcz64_10, hcz64_11, hfz64_0, hfz64_1, hfz64_2, hfz64_3, hfz64_4, hfz64_5, hfz64_6, hfz64_7, hfz64_8, hfz64_9, hfz64_10, hfz64_11⟩ := cz12 w BK0
 go_wp2
 repeat (go_quiet (fail); try go_wp2)
 go_roundg k2
 case measure => have := HJ1.out; have := HK2.out; omega
 case rel => exact ⟨(wrap64 ((4 : Int) + 1)), (by first | rfl | (simp; done) | (simp [*]; done) | kernel_rfl), H', ⟨by have := HJ1.out; have := HK2.out; omega⟩, ⟨(zK BK0.out)⟩, by repeat (first | exact Drawn0.refl _ | apply Drawn0.step)⟩
 }
 }
 {
 rw [if_neg c59] at H
 have c59b0 : ((ji58) == 0) = false := beq_eq_false_iff_ne.mpr c59
 have c59b1 : ((ji58) != 0) = true := bne_iff_ne.mpr c59
 obtain rfl := Option.some.inj H
 obtain ⟨hcz65_0, hcz65_1, hcz65_2, hcz65_3, hcz65_4, hcz65_5, hcz65_6, hcz65_7, hcz65_8, hcz65_9, hcz65_10, hcz65_11, hfz65_0, hfz65_1, hfz65_2, hfz65_3, hfz65_4, hfz65_5, hfz65_6, hfz65_7, hfz65_8, hfz65_9, hfz65_10, hfz65_11⟩ := cz12 w BK0
 go_wp2
 repeat (go_quiet (fail); try go_wp2)
 go_ret
 exact ⟨by first | rfl | (simp; done) | (simp only [← hji56, ← hji58] <;> (first | rfl | simp)) | (simp [*]; done), by repeat (first | exact Drawn0.refl _ | apply Drawn0.step)⟩
 }
 }
 · rw [if_neg c57] at H; exact absurd H (by simp)
 }
 {
 rw [if_neg c55] at H
 have c55b0 : (x3_2 == 4) = false := beq_eq_false_iff_ne.mpr c55
 have c55b1 : (x3_2 != 4) = true := bne_iff_ne.mpr c55
 by_cases c66 : x3_2 = 5
 {
 rw [if_pos c66] at H
 subst c66
 obtain ⟨ji67, hji67⟩ : ∃ j_ : Int, (IntKind.u64.wrap (a0_0)) = j_ := ⟨_, rfl⟩
 replace H : (if 0 ≤ (ji67) then (if (shr .u16 a0_7 (ji67)) = 0 then (if (5 : Int) ≥ (wrap64 (a0_1)) then (if a0_7 = 0 then (spec_l01Ok.l0 k2 (wrap64 ((5 : Int) + 1)) a0_0 a0_1 a0_2 a0_3 a0_4 a0_5 a0_6 a0_7 a0_8 a0_9 a0_10 a0_11) else (some false)) else (spec_l01Ok.l0 k2 (wrap64 ((5 : Int) + 1)) a0_0 a0_1 a0_2 a0_3 a0_4 a0_5 a0_6 a0_7 a0_8 a0_9 a0_10 a0_11)) else (some false)) else (none)) = some r := by first | (rw [hji67] at H; exact H) | (simp only [hji67] at H ⊢; exact H)
 by_cases c68 : 0 ≤ (ji67)
 {
 rw [if_pos c68] at H
 have c68b0 := eq_true c68
 have c68b1 : decide (0 ≤ (ji67)) = true := decide_eq_true c68
 clear c68
 obtain ⟨ji69, hji69⟩ : ∃ j_ : Int, (shr .u16 a0_7 (ji67)) = j_ := ⟨_, rfl⟩
 replace H : (if (ji69) = 0 then (if (5 : Int) ≥ (wrap64 (a0_1)) then (if a0_7 = 0 then (spec_l01Ok.l0 k2 (wrap64 ((5 : Int) + 1)) a0_0 a0_1 a0_2 a0_3 a0_4 a0_5 a0_6 a0_7 a0_8 a0_9 a0_10 a0_11) else (some false)) else (spec_l01Ok.l0 k2 (wrap64 ((5 : Int) + 1)) a0_0 a0_1 a0_2 a0_3 a0_4 a0_5 a0_6 a0_7 a0_8 a0_9 a0_10 a0_11)) else (some false)) = some r := by first | (rw [hji69] at H; exact H) | (simp only [hji69] at H ⊢; exact H)
 have hji69_ : (a0_7 / 2 ^ min (ji67).toNat 16) = ji69 := hji69
 have hji69z : (ji67) ≤ 16 → (a0_7 / 2 ^ (ji67).toNat) = ji69 := shr_small hji69
 by_cases c70 : (ji69) = 0
 {
 rw [if_pos c70] at H
 have c70b0 : ((ji69) == 0) = true := beq_iff_eq.mpr c70
 have c70b1 : ((ji69) != 0) = false := bne_eq_false_iff_eq.mpr c70
 clear c70
 by_cases c71 : (5 : Int) ≥ (wrap64 (a0_1))
 {
 rw [if_pos c71] at H
 have c71b0 : decide ((wrap64 (a0_1)) ≤ (5 : Int)) = true := decide_eq_true c71
 (try (have c71b1 : decide ((IntKind.i64.wrap (a0_1)) ≤ (5 : Int)) = true := by first | simpa only [i64_w, i32_w] using (show decide ((wrap64 (a0_1)) ≤ (5 : Int)) = true from decide_eq_true c71) | simpa only [i64_w] using (show decide ((wrap64 (a0_1)) ≤ (5 : Int)) = true from decide_eq_true c71)))
 clear c71
 by_cases c72 : a0_7 = 0
 {
 rw [if_pos c72] at H
 have c72b0 : (a0_7 == 0) = true := beq_iff_eq.mpr c72
 have c72b1 : (a0_7 != 0) = false := bne_eq_false_iff_eq.mpr c72
 clear c72
 have H' := ak H
 clear H
 obtain ⟨hcz73_0, hcz73_1, hcz73_2, hcz73_3, hcz73_4, hcz73_5, hcz73_6, hcz73_7, hcz73_8, hcz73_9, hcz73_10, hcz73_11, hfz73_0, hfz73_1, hfz73_2, hfz73_3, hfz73_4, hfz73_5, hfz73_6, hfz73_7, hfz73_8, hfz73_9, hfz73_10, hfz73_11⟩ := cz12 w BK0
 go_wp2
 repeat (go_quiet (fail); try go_wp2)
 go_roundg k2
 case measure => have := HJ1.out; have := HK2.out; omega
 case rel => exact ⟨(wrap64 ((5 : Int) + 1)), (by first | rfl | (simp; done) | (simp [*]; done) | kernel_rfl), H', ⟨by have := HJ1.out; have := HK2.out; omega⟩, ⟨(zK BK0.out)⟩, by repeat (first | exact Drawn0.refl _ | apply Drawn0.step)⟩
 }
 {
 rw [if_neg c72] at H
 have c72b0 : (a0_7 == 0) = false := beq_eq_false_iff_ne.mpr c72
 have c72b1 : (a0_7 != 0) = true := bne_iff_ne.mpr c72
 obtain rfl := Option.some.inj H
 obtain ⟨hcz74_0, hcz74_1, hcz74_2, hcz74_3, hcz74_4, hcz74_5, hcz74_6, hcz74_7, hcz74_8, hcz74_9, hcz74_10, hcz74_11, hfz74_0, hfz74_1, hfz74_2, hfz74_3, hfz74_4, hfz74_5, hfz74_6, hfz74_7, hfz74_8, hfz74_9, hfz74_10, hfz74_11⟩ := cz12 w BK0
 go_wp2
 repeat (go_quiet (fail); try go_wp2)
 go_ret
 exact ⟨by first | rfl | (simp; done) | (simp only [← hji67, ← hji69] <;> (first | rfl | simp)) | (simp [*]; done), by repeat (first | exact Drawn0.refl _ | apply Drawn0.step)⟩
 }
 }
 {
 rw [if_neg c71] at H
 have c71b0 : decide ((wrap64 (a0_1)) ≤ (5 : Int)) = false := decide_eq_false c71
 (try (have c71b1 : decide ((IntKind.i64.wrap (a0_1)) ≤ (5 : Int)) = false := by first | simpa only [i64_w, i32_w] using (show decide ((wrap64 (a0_1)) ≤ (5 : Int)) = false from decide_eq_false c71) | simpa only [i64_w] using (show decide ((wrap64 (a0_1)) ≤ (5 : Int)) = false from decide_eq_false c71)))
 clear c71
 have H' := ak H
 clear H
 obtain ⟨hcz75_0, hcz75_1, hcz75_2, hcz75_3, hcz75_4, hcz75_5, hcz75_6, hcz75_7, hcz75_8, hcz75_9, hcz75_10, hcz75_11, hfz75_0, hfz75_1, hfz75_2, hfz75_3, hfz75_4, hfz75_5, hfz75_6, hfz75_7, hfz75_8, hfz75_9, hfz75_10, hfz75_11⟩ := cz12 w BK0
 go_wp2
 repeat (go_quiet (fail); try go_wp2)
 go_roundg k2
 case measure => have := HJ1.out; have := HK2.out; omega
 case rel => exact ⟨(wrap64 ((5 : Int) + 1)), (by first | rfl | (simp; done) | (simp [*]; done) | kernel_rfl), H', ⟨by have := HJ1.out; have := HK2.out; omega⟩, ⟨(zK BK0.out)⟩, by repeat (first | exact Drawn0.refl _ | apply Drawn0.step)⟩
 }
 }
 {
 rw [if_neg c70] at H
 have c70b0 : ((ji69) == 0) = false := beq_eq_false_iff_ne.mpr c70
 have c70b1 : ((ji69) != 0) = true := bne_iff_ne.mpr c70
 obtain rfl := Option.some.inj H
 obtain ⟨hcz76_0, hcz76_1, hcz76_2, hcz76_3, hcz76_4, hcz76_5, hcz76_6, hcz76_7, hcz76_8, hcz76_9, hcz76_10, hcz76_11, hfz76_0, hfz76_1, hfz76_2, hfz76_3, hfz76_4, hfz76_5, hfz76_6, hfz76_7, hfz76_8, hfz76_9, hfz76_10, hfz76_11⟩ := cz12 w BK0
 go_wp2
 repeat (go_quiet (fail); try go_wp2)
 go_ret
 exact ⟨by first | rfl | (simp; done) | (simp only [← hji67, ← hji69] <;> (first | rfl | simp)) | (simp [*]; done), by repeat (first | exact Drawn0.refl _ | apply Drawn0.step)⟩
 }
 }
 · rw [if_neg c68] at H; exact absurd H (by simp)
 }
 {
 rw [if_neg c66] at H
 have c66b0 : (x3_2 == 5) = false := beq_eq_false_iff_ne.mpr c66
 have c66b1 : (x3_2 != 5) = true := bne_iff_ne.mpr c66
 by_cases c77 : x3_2 = 6
 {
 rw [if_pos c77] at H
 subst c77
 obtain ⟨ji78, hji78⟩ : ∃ j_ : Int, (IntKind.u64.wrap (a0_0)) = j_ := ⟨_, rfl⟩
 replace H : (if 0 ≤ (ji78) then (if (shr .u16 a0_8 (ji78)) = 0 then (if (6 : Int) ≥ (wrap64 (a0_1)) then (if a0_8 = 0 then (spec_l01Ok.l0 k2 (wrap64 ((6 : Int) + 1)) a0_0 a0_1 a0_2 a0_3 a0_4 a0_5 a0_6 a0_7 a0_8 a0_9 a0_10 a0_11) else (some false)) else (spec_l01Ok.l0 k2 (wrap64 ((6 : Int) + 1)) a0_0 a0_1 a0_2 a0_3 a0_4 a0_5 a0_6 a0_7 a0_8 a0_9 a0_10 a0_11)) else (some false)) else (none)) = some r := by first | (rw [hji78] at H; exact H) | (simp only [hji78] at H ⊢; exact H)
 by_cases c79 : 0 ≤ (ji78)
 {
 rw [if_pos c79] at H
 have c79b0 := eq_true c79
 have c79b1 : decide (0 ≤ (ji78)) = true := decide_eq_true c79
 clear c79
 obtain ⟨ji80, hji80⟩ : ∃ j_ : Int, (shr .u16 a0_8 (ji78)) = j_ := ⟨_, rfl⟩
 replace H : (if (ji80) = 0 then (if (6 : Int) ≥ (wrap64 (a0_1)) then (if a0_8 = 0 then (spec_l01Ok.l0 k2 (wrap64 ((6 : Int) + 1)) a0_0 a0_1 a0_2 a0_3 a0_4 a0_5 a0_6 a0_7 a0_8 a0_9 a0_10 a0_11) else (some false)) else (spec_l01Ok.l0 k2 (wrap64 ((6 : Int) + 1)) a0_0 a0_1 a0_2 a0_3 a0_4 a0_5 a0_6 a0_7 a0_8 a0_9 a0_10 a0_11)) else (some false)) = some r := by first | (rw [hji80] at H; exact H) | (simp only [hji80] at H ⊢; exact H)
 have hji80_ : (a0_8 / 2 ^ min (ji78).toNat 16) = ji80 := hji80
 have hji80z : (ji78) ≤ 16 → (a0_8 / 2 ^ (ji78).toNat) = ji80 := shr_small hji80
 by_cases c81 : (ji80) = 0
 {
 rw [if_pos c81] at H
 have c81b0 : ((ji80) == 0) = true := beq_iff_eq.mpr c81
 have c81b1 : ((ji80) != 0) = false := bne_eq_false_iff_eq.mpr c81
 clear c81
 by_cases c82 : (6 : Int) ≥ (wrap64 (a0_1))
 {
 rw [if_pos c82] at H
 have c82b0 : decide ((wrap64 (a0_1)) ≤ (6 : Int)) = true := decide_eq_true c82
 (try (have c82b1 : decide ((IntKind.i64.wrap (a0_1)) ≤ (6 : Int)) = true := by first | simpa only [i64_w, i32_w] using (show decide ((wrap64 (a0_1)) ≤ (6 : Int)) = true from decide_eq_true c82) | simpa only [i64_w] using (show decide ((wrap64 (a0_1)) ≤ (6 : Int)) = true from decide_eq_true c82)))
 clear c82
 by_cases c83 : a0_8 = 0
 {
 rw [if_pos c83] at H
 have c83b0 : (a0_8 == 0) = true := beq_iff_eq.mpr c83
 have c83b1 : (a0_8 != 0) = false := bne_eq_false_iff_eq.mpr c83
 clear c83
 have H' := ak H
 clear H
 obtain ⟨hcz84_0, hcz84_1, hcz84_2, hcz84_3, hcz84_4, hcz84_5, hcz84_6, hcz84_7, hcz84_8, hcz84_9, hcz84_10, hcz84_11, hfz84_0, hfz84_1, hfz84_2, hfz84_3, hfz84_4, hfz84_5, hfz84_6, hfz84_7, hfz84_8, hfz84_9, hfz84_10, hfz84_11⟩ := cz12 w BK0
 go_wp2
 repeat (go_quiet (fail); try go_wp2)
 go_roundg k2
 case measure => have := HJ1.out; have := HK2.out; omega
 case rel => exact ⟨(wrap64 ((6 : Int) + 1)), (by first | rfl | (simp; done) | (simp [*]; done) | kernel_rfl), H', ⟨by have := HJ1.out; have := HK2.out; omega⟩, ⟨(zK BK0.out)⟩, by repeat (first | exact Drawn0.refl _ | apply Drawn0.step)⟩
 }
 {
 rw [if_neg c83] at H
 have c83b0 : (a0_8 == 0) = false := beq_eq_false_iff_ne.mpr c83
 have c83b1 : (a0_8 != 0) = true := bne_iff_ne.mpr c83
 obtain rfl := Option.some.inj H
 obtain ⟨hcz85_0, hcz85_1, hcz85_2, hcz85_3, hcz85_4, hcz85_5, hcz85_6, hcz85_7, hcz85_8, hcz85_9, hcz85_10, hcz85_11, hfz85_0, hfz85_1, hfz85_2, hfz85_3, hfz85_4, hfz85_5, hfz85_6, hfz85_7, hfz85_8, hfz85_9, hfz85_10, hfz85_11⟩ := cz12 w BK0
 go_wp2
 repeat (go_quiet (fail); try go_wp2)
 go_ret
 exact ⟨by first | rfl | (simp; done) | (simp only [← hji78, ← hji80] <;> (first | rfl | simp)) | (simp [*]; done), by repeat (first | exact Drawn0.refl _ | apply Drawn0.step)⟩
 }
 }
 {
 rw [if_neg c82] at H
 have c82b0 : decide ((wrap64 (a0_1)) ≤ (6 : Int)) = false := decide_eq_false c82
 (try (have c82b1 : decide ((IntKind.i64.wrap (a0_1)) ≤ (6 : Int)) = false := by first | simpa only [i64_w, i32_w] using (show decide ((wrap64 (a0_1)) ≤ (6 : Int)) = false from decide_eq_false c82) | simpa only [i64_w] using (show decide ((wrap64 (a0_1)) ≤ (6 : Int)) = false from decide_eq_false c82)))
 clear c82
 have H' := ak H
 clear H
 obtain ⟨hcz86_0, hcz86_1, hcz86_2, hcz86_3, hcz86_4, hcz86_5, hcz86_6, hcz86_7, hcz86_8, hcz86_9, hcz86_10, hcz86_11, hfz86_0, hfz86_1, hfz86_2, hfz86_3, hfz86_4, hfz86_5, hfz86_6, hfz86_7, hfz86_8, hfz86_9, hfz86_10, hfz86_11⟩ := cz12 w BK0
 go_wp2
 repeat (go_quiet (fail); try go_wp2)
 go_roundg k2
 case measure => have := HJ1.out; have := HK2.out; omega
 case rel => exact ⟨(wrap64 ((6 : Int) + 1)), (by first | rfl | (simp; done) | (simp [*]; done) | kernel_rfl), H', ⟨by have := HJ1.out; have := HK2.out; omega⟩, ⟨(zK BK0.out)⟩, by repeat (first | exact Drawn0.refl _ | apply Drawn0.step)⟩
 }
 }
 {
 rw [if_neg c81] at H
 have c81b0 : ((ji80) == 0) = false := beq_eq_false_iff_ne.mpr c81
 have c81b1 : ((ji80) != 0) = true := bne_iff_ne.mpr c81
 obtain rfl := Option.some.inj H
 obtain ⟨hcz87_0, hcz87_1, hcz87_2, hcz87_3, hcz87_4, hcz87_5, hcz87_6, hcz87_7, hcz87_8, hcz87_9, hcz87_10, hcz87_11, hfz87_0, hfz87_1, hfz87_2, hfz87_3, hfz87_4, hfz87_5, hfz87_6, hfz87_7, hfz87_8, hfz87_9, hfz87_10, hfz87_11⟩ := cz12 w BK0
 go_wp2
 repeat (go_quiet (fail); try go_wp2)
 go_ret
 exact ⟨by first | rfl | (simp; done) | (simp only [← hji78, ← hji80] <;> (first | rfl | simp)) | (simp [*]; done), by repeat (first | exact Drawn0.refl _ | apply Drawn0.step)⟩
 }
 }
 · rw [if_neg c79] at H; exact absurd H (by simp)
 }
 {
 rw [if_neg c77] at H
 have c77b0 : (x3_2 == 6) = false := beq_eq_false_iff_ne.mpr c77
 have c77b1 : (x3_2 != 6) = true := bne_iff_ne.mpr c77
 by_cases c88 : x3_2 = 7
 {
 rw [if_pos c88] at H
 subst c88
 obtain ⟨ji89, hji89⟩ : ∃ j_ : Int, (IntKind.u64.wrap (a0_0)) = j_ := ⟨_, rfl⟩
 replace H : (if 0 ≤ (ji89) then (if (shr .u16 a0_9 (ji89)) = 0 then (if (7 : Int) ≥ (wrap64 (a0_1)) then (if a0_9 = 0 then (spec_l01Ok.l0 k2 (wrap64 ((7 : Int) + 1)) a0_0 a0_1 a0_2 a0_3 a0_4 a0_5 a0_6 a0_7 a0_8 a0_9 a0_10 a0_11) else (some false)) else (spec_l01Ok.l0 k2 (wrap64 ((7 : Int) + 1)) a0_0 a0_1 a0_2 a0_3 a0_4 a0_5 a0_6 a0_7 a0_8 a0_9 a0_10 a0_11)) else (some false)) else (none)) = some r := by first | (rw [hji89] at H; exact H) | (simp only [hji89] at H ⊢; exact H)
 by_cases c90 : 0 ≤ (ji89)
 {
 rw [if_pos c90] at H
 have c90b0 := eq_true c90
 have c90b1 : decide (0 ≤ (ji89)) = true := decide_eq_true c90
 clear c90
 obtain ⟨ji91, hji91⟩ : ∃ j_ : Int, (shr .u16 a0_9 (ji89)) = j_ := ⟨_, rfl⟩
 replace H : (if (ji91) = 0 then (if (7 : Int) ≥ (wrap64 (a0_1)) then (if a0_9 = 0 then (spec_l01Ok.l0 k2 (wrap64 ((7 : Int) + 1)) a0_0 a0_1 a0_2 a0_3 a0_4 a0_5 a0_6 a0_7 a0_8 a0_9 a0_10 a0_11) else (some false)) else (spec_l01Ok.l0 k2 (wrap64 ((7 : Int) + 1)) a0_0 a0_1 a0_2 a0_3 a0_4 a0_5 a0_6 a0_7 a0_8 a0_9 a0_10 a0_11)) else (some false)) = some r := by first | (rw [hji91] at H; exact H) | (simp only [hji91] at H ⊢; exact H)
 have hji91_ : (a0_9 / 2 ^ min (ji89).toNat 16) = ji91 := hji91
 have hji91z : (ji89) ≤ 16 → (a0_9 / 2 ^ (ji89).toNat) = ji91 := shr_small hji91
 by_cases c92 : (ji91) = 0
 {
 rw [if_pos c92] at H
 have c92b0 : ((ji91) == 0) = true := beq_iff_eq.mpr c92
 have c92b1 : ((ji91) != 0) = false := bne_eq_false_iff_eq.mpr c92
 clear c92
 by_cases c93 : (7 : Int) ≥ (wrap64 (a0_1))
 {
 rw [if_pos c93] at H
 have c93b0 : decide ((wrap64 (a0_1)) ≤ (7 : Int)) = true := decide_eq_true c93
 (try (have c93b1 : decide ((IntKind.i64.wrap (a0_1)) ≤ (7 : Int)) = true := by first | simpa only [i64_w, i32_w] using (show decide ((wrap64 (a0_1)) ≤ (7 : Int)) = true from decide_eq_true c93) | simpa only [i64_w] using (show decide ((wrap64 (a0_1)) ≤ (7 : Int)) = true from decide_eq_true c93)))
 clear c93
 by_cases c94 : a0_9 = 0
 {
 rw [if_pos c94] at H
 have c94b0 : (a0_9 == 0) = true := beq_iff_eq.mpr c94
 have c94b1 : (a0_9 != 0) = false := bne_eq_false_iff_eq.mpr c94
 clear c94
 have H' := ak H
 clear H
 obtain ⟨hcz95_0, hcz95_1, hcz95_2, hcz95_3, hcz95_4, hcz95_5, hcz95_6, hcz95_7, hcz95_8, hcz95_9, hcz95_10, hcz95_11, hfz95_0, hfz95_1, hfz95_2, hfz95_3, hfz95_4, hfz95_5, hfz95_6, hfz95_7, hfz95_8, hfz95_9, hfz95_10, hfz95_11⟩ := cz12 w BK0
 go_wp2
 repeat (go_quiet (fail); try go_wp2)
 go_roundg k2
 case measure => have := HJ1.out; have := HK2.out; omega
 case rel => exact ⟨(wrap64 ((7 : Int) + 1)), (by first | rfl | (simp; done) | (simp [*]; done) | kernel_rfl), H', ⟨by have := HJ1.out; have := HK2.out; omega⟩, ⟨(zK BK0.out)⟩, by repeat (first | exact Drawn0.refl _ | apply Drawn0.step)⟩
 }
 {
 rw [if_neg c94] at H
 have c94b0 : (a0_9 == 0) = false := beq_eq_false_iff_ne.mpr c94
 have c94b1 : (a0_9 != 0) = true := bne_iff_ne.mpr c94
 obtain rfl := Option.some.inj H
 obtain ⟨hcz96_0, hcz96_1, hcz96_2, hcz96_3, hcz96_4, hcz96_5, hcz96_6, hcz96_7, hcz96_8, hcz96_9, hcz96_10, hcz96_11, hfz96_0, hfz96_1, hfz96_2, hfz96_3, hfz96_4, hfz96_5, hfz96_6, hfz96_7, hfz96_8, hfz96_9, hfz96_10, hfz96_11⟩ := cz12 w BK0
 go_wp2
 repeat (go_quiet (fail); try go_wp2)
 go_ret
 exact ⟨by first | rfl | (simp; done) | (simp only [← hji89, ← hji91] <;> (first | rfl | simp)) | (simp [*]; done), by repeat (first | exact Drawn0.refl _ | apply Drawn0.step)⟩
 }
 }
 {
 rw [if_neg c93] at H
 have c93b0 : decide ((wrap64 (a0_1)) ≤ (7 : Int)) = false := decide_eq_false c93
 (try (have c93b1 : decide ((IntKind.i64.wrap (a0_1)) ≤ (7 : Int)) = false := by first | simpa only [i64_w, i32_w] using (show decide ((wrap64 (a0_1)) ≤ (7 : Int)) = false from decide_eq_false c93) | simpa only [i64_w] using (show decide ((wrap64 (a0_1)) ≤ (7 : Int)) = false from decide_eq_false c93)))
 clear c93
 have H' := ak H
 clear H
 obtain ⟨hcz97_0, hcz97_1, hcz97_2, hcz97_3, hcz97_4, hcz97_5, hcz97_6, hcz97_7, hcz97_8, hcz97_9, hcz97_10, hcz97_11, hfz97_0, hfz97_1, hfz97_2, hfz97_3, hfz97_4, hfz97_5, hfz97_6, hfz97_7, hfz97_8, hfz97_9, hfz97_10, hfz97_11⟩ := cz12 w BK0
 go_wp2
 repeat (go_quiet (fail); try go_wp2)
 go_roundg k2
 case measure => have := HJ1.out; have := HK2.out; omega
 case rel => exact ⟨(wrap64 ((7 : Int) + 1)), (by first | rfl | (simp; done) | (simp [*]; done) | kernel_rfl), H', ⟨by have := HJ1.out; have := HK2.out; omega⟩, ⟨(zK BK0.out)⟩, by repeat (first | exact Drawn0.refl _ | apply Drawn0.step)⟩
 }
 }
 {
 rw [if_neg c92] at H
 have c92b0 : ((ji91) == 0) = false := beq_eq_false_iff_ne.mpr c92
 have c92b1 : ((ji91) != 0) = true := bne_iff_ne.mpr c92
 obtain rfl := Option.some.inj H
 obtain ⟨hcz98_0, hcz98_1, hcz98_2, hcz98_3, hcz98_4, hcz98_5, hcz98_6, hcz98_7, hcz98_8, hcz98_9, hcz98_10, hcz98_11, hfz98_0, hfz98_1, hfz98_2, hfz98_3, hfz98_4, hfz98_5, hfz98_6, hfz98_7, hfz98_8, hfz98_9, hfz98_10, hfz98_11⟩ := cz12 w BK0
 go_wp2
 repeat (go_quiet (fail); try go_wp2)
 go_ret
 exact ⟨by first | rfl | (simp; done) | (simp only [← hji89, ← hji91] <;> (first | rfl | simp)) | (simp [*]; done), by repeat (first | exact Drawn0.refl _ | apply Drawn0.step)⟩
 }
 }
 · rw [if_neg c90] at H; exact absurd H (by simp)
 }
 {
 rw [if_neg c88] at H
 have c88b0 : (x3_2 == 7) = false := beq_eq_false_iff_ne.mpr c88
 have c88b1 : (x3_2 != 7) = true := bne_iff_ne.mpr c88
 by_cases c99 : x3_2 = 8
 {
 rw [if_pos c99] at H
 subst c99
 obtain ⟨ji100, hji100⟩ : ∃ j_ : Int, (IntKind.u64.wrap (a0_0)) = j_ := ⟨_, rfl⟩
 replace H : (if 0 ≤ (ji100) then (if (shr .u16 a0_10 (ji100)) = 0 then (if (8 : Int) ≥ (wrap64 (a0_1)) then (if a0_10 = 0 then (spec_l01Ok.l0 k2 (wrap64 ((8 : Int) + 1)) a0_0 a0_1 a0_2 a0_3 a0_4 a0_5 a0_6 a0_7 a0_8 a0_9 a0_10 a0_11) else (some false)) else (spec_l01Ok.l0 k2 (wrap64 ((8 : Int) + 1)) a0_0 a0_1 a0_2 a0_3 a0_4 a0_5 a0_6 a0_7 a0_8 a0_9 a0_10 a0_11)) else (some false)) else (none)) = some r := by first | (rw [hji100] at H; exact H) | (simp only [hji100] at H ⊢; exact H)
 by_cases c101 : 0 ≤ (ji100)
 {
 rw [if_pos c101] at H
 have c101b0 := eq_true c101
 have c101b1 : decide (0 ≤ (ji100)) = true := decide_eq_true c101
 clear c101
 obtain ⟨ji102, hji102⟩ : ∃ j_ : Int, (shr .u16 a0_10 (ji100)) = j_ := ⟨_, rfl⟩
 replace H : (if (ji102) = 0 then (if (8 : Int) ≥ (wrap64 (a0_1)) then (if a0_10 = 0 then (spec_l01Ok.l0 k2 (wrap64 ((8 : Int) + 1)) a0_0 a0_1 a0_2 a0_3 a0_4 a0_5 a0_6 a0_7 a0_8 a0_9 a0_10 a0_11) else (some false)) else (spec_l01Ok.l0 k2 (wrap64 ((8 : Int) + 1)) a0_0 a0_1 a0_2 a0_3 a0_4 a0_5 a0_6 a0_7 a0_8 a0_9 a0_10 a0_11)) else (some false)) = some r := by first | (rw [hji102] at H; exact H) | (simp only [hji102] at H ⊢; exact H)
 have hji102_ : (a0_10 / 2 ^ min (ji100).toNat 16) = ji102 := hji102
 have hji102z : (ji100) ≤ 16 → (a0_10 / 2 ^ (ji100).toNat) = ji102 := shr_small hji102
 by_cases c103 : (ji102) = 0
 {
 rw [if_pos c103] at H
 have c103b0 : ((ji102) == 0) = true := beq_iff_eq.mpr c103
 have c103b1 : ((ji102) != 0) = false := bne_eq_false_iff_eq.mpr c103
 clear c103
 by_cases c104 : (8 : Int) ≥ (wrap64 (a0_1))
 {
 rw [if_pos c104] at H
 have c104b0 : decide ((wrap64 (a0_1)) ≤ (8 : Int)) = true := decide_eq_true c104
 (try (have c104b1 : decide ((IntKind.i64.wrap (a0_1)) ≤ (8 : Int)) = true := by first | simpa only [i64_w, i32_w] using (show decide ((wrap64 (a0_1)) ≤ (8 : Int)) = true from decide_eq_true c104) | simpa only [i64_w] using (show decide ((wrap64 (a0_1)) ≤ (8 : Int)) = true from decide_eq_true c104)))
 clear c104
 by_cases c105 : a0_10 = 0
 {
 rw [if_pos c105] at H
 have c105b0 : (a0_10 == 0) = true := beq_iff_eq.mpr c105
 have c105b1 : (a0_10 != 0) = false := bne_eq_false_iff_eq.mpr c105
 clear c105
 have H' := ak H
 clear H
 obtain ⟨hcz106_0, hcz106_1, hcz106_2, hcz106_3, hcz106_4, hcz106_5, hcz106_6, hcz106_7, hcz106_8, hcz106_9, hcz106_10, hcz106_11, hfz106_0, hfz106_1, hfz106_2, hfz106_3, hfz106_4, hfz106_5, hfz106_6, hfz106_7, hfz106_8, hfz106_9, hfz106_10, hfz106_11⟩ := cz12 w BK0
 go_wp2
 repeat (go_quiet (fail); try go_wp2)
 go_roundg k2
 case measure => have := HJ1.out; have := HK2.out; omega
 case rel => exact ⟨(wrap64 ((8 : Int) + 1)), (by first | rfl | (simp; done) | (simp [*]; done) | kernel_rfl), H', ⟨by have := HJ1.out; have := HK2.out; omega⟩, ⟨(zK BK0.out)⟩, by repeat (first | exact Drawn0.refl _ | apply Drawn0.step)⟩
 }
 {
 rw [if_neg c105] at H
 have c105b0 : (a0_10 == 0) = false := beq_eq_false_iff_ne.mpr c105
 have c105b1 : (a0_10 != 0) = true := bne_iff_ne.mpr c105
 obtain rfl := Option.some.inj H
 obtain ⟨hcz107_0, hcz107_1, hcz107_2, hcz107_3, hcz107_4, hcz107_5, hcz107_6, hcz107_7, hcz107_8, hcz107_9, hcz107_10, hcz107_11, hfz107_0, hfz107_1, hfz107_2, hfz107_3, hfz107_4, hfz107_5, hfz107_6, hfz107_7, hfz107_8, hfz107_9, hfz107_10, hfz107_11⟩ := cz12 w BK0
 go_wp2
 repeat (go_quiet (fail); try go_wp2)
 go_ret
 exact ⟨by first | rfl | (simp; done) | (simp only [← hji100, ← hji102] <;> (first | rfl | simp)) | (simp [*]; done), by repeat (first | exact Drawn0.refl _ | apply Drawn0.step)⟩
 }
 }
 {
 rw [if_neg c104] at H
 have c104b0 : decide ((wrap64 (a0_1)) ≤ (8 : Int)) = false := decide_eq_false c104
 (try (have c104b1 : decide ((IntKind.i64.wrap (a0_1)) ≤ (8 : Int)) = false := by first | simpa only [i64_w, i32_w] using (show decide ((wrap64 (a0_1)) ≤ (8 : Int)) = false from decide_eq_false c104) | simpa only [i64_w] using (show decide ((wrap64 (a0_1)) ≤ (8 : Int)) = false from decide_eq_false c104)))
 clear c104
 have H' := ak H
 clear H
 obtain ⟨hcz108_0, hcz108_1, hcz108_2, hcz108_3, hcz108_4, hcz108_5, hcz108_6, hcz108_7, hcz108_8, hcz108_9, hcz108_10, hcz108_11, hfz108_0, hfz108_1, hfz108_2, hfz108_3, hfz108_4, hfz108_5, hfz108_6, hfz108_7, hfz108_8, hfz108_9, hfz108_10, hfz108_11⟩ := cz12 w BK0
 go_wp2
 repeat (go_quiet (fail); try go_wp2)
 go_roundg k2
 case measure => have := HJ1.out; have := HK2.out; omega
 case rel => exact ⟨(wrap64 ((8 : Int) + 1)), (by first | rfl | (simp; done) | (simp [*]; done) | kernel_rfl), H', ⟨by have := HJ1.out; have := HK2.out; omega⟩, ⟨(zK BK0.out)⟩, by repeat (first | exact Drawn0.refl _ | apply Drawn0.step)⟩
 }
 }
 {
 rw [if_neg c103] at H
 have c103b0 : ((ji102) == 0) = false := beq_eq_false_iff_ne.mpr c103
 have c103b1 : ((ji102) != 0) = true := bne_iff_ne.mpr c103
 obtain rfl := Option.some.inj H
 obtain ⟨hcz109_0, hcz109_1, hcz109_2, hcz109_3, hcz109_4, hcz109_5, hcz109_6, hcz109_7, hcz109_8, hcz109_9, hcz109_10, hcz109_11, hfz109_0, hfz109_1, hfz109_2, hfz109_3, hfz109_4, hfz109_5, hfz109_6, hfz109_7, hfz109_8, hfz109_9, hfz109_10, hfz109_11⟩ := cz12 w BK0
 go_wp2
 repeat (go_quiet (fail); try go_wp2)
 go_ret
 exact ⟨by first | rfl | (simp; done) | (simp only [← hji100, ← hji102] <;> (first | rfl | simp)) | (simp [*]; done), by repeat (first | exact Drawn0.refl _ | apply Drawn0.step)⟩
 }
 }
 · rw [if_neg c101] at H; exact absurd H (by simp)
 }
 {
 rw [if_neg c99] at H
 have c99b0 : (x3_2 == 8) = false := beq_eq_false_iff_ne.mpr c99
 have c99b1 : (x3_2 != 8) = true := bne_iff_ne.mpr c99
 by_cases c110 : x3_2 = 9
 {
 rw [if_pos c110] at H
 subst c110
 obtain ⟨ji111, hji111⟩ : ∃ j_ : Int, (IntKind.u64.wrap (a0_0)) = j_ := ⟨_, rfl⟩
 replace H : (if 0 ≤ (ji111) then (if (shr .u16 a0_11 (ji111)) = 0 then (if (9 : Int) ≥ (wrap64 (a0_1)) then (if a0_11 = 0 then (spec_l01Ok.l0 k2 (wrap64 ((9 : Int) + 1)) a0_0 a0_1 a0_2 a0_3 a0_4 a0_5 a0_6 a0_7 a0_8 a0_9 a0_10 a0_11) else (some false)) else (spec_l01Ok.l0 k2 (wrap64 ((9 : Int) + 1)) a0_0 a0_1 a0_2 a0_3 a0_4 a0_5 a0_6 a0_7 a0_8 a0_9 a0_10 a0_11)) else (some false)) else (none)) = some r := by first | (rw [hji111] at H; exact H) | (simp only [hji111] at H ⊢; exact H)
 by_cases c112 : 0 ≤ (ji111)
 {
 rw [if_pos c112] at H
 have c112b0 := eq_true c112
 have c112b1 : decide (0 ≤ (ji111)) = true := decide_eq_true c112
 clear c112
 obtain ⟨ji113, hji113⟩ : ∃ j_ : Int, (shr .u16 a0_11 (ji111)) = j_ := ⟨_, rfl⟩
 replace H : (if (ji113) = 0 then (if (9 : Int) ≥ (wrap64 (a0_1)) then (if a0_11 = 0 then (spec_l01Ok.l0 k2 (wrap64 ((9 : Int) + 1)) a0_0 a0_1 a0_2 a0_3 a0_4 a0_5 a0_6 a0_7 a0_8 a0_9 a0_10 a0_11) else (some false)) else (spec_l01Ok.l0 k2 (wrap64 ((9 : Int) + 1)) a0_0 a0_1 a0_2 a0_3 a0_4 a0_5 a0_6 a0_7 a0_8 a0_9 a0_10 a0_11)) else (some false)) = some r := by first | (rw [hji113] at H; exact H) | (simp only [hji113] at H ⊢; exact H)
 have hji113_ : (a0_11 / 2 ^ min (ji111).toNat 16) = ji113 := hji113
 have hji113z : (ji111) ≤ 16 → (a0_11 / 2 ^ (ji111).toNat) = ji113 := shr_small hji113
 by_cases c114 : (ji113) = 0
 {
 rw [if_pos c114] at H
 have c114b0 : ((ji113) == 0) = true := beq_iff_eq.mpr c114
 have c114b1 : ((ji113) != 0) = false := bne_eq_false_iff_eq.mpr c114
 clear c114
 by_cases c115 : (9 : Int) ≥ (wrap64 (a0_1))
 {
 rw [if_pos c115] at H
 have c115b0 : decide ((wrap64 (a0_1)) ≤ (9 : Int)) = true := decide_eq_true c115
 (try (have c115b1 : decide ((IntKind.i64.wrap (a0_1)) ≤ (9 : Int)) = true := by first | simpa only [i64_w, i32_w] using (show decide ((wrap64 (a0_1)) ≤ (9 : Int)) = true from decide_eq_true c115) | simpa only [i64_w] using (show decide ((wrap64 (a0_1)) ≤ (9 : Int)) = true from decide_eq_true c115)))
 clear c115
 by_cases c116 : a0_11 = 0
 {
 rw [if_pos c116] at H
 have c116b0 : (a0_11 == 0) = true := beq_iff_eq.mpr c116
 have c116b1 : (a0_11 != 0) = false := bne_eq_false_iff_eq.mpr c116
 clear c116
 have H' := ak H
 clear H
 obtain ⟨hcz117_0, hcz117_1, hcz117_2, hcz117_3, hcz117_4, hcz117_5, hcz117_6, hcz117_7, hcz117_8, hcz117_9, hcz117_10, hcz117_11, hfz117_0, hfz117_1, hfz117_2, hfz117_3, hfz117_4, hfz117_5, hfz117_6, hfz117_7, hfz117_8, hfz117_9, hfz117_10, hfz117_11⟩ := cz12 w BK0
 go_wp2
 repeat (go_quiet (fail); try go_wp2)
 go_roundg k2
 case measure => have := HJ1.out; have := HK2.out; omega
 case rel => exact ⟨(wrap64 ((9 : Int) + 1)), (by first | rfl | (simp; done) | (simp [*]; done) | kernel_rfl), H', ⟨by have := HJ1.out; have := HK2.out; omega⟩, ⟨(zK BK0.out)⟩, by repeat (first | exact Drawn0.refl _ | apply Drawn0.step)⟩
 }
 {
 rw [if_neg c116] at H
 have c116b0 : (a0_11 == 0) = false := beq_eq_false_iff_ne.mpr c116
 have c116b1 : (a0_11 != 0) = true := bne_iff_ne.mpr c116
 obtain rfl := Option.some.inj H
 obtain ⟨hcz118_0, hcz118_1, hcz118_2, hcz118_3, hcz118_4, hcz118_5, hcz118_6, hcz118_7, hcz118_8, hcz118_9, hcz118_10, hcz118_11, hfz118_0, hfz118_1, hfz118_2, hfz118_3, hfz118_4, hfz118_5, hfz118_6, hfz118_7, hfz118_8, hfz118_9, hfz118_10, hfz118_11⟩ := cz12 w BK0
 go_wp2
 repeat (go_quiet (fail); try go_wp2)
 go_ret
 exact ⟨by first | rfl | (simp; done) | (simp only [← hji111, ← hji113] <;> (first | rfl | simp)) | (simp [*]; done), by repeat (first | exact Drawn0.refl _ | apply Drawn0.step)⟩
 }
 }
 {
 rw [if_neg c115] at H
 have c115b0 : decide ((wrap64 (a0_1)) ≤ (9 : Int)) = false := decide_eq_false c115
 (try (have c115b1 : decide ((IntKind.i64.wrap (a0_1)) ≤ (9 : Int)) = false := by first | simpa only [i64_w, i32_w] using (show decide ((wrap64 (a0_1)) ≤ (9 : Int)) = false from decide_eq_false c115) | simpa only [i64_w] using (show decide ((wrap64 (a0_1)) ≤ (9 : Int)) = false from decide_eq_false c115)))
 clear c115
 have H' := ak H
 clear H
 obtain ⟨hcz119_0, hcz119_1, hcz119_2, hcz119_3, hcz119_4, hcz119_5, hcz119_6, hcz119_7, hcz119_8, hcz119_9, hcz119_10, hcz119_11, hfz119_0, hfz119_1, hfz119_2, hfz119_3, hfz119_4, hfz119_5, hfz119_6, hfz119_7, hfz119_8, hfz119_9, hfz119_10, hfz119_11⟩ := cz12 w BK0
 go_wp2
 repeat (go_quiet (fail); try go_wp2)
 go_roundg k2
 case measure => have := HJ1.out; have := HK2.out; omega
 case rel => exact ⟨(wrap64 ((9 : Int) + 1)), (by first | rfl | (simp; done) | (simp [*]; done) | kernel_rfl), H', ⟨by have := HJ1.out; have := HK2.out; omega⟩, ⟨(zK BK0.out)⟩, by repeat (first | exact Drawn0.refl _ | apply Drawn0.step)⟩
 }
 }
 {
 rw [if_neg c114] at H
 have c114b0 : ((ji113) == 0) = false := beq_eq_false_iff_ne.mpr c114
 have c114b1 : ((ji113) != 0) = true := bne_iff_ne.mpr c114
 obtain rfl := Option.some.inj H
 obtain ⟨hcz120_0, hcz120_1, hcz120_2, hcz120_3, hcz120_4, hcz120_5, hcz120_6, hcz120_7, hcz120_8, hcz120_9, hcz120_10, hcz120_11, hfz120_0, hfz120_1, hfz120_2, hfz120_3, hfz120_4, hfz120_5, hfz120_6, hfz120_7, hfz120_8, hfz120_9, hfz120_10, hfz120_11⟩ := cz12 w BK0
 go_wp2
 repeat (go_quiet (fail); try go_wp2)
 go_ret
 exact ⟨by first | rfl | (simp; done) | (simp only [← hji111, ← hji113] <;> (first | rfl | simp)) | (simp [*]; done), by repeat (first | exact Drawn0.refl _ | apply Drawn0.step)⟩
 }
 }
 · rw [if_neg c112] at H; exact absurd H (by simp)
 }
 · rw [if_neg c110] at H; exact absurd H (by simp)
 }
 }
 }
 }
 }
 }
 }
 }
 }
 }
 · rw [if_neg c10] at H; exact absurd H (by simp)
 }
 {
 rw [if_neg c9] at H
 have c9b0 : decide (x3_2 < 10) = false := decide_eq_false c9
 clear c9
 obtain rfl := Option.some.inj H
 go_wp2
 repeat (go_quiet (fail); try go_wp2)
 go_ret
 exact ⟨by first | rfl | (simp; done) | (simp [*]; done), by repeat (first | exact Drawn0.refl _ | apply Drawn0.step)⟩
 }
 )
 )
 }
 )
 )
end Go.Proofs.Ytooidjdgfoioiaa.P
