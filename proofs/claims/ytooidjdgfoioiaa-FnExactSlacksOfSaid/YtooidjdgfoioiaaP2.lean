-- Printed by wip/print (my turned copy of the kit's print) out of the translation; Lean checks it.
import Derived.Test.YtooidjdgfoioiaaP0
import Derived.Test.YtooidjdgfoioiaaP1
namespace Go.Proofs.Ytooidjdgfoioiaa.P
open Go.RowKit Go.Proofs.YtooidjdgfoioiaaW.PrintWords Go.Proofs.YtooidjdgfoioiaaW.PrintLast Go.Proofs.YtooidjdgfoioiaaW.PrintMore
attribute [local go_sem] max2_int min2_int max_two min_two max_three min_three max_four min_four   -- for this text's walks alone
set_option linter.unusedVariables false
set_option linter.unusedSimpArgs false

/-! ### spec_l01Ok: function 40 -/
mutual
def spec_l01Ok.j0 : Nat → Bool → Int → Int → Int → Int → Int → Int → Int → Int → Int → Int → Int → Int → Option (Bool)
  | 0, _, _, _, _, _, _, _, _, _, _, _, _, _ => none
  | k + 1, x19, x1000, x1001, x1002, x1003, x1004, x1005, x1006, x1007, x1008, x1009, x1010, x1011 => if x19 = true then (some false) else (spec_l01Ok.l0 k 0 x1000 x1001 x1002 x1003 x1004 x1005 x1006 x1007 x1008 x1009 x1010 x1011)
def spec_l01Ok.l0 : Nat → Int → Int → Int → Int → Int → Int → Int → Int → Int → Int → Int → Int → Int → Option (Bool)
  | 0, _, _, _, _, _, _, _, _, _, _, _, _, _ => none
  | k + 1, x3, x1000, x1001, x1002, x1003, x1004, x1005, x1006, x1007, x1008, x1009, x1010, x1011 => if x3 < 10 then (if 0 ≤ x3 then (if x3 = 0 then (if 0 ≤ (IntKind.u64.wrap (x1000)) then (if (shr .u16 x1002 (IntKind.u64.wrap (x1000))) = 0 then (if x3 ≥ (wrap64 (x1001)) then (if x1002 = 0 then (spec_l01Ok.l0 k (wrap64 (x3 + 1)) x1000 x1001 x1002 x1003 x1004 x1005 x1006 x1007 x1008 x1009 x1010 x1011) else (some false)) else (spec_l01Ok.l0 k (wrap64 (x3 + 1)) x1000 x1001 x1002 x1003 x1004 x1005 x1006 x1007 x1008 x1009 x1010 x1011)) else (some false)) else (none)) else (if x3 = 1 then (if 0 ≤ (IntKind.u64.wrap (x1000)) then (if (shr .u16 x1003 (IntKind.u64.wrap (x1000))) = 0 then (if x3 ≥ (wrap64 (x1001)) then (if x1003 = 0 then (spec_l01Ok.l0 k (wrap64 (x3 + 1)) x1000 x1001 x1002 x1003 x1004 x1005 x1006 x1007 x1008 x1009 x1010 x1011) else (some false)) else (spec_l01Ok.l0 k (wrap64 (x3 + 1)) x1000 x1001 x1002 x1003 x1004 x1005 x1006 x1007 x1008 x1009 x1010 x1011)) else (some false)) else (none)) else (if x3 = 2 then (if 0 ≤ (IntKind.u64.wrap (x1000)) then (if (shr .u16 x1004 (IntKind.u64.wrap (x1000))) = 0 then (if x3 ≥ (wrap64 (x1001)) then (if x1004 = 0 then (spec_l01Ok.l0 k (wrap64 (x3 + 1)) x1000 x1001 x1002 x1003 x1004 x1005 x1006 x1007 x1008 x1009 x1010 x1011) else (some false)) else (spec_l01Ok.l0 k (wrap64 (x3 + 1)) x1000 x1001 x1002 x1003 x1004 x1005 x1006 x1007 x1008 x1009 x1010 x1011)) else (some false)) else (none)) else (if x3 = 3 then (if 0 ≤ (IntKind.u64.wrap (x1000)) then (if (shr .u16 x1005 (IntKind.u64.wrap (x1000))) = 0 then (if x3 ≥ (wrap64 (x1001)) then (if x1005 = 0 then (spec_l01Ok.l0 k (wrap64 (x3 + 1)) x1000 x1001 x1002 x1003 x1004 x1005 x1006 x1007 x1008 x1009 x1010 x1011) else (some false)) else (spec_l01Ok.l0 k (wrap64 (x3 + 1)) x1000 x1001 x1002 x1003 x1004 x1005 x1006 x1007 x1008 x1009 x1010 x1011)) else (some false)) else (none)) else (if x3 = 4 then (if 0 ≤ (IntKind.u64.wrap (x1000)) then (if (shr .u16 x1006 (IntKind.u64.wrap (x1000))) = 0 then (if x3 ≥ (wrap64 (x1001)) then (if x1006 = 0 then (spec_l01Ok.l0 k (wrap64 (x3 + 1)) x1000 x1001 x1002 x1003 x1004 x1005 x1006 x1007 x1008 x1009 x1010 x1011) else (some false)) else (spec_l01Ok.l0 k (wrap64 (x3 + 1)) x1000 x1001 x1002 x1003 x1004 x1005 x1006 x1007 x1008 x1009 x1010 x1011)) else (some false)) else (none)) else (if x3 = 5 then (if 0 ≤ (IntKind.u64.wrap (x1000)) then (if (shr .u16 x1007 (IntKind.u64.wrap (x1000))) = 0 then (if x3 ≥ (wrap64 (x1001)) then (if x1007 = 0 then (spec_l01Ok.l0 k (wrap64 (x3 + 1)) x1000 x1001 x1002 x1003 x1004 x1005 x1006 x1007 x1008 x1009 x1010 x1011) else (some false)) else (spec_l01Ok.l0 k (wrap64 (x3 + 1)) x1000 x1001 x1002 x1003 x1004 x1005 x1006 x1007 x1008 x1009 x1010 x1011)) else (some false)) else (none)) else (if x3 = 6 then (if 0 ≤ (IntKind.u64.wrap (x1000)) then (if (shr .u16 x1008 (IntKind.u64.wrap (x1000))) = 0 then (if x3 ≥ (wrap64 (x1001)) then (if x1008 = 0 then (spec_l01Ok.l0 k (wrap64 (x3 + 1)) x1000 x1001 x1002 x1003 x1004 x1005 x1006 x1007 x1008 x1009 x1010 x1011) else (some false)) else (spec_l01Ok.l0 k (wrap64 (x3 + 1)) x1000 x1001 x1002 x1003 x1004 x1005 x1006 x1007 x1008 x1009 x1010 x1011)) else (some false)) else (none)) else (if x3 = 7 then (if 0 ≤ (IntKind.u64.wrap (x1000)) then (if (shr .u16 x1009 (IntKind.u64.wrap (x1000))) = 0 then (if x3 ≥ (wrap64 (x1001)) then (if x1009 = 0 then (spec_l01Ok.l0 k (wrap64 (x3 + 1)) x1000 x1001 x1002 x1003 x1004 x1005 x1006 x1007 x1008 x1009 x1010 x1011) else (some false)) else (spec_l01Ok.l0 k (wrap64 (x3 + 1)) x1000 x1001 x1002 x1003 x1004 x1005 x1006 x1007 x1008 x1009 x1010 x1011)) else (some false)) else (none)) else (if x3 = 8 then (if 0 ≤ (IntKind.u64.wrap (x1000)) then (if (shr .u16 x1010 (IntKind.u64.wrap (x1000))) = 0 then (if x3 ≥ (wrap64 (x1001)) then (if x1010 = 0 then (spec_l01Ok.l0 k (wrap64 (x3 + 1)) x1000 x1001 x1002 x1003 x1004 x1005 x1006 x1007 x1008 x1009 x1010 x1011) else (some false)) else (spec_l01Ok.l0 k (wrap64 (x3 + 1)) x1000 x1001 x1002 x1003 x1004 x1005 x1006 x1007 x1008 x1009 x1010 x1011)) else (some false)) else (none)) else (if x3 = 9 then (if 0 ≤ (IntKind.u64.wrap (x1000)) then (if (shr .u16 x1011 (IntKind.u64.wrap (x1000))) = 0 then (if x3 ≥ (wrap64 (x1001)) then (if x1011 = 0 then (spec_l01Ok.l0 k (wrap64 (x3 + 1)) x1000 x1001 x1002 x1003 x1004 x1005 x1006 x1007 x1008 x1009 x1010 x1011) else (some false)) else (spec_l01Ok.l0 k (wrap64 (x3 + 1)) x1000 x1001 x1002 x1003 x1004 x1005 x1006 x1007 x1008 x1009 x1010 x1011)) else (some false)) else (none)) else (none))))))))))) else (none)) else (some true)
end
def spec_l01Ok.f (k : Nat) (a0_0 : Int) (a0_1 : Int) (a0_2 : Int) (a0_3 : Int) (a0_4 : Int) (a0_5 : Int) (a0_6 : Int) (a0_7 : Int) (a0_8 : Int) (a0_9 : Int) (a0_10 : Int) (a0_11 : Int) : Option (Bool) := (spec_l00In.f (wrap64 (a0_0)) 1 10).bind fun t127 => (if t127 = true then ((spec_l00In.f (wrap64 (a0_1)) 1 10).bind fun t128 => (spec_l01Ok.j0 k (!t128) a0_0 a0_1 a0_2 a0_3 a0_4 a0_5 a0_6 a0_7 a0_8 a0_9 a0_10 a0_11)) else (spec_l01Ok.j0 k true a0_0 a0_1 a0_2 a0_3 a0_4 a0_5 a0_6 a0_7 a0_8 a0_9 a0_10 a0_11))
theorem spec_l01Ok.mono_l : ∀ k, (∀ y0 y1 y2 y3 y4 y5 y6 y7 y8 y9 y10 y11 y12, LeO (spec_l01Ok.j0 k y0 y1 y2 y3 y4 y5 y6 y7 y8 y9 y10 y11 y12) (spec_l01Ok.j0 (k + 1) y0 y1 y2 y3 y4 y5 y6 y7 y8 y9 y10 y11 y12)) ∧ (∀ y0 y1 y2 y3 y4 y5 y6 y7 y8 y9 y10 y11 y12, LeO (spec_l01Ok.l0 k y0 y1 y2 y3 y4 y5 y6 y7 y8 y9 y10 y11 y12) (spec_l01Ok.l0 (k + 1) y0 y1 y2 y3 y4 y5 y6 y7 y8 y9 y10 y11 y12))
  | 0 => ⟨fun _ _ _ _ _ _ _ _ _ _ _ _ _ r h => by simp [spec_l01Ok.j0] at h, fun _ _ _ _ _ _ _ _ _ _ _ _ _ r h => by simp [spec_l01Ok.l0] at h⟩
  | k + 1 => by
    obtain ⟨ih0, ih1⟩ := spec_l01Ok.mono_l k
    refine ⟨?_, ?_⟩
    · intro y0 y1 y2 y3 y4 y5 y6 y7 y8 y9 y10 y11 y12
      unfold spec_l01Ok.j0
      repeat' first
      | (with_reducible exact ih0 ..)
      | (with_reducible exact ih1 ..)
      | (with_reducible exact LeO.refl ..)
      | (with_reducible exact LeO.none ..)
      | (with_reducible refine LeO.ite ?_ ?_)
      | (with_reducible refine LeO.bind ?_ (fun _ => ?_))
    · intro y0 y1 y2 y3 y4 y5 y6 y7 y8 y9 y10 y11 y12
      unfold spec_l01Ok.l0
      repeat' first
      | (with_reducible exact ih0 ..)
      | (with_reducible exact ih1 ..)
      | (with_reducible exact LeO.refl ..)
      | (with_reducible exact LeO.none ..)
      | (with_reducible refine LeO.ite ?_ ?_)
      | (with_reducible refine LeO.bind ?_ (fun _ => ?_))
theorem spec_l01Ok.mono : ∀ a0 a1 a2 a3 a4 a5 a6 a7 a8 a9 a10 a11 k, LeO (spec_l01Ok.f k a0 a1 a2 a3 a4 a5 a6 a7 a8 a9 a10 a11) (spec_l01Ok.f (k + 1) a0 a1 a2 a3 a4 a5 a6 a7 a8 a9 a10 a11) := by
  intro a0 a1 a2 a3 a4 a5 a6 a7 a8 a9 a10 a11 k
  obtain ⟨ih0, ih1⟩ := spec_l01Ok.mono_l k
  unfold spec_l01Ok.f
  repeat' first
      | (with_reducible exact ih0 ..)
      | (with_reducible exact ih1 ..)
      | (with_reducible exact LeO.refl ..)
      | (with_reducible exact LeO.none ..)
      | (with_reducible refine LeO.ite ?_ ?_)
      | (with_reducible refine LeO.bind ?_ (fun _ => ?_))
set_option maxHeartbeats 8000000 in
set_option maxRecDepth 100000 in
theorem spec_l01Ok.calls (k : Nat) (b0 : Nat) (a0_0 : Int) (a0_1 : Int) (a0_2 : Int) (a0_3 : Int) (a0_4 : Int) (a0_5 : Int) (a0_6 : Int) (a0_7 : Int) (a0_8 : Int) (a0_9 : Int) (a0_10 : Int) (a0_11 : Int) (r : Bool) (w : World) (hx0 : w.heap[b0]? = some (.cells #[.int .i8 a0_0, .int .i8 a0_1, .int .u16 a0_2, .int .u16 a0_3, .int .u16 a0_4, .int .u16 a0_5, .int .u16 a0_6, .int .u16 a0_7, .int .u16 a0_8, .int .u16 a0_9, .int .u16 a0_10, .int .u16 a0_11] 35 (0, 0))) (h : spec_l01Ok.f k a0_0 a0_1 a0_2 a0_3 a0_4 a0_5 a0_6 a0_7 a0_8 a0_9 a0_10 a0_11 = some r) :
    Calls Try.prog 40 #[.pointer (some ⟨b0, 0, none⟩)] w fun e w' => e = .returned (.bool r) ∧ Drawn0 w w' := by
 have BK0 := ak hx0
 clear hx0
 have H := h
 unfold spec_l01Ok.f at H
 clear h
 have HC2 := ak H
 clear H
 go_enter Try.func40, Try.ntmps40
 go_upto_region 1 with (fail)
 repeat (go_quiet (fail); go_upto_region 1 with (fail))
 go_cut [19] (fun v19 wc => ∃ (kq : Nat) (x19_1 : Bool), v19 = .bool x19_1 ∧ Aside0 (spec_l01Ok.j0 kq x19_1 a0_0 a0_1 a0_2 a0_3 a0_4 a0_5 a0_6 a0_7 a0_8 a0_9 a0_10 a0_11 = some r) ∧ Aside0 (kq ≤ k) ∧ Aside0 (wc.heap[b0]? = some (.cells #[.int .i8 a0_0, .int .i8 a0_1, .int .u16 a0_2, .int .u16 a0_3, .int .u16 a0_4, .int .u16 a0_5, .int .u16 a0_6, .int .u16 a0_7, .int .u16 a0_8, .int .u16 a0_9, .int .u16 a0_10, .int .u16 a0_11] 35 (0, 0))) ∧ Drawn0 w wc)
 case first => (
 have H := HC2.out
 clear HC2
 replace H := Option.bind_eq_some_iff.mp H
 obtain ⟨t127, A30, H⟩ := H
 have A3 := ak A30
 clear A30
 by_cases c4 : t127 = true
 {
 subst c4
 rw [if_pos rfl] at H
 replace H := Option.bind_eq_some_iff.mp H
 obtain ⟨t128, A50, H⟩ := H
 have A5 := ak A50
 clear A50
 have H' := ak H
 clear H
 obtain ⟨hcz6_0, hcz6_1, hcz6_2, hcz6_3, hcz6_4, hcz6_5, hcz6_6, hcz6_7, hcz6_8, hcz6_9, hcz6_10, hcz6_11, hfz6_0, hfz6_1, hfz6_2, hfz6_3, hfz6_4, hfz6_5, hfz6_6, hfz6_7, hfz6_8, hfz6_9, hfz6_10, hfz6_11⟩ := cz12 w BK0
 go_wp2_with (first | (go_at_call 72; (with_reducible refine (spec_l00In.calls (wrap64 (a0_0)) 1 10 true _ A3.out).mono ?_); rintro e w' ⟨rfl, ⟨nd, rfl⟩⟩) | (go_at_call 72; (with_reducible refine (spec_l00In.calls (wrap64 (a0_1)) 1 10 t128 _ A5.out).mono ?_); rintro e w' ⟨rfl, ⟨nd, rfl⟩⟩))
 repeat (go_quiet (fail))
 go_meet
 case rel => exact ⟨_, (!t128), (by first | rfl | (simp; done) | (simp [*]; done)), H', ⟨by first | omega | exact Nat.le_refl _⟩, ⟨(zK BK0.out)⟩, by repeat (first | exact Drawn0.refl _ | apply Drawn0.step)⟩
 }
 {
 replace c4 := Bool.eq_false_iff.mpr c4
 subst c4
 rw [if_neg (show ¬ (false = true) by decide)] at H
 have H' := ak H
 clear H
 obtain ⟨hcz7_0, hcz7_1, hcz7_2, hcz7_3, hcz7_4, hcz7_5, hcz7_6, hcz7_7, hcz7_8, hcz7_9, hcz7_10, hcz7_11, hfz7_0, hfz7_1, hfz7_2, hfz7_3, hfz7_4, hfz7_5, hfz7_6, hfz7_7, hfz7_8, hfz7_9, hfz7_10, hfz7_11⟩ := cz12 w BK0
 go_wp2_with (first | (go_at_call 72; (with_reducible refine (spec_l00In.calls (wrap64 (a0_0)) 1 10 false _ A3.out).mono ?_); rintro e w' ⟨rfl, ⟨nd, rfl⟩⟩))
 repeat (go_quiet (fail))
 go_meet
 case rel => exact ⟨_, (true), (by first | rfl | (simp; done) | (simp [*]; done)), H', ⟨by first | omega | exact Nat.le_refl _⟩, ⟨(zK BK0.out)⟩, by repeat (first | exact Drawn0.refl _ | apply Drawn0.step)⟩
 }
 )
 case rest => (
 clear HC2
 obtain ⟨kq, x19_1, rfl, HA, HJ1, BK0, ⟨mc1, rfl⟩⟩ := hcut
 cases kq with
 | zero => exact absurd HA.out (by simp [spec_l01Ok.j0])
 | succ kj1 => (
 have H := HA.out
 clear HA
 simp only [spec_l01Ok.j0] at H
 by_cases c8 : x19_1 = true
 {
 subst c8
 rw [if_pos rfl] at H
 obtain rfl := Option.some.inj H
 go_wp2
 repeat (go_quiet (fail); try go_wp2)
 go_ret
 exact ⟨by first | rfl | (simp; done) | (simp [*]; done), by repeat (first | exact Drawn0.refl _ | apply Drawn0.step)⟩
 }
 {
 replace c8 := Bool.eq_false_iff.mpr c8
 subst c8
 rw [if_neg (show ¬ (false = true) by decide)] at H
 have H' := ak H
 clear H
 go_wp2
 repeat (go_quiet (fail); try go_wp2)
 go_loopg [3] kj1 (fun kq v3 w' => ∃ (x3_2 : Int), v3 = .int .i64 x3_2 ∧ Aside0 (spec_l01Ok.l0 kq x3_2 a0_0 a0_1 a0_2 a0_3 a0_4 a0_5 a0_6 a0_7 a0_8 a0_9 a0_10 a0_11 = some r) ∧ Aside0 (kq ≤ kj1) ∧ Aside0 (w'.heap[b0]? = some (.cells #[.int .i8 a0_0, .int .i8 a0_1, .int .u16 a0_2, .int .u16 a0_3, .int .u16 a0_4, .int .u16 a0_5, .int .u16 a0_6, .int .u16 a0_7, .int .u16 a0_8, .int .u16 a0_9, .int .u16 a0_10, .int .u16 a0_11] 35 (0, 0))) ∧ Drawn0 w w')
 case atStart => exact ⟨(0), (by first | rfl | (simp; done) | (simp [*]; done)), H', ⟨Nat.le_refl _⟩, ⟨(zK BK0.out)⟩, by repeat (first | exact Drawn0.refl _ | apply Drawn0.step)⟩
 case round => (
 clear H'
 try clear c8
 obtain ⟨x3_2, rfl, HA, HK2, BK0, ⟨m2, rfl⟩⟩ := hrel
 cases gk with
 | zero => exact absurd HA.out (by simp [spec_l01Ok.l0])
 | succ k2 => (
 have H := HA.out
 clear HA
 simp only [spec_l01Ok.l0] at H
 by_cases c9 : x3_2 < 10
 {
 rw [if_pos c9] at H
 have c9b0 : decide (x3_2 < 10) = true := decide_eq_true c9
 clear c9
 by_cases c10 : 0 ≤ x3_2
 {
 rw [if_pos c10] at H
 have c10b0 : decide (0 ≤ x3_2) = true := decide_eq_true c10
 clear c10
 obtain ⟨u_, hu_, H⟩ : ∃ u_ : Int, (#[.int .i8 a0_0, .int .i8 a0_1, .int .u16 a0_2, .int .u16 a0_3, .int .u16 a0_4, .int .u16 a0_5, .int .u16 a0_6, .int .u16 a0_7, .int .u16 a0_8, .int .u16 a0_9, .int .u16 a0_10, .int .u16 a0_11] : Array Value)[2 + x3_2.toNat]? = some (.int .u16 u_) ∧ (if 0 ≤ (IntKind.u64.wrap (a0_0)) then (if (shr .u16 u_ (IntKind.u64.wrap (a0_0))) = 0 then (if x3_2 ≥ (wrap64 (a0_1)) then (if u_ = 0 then (spec_l01Ok.l0 k2 (wrap64 (x3_2 + 1)) a0_0 a0_1 a0_2 a0_3 a0_4 a0_5 a0_6 a0_7 a0_8 a0_9 a0_10 a0_11) else (some false)) else (spec_l01Ok.l0 k2 (wrap64 (x3_2 + 1)) a0_0 a0_1 a0_2 a0_3 a0_4 a0_5 a0_6 a0_7 a0_8 a0_9 a0_10 a0_11)) else (some false)) else (none)) = some r := by
  by_cases e_ : x3_2 = 0
  · rw [if_pos e_] at H; exact ⟨a0_2, by rw [e_]; rfl, by rw [e_] at H ⊢; exact H⟩
  rw [if_neg e_] at H
  by_cases e_ : x3_2 = 1
  · rw [if_pos e_] at H; exact ⟨a0_3, by rw [e_]; rfl, by rw [e_] at H ⊢; exact H⟩
  rw [if_neg e_] at H
  by_cases e_ : x3_2 = 2
  · rw [if_pos e_] at H; exact ⟨a0_4, by rw [e_]; rfl, by rw [e_] at H ⊢; exact H⟩
  rw [if_neg e_] at H
  by_cases e_ : x3_2 = 3
  · rw [if_pos e_] at H; exact ⟨a0_5, by rw [e_]; rfl, by rw [e_] at H ⊢; exact H⟩
  rw [if_neg e_] at H
  by_cases e_ : x3_2 = 4
  · rw [if_pos e_] at H; exact ⟨a0_6, by rw [e_]; rfl, by rw [e_] at H ⊢; exact H⟩
  rw [if_neg e_] at H
  by_cases e_ : x3_2 = 5
  · rw [if_pos e_] at H; exact ⟨a0_7, by rw [e_]; rfl, by rw [e_] at H ⊢; exact H⟩
  rw [if_neg e_] at H
  by_cases e_ : x3_2 = 6
  · rw [if_pos e_] at H; exact ⟨a0_8, by rw [e_]; rfl, by rw [e_] at H ⊢; exact H⟩
  rw [if_neg e_] at H
  by_cases e_ : x3_2 = 7
  · rw [if_pos e_] at H; exact ⟨a0_9, by rw [e_]; rfl, by rw [e_] at H ⊢; exact H⟩
  rw [if_neg e_] at H
  by_cases e_ : x3_2 = 8
  · rw [if_pos e_] at H; exact ⟨a0_10, by rw [e_]; rfl, by rw [e_] at H ⊢; exact H⟩
  rw [if_neg e_] at H
  by_cases e_ : x3_2 = 9
  · rw [if_pos e_] at H; exact ⟨a0_11, by rw [e_]; rfl, by rw [e_] at H ⊢; exact H⟩
  rw [if_neg e_] at H
  exact absurd H (by simp)
 have hin_ : 0 ≤ x3_2 ∧ x3_2 < 10 := ⟨of_decide_eq_true c10b0, of_decide_eq_true c9b0⟩
 have hwr_ : wrap64 (x3_2 + 1) = x3_2 + 1 := by unfold wrap64; omega
 obtain ⟨ji12, hji12⟩ : ∃ j_ : Int, (IntKind.u64.wrap (a0_0)) = j_ := ⟨_, rfl⟩
 first | rw [hji12] at H | simp only [hji12] at H
 by_cases c13 : 0 ≤ (ji12)
 {
 rw [if_pos c13] at H
 have c13b0 := eq_true c13
 have c13b1 : decide (0 ≤ (ji12)) = true := decide_eq_true c13
 clear c13
 obtain ⟨ji14, hji14⟩ : ∃ j_ : Int, (shr .u16 u_ (ji12)) = j_ := ⟨_, rfl⟩
 first | rw [hji14] at H | simp only [hji14] at H
 have hji14_ : (u_ / 2 ^ min (ji12).toNat 16) = ji14 := hji14
 have hji14z : (ji12) ≤ 16 → (u_ / 2 ^ (ji12).toNat) = ji14 := shr_small hji14
 by_cases c15 : (ji14) = 0
 {
 rw [if_pos c15] at H
 have c15b0 : ((ji14) == 0) = true := beq_iff_eq.mpr c15
 have c15b1 : ((ji14) != 0) = false := bne_eq_false_iff_eq.mpr c15
 clear c15
 by_cases c16 : x3_2 ≥ (wrap64 (a0_1))
 {
 rw [if_pos c16] at H
 have c16b0 : decide ((wrap64 (a0_1)) ≤ x3_2) = true := decide_eq_true c16
 (try (have c16b1 : decide ((IntKind.i64.wrap (a0_1)) ≤ x3_2) = true := by first | simpa only [i64_w, i32_w] using (show decide ((wrap64 (a0_1)) ≤ x3_2) = true from decide_eq_true c16) | simpa only [i64_w] using (show decide ((wrap64 (a0_1)) ≤ x3_2) = true from decide_eq_true c16)))
 clear c16
 by_cases c17 : u_ = 0
 {
 rw [if_pos c17] at H
 have c17b0 : (u_ == 0) = true := beq_iff_eq.mpr c17
 have c17b1 : (u_ != 0) = false := bne_eq_false_iff_eq.mpr c17
 clear c17
 have H' := ak H
 clear H
 obtain ⟨hcz18_0, hcz18_1, hcz18_2, hcz18_3, hcz18_4, hcz18_5, hcz18_6, hcz18_7, hcz18_8, hcz18_9, hcz18_10, hcz18_11, hfz18_0, hfz18_1, hfz18_2, hfz18_3, hfz18_4, hfz18_5, hfz18_6, hfz18_7, hfz18_8, hfz18_9, hfz18_10, hfz18_11⟩ := cz12 w BK0
 have hcu_ : w.cell? ⟨b0, 2 + x3_2.toNat, none⟩ = some (.int .u16 u_) := (blk_cell BK0.out (2 + x3_2.toNat)).trans hu_
 go_wp2
 repeat (go_quiet (fail); try go_wp2)
 go_roundg k2
 case measure => have := HJ1.out; have := HK2.out; omega
 case rel => exact ⟨(wrap64 (x3_2 + 1)), (by rw [hwr_]), H', ⟨by have := HJ1.out; have := HK2.out; omega⟩, ⟨(zK BK0.out)⟩, by repeat (first | exact Drawn0.refl _ | apply Drawn0.step)⟩
 }
 {
 rw [if_neg c17] at H
 have c17b0 : (u_ == 0) = false := beq_eq_false_iff_ne.mpr c17
 have c17b1 : (u_ != 0) = true := bne_iff_ne.mpr c17
 obtain rfl := Option.some.inj H
 obtain ⟨hcz19_0, hcz19_1, hcz19_2, hcz19_3, hcz19_4, hcz19_5, hcz19_6, hcz19_7, hcz19_8, hcz19_9, hcz19_10, hcz19_11, hfz19_0, hfz19_1, hfz19_2, hfz19_3, hfz19_4, hfz19_5, hfz19_6, hfz19_7, hfz19_8, hfz19_9, hfz19_10, hfz19_11⟩ := cz12 w BK0
 have hcu_ : w.cell? ⟨b0, 2 + x3_2.toNat, none⟩ = some (.int .u16 u_) := (blk_cell BK0.out (2 + x3_2.toNat)).trans hu_
 go_wp2
 repeat (go_quiet (fail); try go_wp2)
 go_ret
 exact ⟨by first | rfl | (simp; done) | (simp only [← hji12, ← hji14] <;> (first | rfl | simp)) | (simp [*]; done), by repeat (first | exact Drawn0.refl _ | apply Drawn0.step)⟩
 }
 }
 {
 rw [if_neg c16] at H
 have c16b0 : decide ((wrap64 (a0_1)) ≤ x3_2) = false := decide_eq_false c16
 (try (have c16b1 : decide ((IntKind.i64.wrap (a0_1)) ≤ x3_2) = false := by first | simpa only [i64_w, i32_w] using (show decide ((wrap64 (a0_1)) ≤ x3_2) = false from decide_eq_false c16) | simpa only [i64_w] using (show decide ((wrap64 (a0_1)) ≤ x3_2) = false from decide_eq_false c16)))
 clear c16
 have H' := ak H
 clear H
 obtain ⟨hcz20_0, hcz20_1, hcz20_2, hcz20_3, hcz20_4, hcz20_5, hcz20_6, hcz20_7, hcz20_8, hcz20_9, hcz20_10, hcz20_11, hfz20_0, hfz20_1, hfz20_2, hfz20_3, hfz20_4, hfz20_5, hfz20_6, hfz20_7, hfz20_8, hfz20_9, hfz20_10, hfz20_11⟩ := cz12 w BK0
 have hcu_ : w.cell? ⟨b0, 2 + x3_2.toNat, none⟩ = some (.int .u16 u_) := (blk_cell BK0.out (2 + x3_2.toNat)).trans hu_
 go_wp2
 repeat (go_quiet (fail); try go_wp2)
 go_roundg k2
 case measure => have := HJ1.out; have := HK2.out; omega
 case rel => exact ⟨(wrap64 (x3_2 + 1)), (by rw [hwr_]), H', ⟨by have := HJ1.out; have := HK2.out; omega⟩, ⟨(zK BK0.out)⟩, by repeat (first | exact Drawn0.refl _ | apply Drawn0.step)⟩
 }
 }
 {
 rw [if_neg c15] at H
 have c15b0 : ((ji14) == 0) = false := beq_eq_false_iff_ne.mpr c15
 have c15b1 : ((ji14) != 0) = true := bne_iff_ne.mpr c15
 obtain rfl := Option.some.inj H
 obtain ⟨hcz21_0, hcz21_1, hcz21_2, hcz21_3, hcz21_4, hcz21_5, hcz21_6, hcz21_7, hcz21_8, hcz21_9, hcz21_10, hcz21_11, hfz21_0, hfz21_1, hfz21_2, hfz21_3, hfz21_4, hfz21_5, hfz21_6, hfz21_7, hfz21_8, hfz21_9, hfz21_10, hfz21_11⟩ := cz12 w BK0
 have hcu_ : w.cell? ⟨b0, 2 + x3_2.toNat, none⟩ = some (.int .u16 u_) := (blk_cell BK0.out (2 + x3_2.toNat)).trans hu_
 go_wp2
 repeat (go_quiet (fail); try go_wp2)
 go_ret
 exact ⟨by first | rfl | (simp; done) | (simp only [← hji12, ← hji14] <;> (first | rfl | simp)) | (simp [*]; done), by repeat (first | exact Drawn0.refl _ | apply Drawn0.step)⟩
 }
 }
 · rw [if_neg c13] at H; exact absurd H (by simp)
 }
 · rw [if_neg c10] at H; exact absurd H (by simp)
 }
 {
 rw [if_neg c9] at H
 have c9b0 : decide (x3_2 < 10) = false := decide_eq_false c9
 clear c9
 obtain rfl := Option.some.inj H
 go_wp2
 repeat (go_quiet (fail); try go_wp2)
 go_ret
 exact ⟨by first | rfl | (simp; done) | (simp [*]; done), by repeat (first | exact Drawn0.refl _ | apply Drawn0.step)⟩
 }
 )
 )
 }
 )
 )
end Go.Proofs.Ytooidjdgfoioiaa.P
