-- Printed by wip/print (my turned copy of the kit's print) out of the translation; Lean checks it.
import Derived.Test.YtelgmojnndbgmaaDoorP0
import Derived.Test.YtelgmojnndbgmaaDoorP1
import Derived.Test.YtelgmojnndbgmaaDoorP3
import Derived.Test.YtelgmojnndbgmaaDoorP5
import Derived.Test.YtelgmojnndbgmaaDoorP6
namespace Go.Proofs.YtelgmojnndbgmaaDoor.P
open Go.RowKit Go.Proofs.YtelgmojnndbgmaaDoorW.PrintWords Go.Proofs.YtelgmojnndbgmaaDoorW.PrintLast Go.Proofs.YtelgmojnndbgmaaDoorW.PrintMore
attribute [local go_sem] max2_int min2_int max_two min_two max_three min_three max_four min_four   -- for this text's walks alone
set_option linter.unusedVariables false
set_option linter.unusedSimpArgs false

/-! ### laws_FnExactAllBut: function 3 -/
mutual
def laws_FnExactAllBut.j0 : Nat → List (S53) → ByteArray → ByteArray → List Int → Int → List (S51) → List Int → Int → Bool → Int → Option (Bool)
  | 0, _, _, _, _, _, _, _, _, _, _ => none
  | k + 1, x0, x1, x2, x8, x9, x10, x11, x12, x54, x978000 => if x54 = true then (some false) else ((laws_toHabitS.f k x0).bind fun t248 => ((laws_eqHabitS.f k x10 t248).bind fun t251 => (if t251 = true then ((laws_markHabitS.f k x10 1).bind fun bt252 => (if bt252.1 < 0 then (laws_FnExactAllBut.j1 k x0 x1 x2 x8 x9 x11 true x978000) else ((laws_eqInt64S.f k x11 x8).bind fun t254 => (if t254 = true then (laws_FnExactAllBut.j1 k x0 x1 x2 x8 x9 x11 (x12 != x9) x978000) else (laws_FnExactAllBut.j1 k x0 x1 x2 x8 x9 x11 true x978000))))) else (some false))))
def laws_FnExactAllBut.j1 : Nat → List (S53) → ByteArray → ByteArray → List Int → Int → List Int → Bool → Int → Option (Bool)
  | 0, _, _, _, _, _, _, _, _ => none
  | k + 1, x0, x1, x2, x8, x9, x11, x75, x978000 => if x75 = true then (some false) else ((laws_markInt64S.f k x11 1).bind fun bt255 => ((laws_heldInt64S.f k bt255.2 1).bind fun t257 => (if t257 < 0 then (some false) else (if t257 = bt255.1 then ((laws_toHabitS.f k x0).bind fun t258 => ((impl_AllBut.f k t258 x1 x2 x978000).bind fun bt261 => ((laws_eqInt64S.f k bt261.1 x8).bind fun t265 => (if t265 = true then (laws_FnExactAllBut.j2 k bt255.2 bt255.1 (bt261.2 != x9)) else (laws_FnExactAllBut.j2 k bt255.2 bt255.1 true))))) else (some false)))))
def laws_FnExactAllBut.j2 : Nat → List Int → Int → Bool → Option (Bool)
  | 0, _, _, _ => none
  | k + 1, x11, x14, x103 => if x103 = true then (some false) else ((laws_heldInt64S.f k x11 1).bind fun t266 => (if t266 < 0 then (some false) else (if t266 = x14 then (some true) else (some false))))
end
def laws_FnExactAllBut.f (k : Nat) (l0 : List (S53)) (a1 : ByteArray) (a2 : ByteArray) (a977_0 : Int) : Option (Bool) := if (a1.size : Int) > 1048576 then (some true) else (if (a2.size : Int) > 1048576 then (some true) else ((laws_szHabitS.f l0 1048576).bind fun t232 => (if t232 < 0 then (some true) else ((laws_toHabitS.f k l0).bind fun t233 => ((spec_AllBut.f k t233 a1 a2).bind fun bt236 => ((laws_toHabitS.f k l0).bind fun t240 => ((impl_AllBut.f k t240 a1 a2 a977_0).bind fun bt243 => ((laws_eqInt64S.f k bt243.1 bt236.1).bind fun t247 => (if t247 = true then (laws_FnExactAllBut.j0 k l0 a1 a2 bt236.1 bt236.2 t240 bt243.1 bt243.2 (bt243.2 != bt236.2) a977_0) else (laws_FnExactAllBut.j0 k l0 a1 a2 bt236.1 bt236.2 t240 bt243.1 bt243.2 true a977_0))))))))))
theorem laws_FnExactAllBut.mono_l : ∀ k, (∀ y0 y1 y2 y3 y4 y5 y6 y7 y8 y9, LeO (laws_FnExactAllBut.j0 k y0 y1 y2 y3 y4 y5 y6 y7 y8 y9) (laws_FnExactAllBut.j0 (k + 1) y0 y1 y2 y3 y4 y5 y6 y7 y8 y9)) ∧ (∀ y0 y1 y2 y3 y4 y5 y6 y7, LeO (laws_FnExactAllBut.j1 k y0 y1 y2 y3 y4 y5 y6 y7) (laws_FnExactAllBut.j1 (k + 1) y0 y1 y2 y3 y4 y5 y6 y7)) ∧ (∀ y0 y1 y2, LeO (laws_FnExactAllBut.j2 k y0 y1 y2) (laws_FnExactAllBut.j2 (k + 1) y0 y1 y2))
  | 0 => ⟨fun _ _ _ _ _ _ _ _ _ _ r h => by simp [laws_FnExactAllBut.j0] at h, fun _ _ _ _ _ _ _ _ r h => by simp [laws_FnExactAllBut.j1] at h, fun _ _ _ r h => by simp [laws_FnExactAllBut.j2] at h⟩
  | k + 1 => by
    obtain ⟨ih0, ih1, ih2⟩ := laws_FnExactAllBut.mono_l k
    refine ⟨?_, ?_, ?_⟩
    · intro y0 y1 y2 y3 y4 y5 y6 y7 y8 y9
      unfold laws_FnExactAllBut.j0
      repeat' first
      | (with_reducible exact ih0 _ _ _ _ _ _ _ _ _ _)
      | (with_reducible exact ih1 _ _ _ _ _ _ _ _)
      | (with_reducible exact ih2 _ _ _)
      | (with_reducible exact impl_AllBut.mono _ _ _ _ _)
      | (with_reducible exact laws_eqHabitS.mono _ _ _)
      | (with_reducible exact laws_eqInt64S.mono _ _ _)
      | (with_reducible exact laws_heldInt64S.mono _ _ _)
      | (with_reducible exact laws_markHabitS.mono _ _ _)
      | (with_reducible exact laws_markInt64S.mono _ _ _)
      | (with_reducible exact laws_toHabitS.mono _ _)
      | (with_reducible exact spec_AllBut.mono _ _ _ _)
      | (with_reducible exact LeO.refl _)
      | (with_reducible exact LeO.none _)
      | (with_reducible refine LeO.ite ?_ ?_)
      | (with_reducible refine LeO.bind ?_ (fun _ => ?_))
      | exact ih0 _ _ _ _ _ _ _ _ _ _
      | exact ih1 _ _ _ _ _ _ _ _
      | exact ih2 _ _ _
      | exact impl_AllBut.mono _ _ _ _ _
      | exact laws_eqHabitS.mono _ _ _
      | exact laws_eqInt64S.mono _ _ _
      | exact laws_heldInt64S.mono _ _ _
      | exact laws_markHabitS.mono _ _ _
      | exact laws_markInt64S.mono _ _ _
      | exact laws_toHabitS.mono _ _
      | exact spec_AllBut.mono _ _ _ _
      | exact LeO.none _
      | refine LeO.ite ?_ ?_
      | refine LeO.bind ?_ (fun _ => ?_)
    · intro y0 y1 y2 y3 y4 y5 y6 y7
      unfold laws_FnExactAllBut.j1
      repeat' first
      | (with_reducible exact ih0 _ _ _ _ _ _ _ _ _ _)
      | (with_reducible exact ih1 _ _ _ _ _ _ _ _)
      | (with_reducible exact ih2 _ _ _)
      | (with_reducible exact impl_AllBut.mono _ _ _ _ _)
      | (with_reducible exact laws_eqHabitS.mono _ _ _)
      | (with_reducible exact laws_eqInt64S.mono _ _ _)
      | (with_reducible exact laws_heldInt64S.mono _ _ _)
      | (with_reducible exact laws_markHabitS.mono _ _ _)
      | (with_reducible exact laws_markInt64S.mono _ _ _)
      | (with_reducible exact laws_toHabitS.mono _ _)
      | (with_reducible exact spec_AllBut.mono _ _ _ _)
      | (with_reducible exact LeO.refl _)
      | (with_reducible exact LeO.none _)
      | (with_reducible refine LeO.ite ?_ ?_)
      | (with_reducible refine LeO.bind ?_ (fun _ => ?_))
      | exact ih0 _ _ _ _ _ _ _ _ _ _
      | exact ih1 _ _ _ _ _ _ _ _
      | exact ih2 _ _ _
      | exact impl_AllBut.mono _ _ _ _ _
      | exact laws_eqHabitS.mono _ _ _
      | exact laws_eqInt64S.mono _ _ _
      | exact laws_heldInt64S.mono _ _ _
      | exact laws_markHabitS.mono _ _ _
      | exact laws_markInt64S.mono _ _ _
      | exact laws_toHabitS.mono _ _
      | exact spec_AllBut.mono _ _ _ _
      | exact LeO.none _
      | refine LeO.ite ?_ ?_
      | refine LeO.bind ?_ (fun _ => ?_)
    · intro y0 y1 y2
      unfold laws_FnExactAllBut.j2
      repeat' first
      | (with_reducible exact ih0 _ _ _ _ _ _ _ _ _ _)
      | (with_reducible exact ih1 _ _ _ _ _ _ _ _)
      | (with_reducible exact ih2 _ _ _)
      | (with_reducible exact impl_AllBut.mono _ _ _ _ _)
      | (with_reducible exact laws_eqHabitS.mono _ _ _)
      | (with_reducible exact laws_eqInt64S.mono _ _ _)
      | (with_reducible exact laws_heldInt64S.mono _ _ _)
      | (with_reducible exact laws_markHabitS.mono _ _ _)
      | (with_reducible exact laws_markInt64S.mono _ _ _)
      | (with_reducible exact laws_toHabitS.mono _ _)
      | (with_reducible exact spec_AllBut.mono _ _ _ _)
      | (with_reducible exact LeO.refl _)
      | (with_reducible exact LeO.none _)
      | (with_reducible refine LeO.ite ?_ ?_)
      | (with_reducible refine LeO.bind ?_ (fun _ => ?_))
      | exact ih0 _ _ _ _ _ _ _ _ _ _
      | exact ih1 _ _ _ _ _ _ _ _
      | exact ih2 _ _ _
      | exact impl_AllBut.mono _ _ _ _ _
      | exact laws_eqHabitS.mono _ _ _
      | exact laws_eqInt64S.mono _ _ _
      | exact laws_heldInt64S.mono _ _ _
      | exact laws_markHabitS.mono _ _ _
      | exact laws_markInt64S.mono _ _ _
      | exact laws_toHabitS.mono _ _
      | exact spec_AllBut.mono _ _ _ _
      | exact LeO.none _
      | refine LeO.ite ?_ ?_
      | refine LeO.bind ?_ (fun _ => ?_)
theorem laws_FnExactAllBut.mono : ∀ a0 a1 a2 a3 k, LeO (laws_FnExactAllBut.f k a0 a1 a2 a3) (laws_FnExactAllBut.f (k + 1) a0 a1 a2 a3) := by
  intro a0 a1 a2 a3 k
  obtain ⟨ih0, ih1, ih2⟩ := laws_FnExactAllBut.mono_l k
  unfold laws_FnExactAllBut.f
  repeat' first
      | (with_reducible exact ih0 _ _ _ _ _ _ _ _ _ _)
      | (with_reducible exact ih1 _ _ _ _ _ _ _ _)
      | (with_reducible exact ih2 _ _ _)
      | (with_reducible exact impl_AllBut.mono _ _ _ _ _)
      | (with_reducible exact laws_eqHabitS.mono _ _ _)
      | (with_reducible exact laws_eqInt64S.mono _ _ _)
      | (with_reducible exact laws_heldInt64S.mono _ _ _)
      | (with_reducible exact laws_markHabitS.mono _ _ _)
      | (with_reducible exact laws_markInt64S.mono _ _ _)
      | (with_reducible exact laws_toHabitS.mono _ _)
      | (with_reducible exact spec_AllBut.mono _ _ _ _)
      | (with_reducible exact LeO.refl _)
      | (with_reducible exact LeO.none _)
      | (with_reducible refine LeO.ite ?_ ?_)
      | (with_reducible refine LeO.bind ?_ (fun _ => ?_))
      | exact ih0 _ _ _ _ _ _ _ _ _ _
      | exact ih1 _ _ _ _ _ _ _ _
      | exact ih2 _ _ _
      | exact impl_AllBut.mono _ _ _ _ _
      | exact laws_eqHabitS.mono _ _ _
      | exact laws_eqInt64S.mono _ _ _
      | exact laws_heldInt64S.mono _ _ _
      | exact laws_markHabitS.mono _ _ _
      | exact laws_markInt64S.mono _ _ _
      | exact laws_toHabitS.mono _ _
      | exact spec_AllBut.mono _ _ _ _
      | exact LeO.none _
      | refine LeO.ite ?_ ?_
      | refine LeO.bind ?_ (fun _ => ?_)
set_option maxHeartbeats 8000000 in
set_option maxRecDepth 100000 in
theorem laws_FnExactAllBut.calls (k : Nat) (A0 : Option Addr) (c0 : Nat) (l0 : List (S53)) (a1 : ByteArray) (a2 : ByteArray) (a977_0 : Int) (r : Bool) (w : World) (hr0 : Kd.C k53 w A0 l0.length l0) (hc0 : l0.length ≤ c0) (hx977 : w.heap[1]? = some (.cells #[.int .i64 a977_0] 3 (0, 0))) (hT : r = true) (h : laws_FnExactAllBut.f k l0 a1 a2 a977_0 = some r) :
    Calls Tryd.prog 3 #[.slice A0 l0.length c0, .string a1, .string a2] w fun e w' => e = .returned (.bool r) ∧ Below w.heap.size w w' := by
  have HR0 := Aside0.mk hr0
  have HC0 := Aside0.mk hc0
  clear hr0 hc0
  have HT := Aside0.mk hT
  clear hT
  have BK977 := Aside0.mk hx977
  clear hx977
  have HB := Aside0.mk (Below.refl w.heap.size w)
  have H : (if (a1.size : Int) > 1048576 then (some true) else (if (a2.size : Int) > 1048576 then (some true) else ((laws_szHabitS.f l0 1048576).bind fun t232 => (if t232 < 0 then (some true) else ((laws_toHabitS.f k l0).bind fun t233 => ((spec_AllBut.f k t233 a1 a2).bind fun bt236 => ((laws_toHabitS.f k l0).bind fun t240 => ((impl_AllBut.f k t240 a1 a2 a977_0).bind fun bt243 => ((laws_eqInt64S.f k bt243.1 bt236.1).bind fun t247 => (if t247 = true then (laws_FnExactAllBut.j0 k l0 a1 a2 bt236.1 bt236.2 t240 bt243.1 bt243.2 (bt243.2 != bt236.2) a977_0) else (laws_FnExactAllBut.j0 k l0 a1 a2 bt236.1 bt236.2 t240 bt243.1 bt243.2 true a977_0))))))))))) = some r := h
  clear h
  by_cases c5 : (a1.size : Int) > 1048576
  · rw [if_pos c5] at H
    have c5b0 : decide (1048576 < (a1.size : Int)) = true := decide_eq_true c5
    have c5b1 : decide (1048576 < a1.size) = true := decide_eq_true (by omega)
    clear c5
    obtain rfl := Option.some.inj H
    go_enter Tryd.func3, Tryd.ntmps3
    go_wp2
    go_ret
    exact ⟨by first | rfl | (simp [errW_none, errW_some] <;> rfl) | (simp [*, errW_none, errW_some] <;> rfl), by repeat (first | (with_reducible first | exact HB.out | apply below_alloc | apply pw_below_drewN | apply below_drew1 | refine below_set ?_ GE977.out) | exact HB.out)⟩
  · rw [if_neg c5] at H
    have c5b0 : decide (1048576 < (a1.size : Int)) = false := decide_eq_false c5
    have c5b1 : decide (1048576 < a1.size) = false := decide_eq_false (by omega)
    clear c5
    by_cases c6 : (a2.size : Int) > 1048576
    · rw [if_pos c6] at H
      have c6b0 : decide (1048576 < (a2.size : Int)) = true := decide_eq_true c6
      have c6b1 : decide (1048576 < a2.size) = true := decide_eq_true (by omega)
      clear c6
      obtain rfl := Option.some.inj H
      go_enter Tryd.func3, Tryd.ntmps3
      go_wp2
      go_ret
      exact ⟨by first | rfl | (simp [errW_none, errW_some] <;> rfl) | (simp [*, errW_none, errW_some] <;> rfl), by repeat (first | (with_reducible first | exact HB.out | apply below_alloc | apply pw_below_drewN | apply below_drew1 | refine below_set ?_ GE977.out) | exact HB.out)⟩
    · rw [if_neg c6] at H
      have c6b0 : decide (1048576 < (a2.size : Int)) = false := decide_eq_false c6
      have c6b1 : decide (1048576 < a2.size) = false := decide_eq_false (by omega)
      clear c6
      replace H := Option.bind_eq_some_iff.mp H
      obtain ⟨t232, A70, H⟩ := H
      replace H : (if t232 < 0 then (some true) else ((laws_toHabitS.f k l0).bind fun t233 => ((spec_AllBut.f k t233 a1 a2).bind fun bt236 => ((laws_toHabitS.f k l0).bind fun t240 => ((impl_AllBut.f k t240 a1 a2 a977_0).bind fun bt243 => ((laws_eqInt64S.f k bt243.1 bt236.1).bind fun t247 => (if t247 = true then (laws_FnExactAllBut.j0 k l0 a1 a2 bt236.1 bt236.2 t240 bt243.1 bt243.2 (bt243.2 != bt236.2) a977_0) else (laws_FnExactAllBut.j0 k l0 a1 a2 bt236.1 bt236.2 t240 bt243.1 bt243.2 true a977_0)))))))) = some r := H
      have A7 := Aside0.mk A70
      clear A70
      by_cases c8 : t232 < 0
      · rw [if_pos c8] at H
        have c8b0 : decide (t232 < 0) = true := decide_eq_true c8
        clear c8
        obtain rfl := Option.some.inj H
        go_enter Tryd.func3, Tryd.ntmps3
        go_wp2_with (first | ((with_reducible refine gate_callee (f := 5) rfl ?_); refine goesL_ (some 26) rfl rfl Tryd.func5 (by kernel_rfl) rfl #[.slice A0 l0.length c0, .int .i64 1048576] rfl (by (try simp only [List.map_toArray, List.map_cons, List.map_nil]); first | done | rfl | (simp only [List.length_drop, List.length_take]; rfl)) ?_; (with_reducible refine (laws_szHabitS.calls _ _ l0 1048576 t232 _ ?side1 ?side2 A7.out).mono ?_); (case side1 => repeat (first | exact HR0.out | (with_reducible refine Kd.C_alloc ?_ _) | (with_reducible refine Kd.C_drewN ?_ _) | (with_reducible refine Kd.C_drew ?_))); (case side2 => exact HC0.out); rintro e w' ⟨rfl, ⟨nd, rfl⟩⟩; refine ⟨_, rfl, ?_⟩))
        go_ret
        exact ⟨by first | rfl | (simp [errW_none, errW_some] <;> rfl) | (simp [*, errW_none, errW_some] <;> rfl), by repeat (first | (with_reducible first | exact HB.out | apply below_alloc | apply pw_below_drewN | apply below_drew1 | refine below_set ?_ GE977.out) | exact HB.out)⟩
      · rw [if_neg c8] at H
        have c8b0 : decide (t232 < 0) = false := decide_eq_false c8
        clear c8
        replace H := Option.bind_eq_some_iff.mp H
        obtain ⟨t233, A90, H⟩ := H
        replace H : ((spec_AllBut.f k t233 a1 a2).bind fun bt236 => ((laws_toHabitS.f k l0).bind fun t240 => ((impl_AllBut.f k t240 a1 a2 a977_0).bind fun bt243 => ((laws_eqInt64S.f k bt243.1 bt236.1).bind fun t247 => (if t247 = true then (laws_FnExactAllBut.j0 k l0 a1 a2 bt236.1 bt236.2 t240 bt243.1 bt243.2 (bt243.2 != bt236.2) a977_0) else (laws_FnExactAllBut.j0 k l0 a1 a2 bt236.1 bt236.2 t240 bt243.1 bt243.2 true a977_0)))))) = some r := H
        have A9 := Aside0.mk A90
        clear A90
        replace H := Option.bind_eq_some_iff.mp H
        obtain ⟨⟨t236, t237⟩, A100, H⟩ := H
        replace H : ((laws_toHabitS.f k l0).bind fun t240 => ((impl_AllBut.f k t240 a1 a2 a977_0).bind fun bt243 => ((laws_eqInt64S.f k bt243.1 t236).bind fun t247 => (if t247 = true then (laws_FnExactAllBut.j0 k l0 a1 a2 t236 t237 t240 bt243.1 bt243.2 (bt243.2 != t237) a977_0) else (laws_FnExactAllBut.j0 k l0 a1 a2 t236 t237 t240 bt243.1 bt243.2 true a977_0))))) = some r := H
        have A10 := Aside0.mk A100
        clear A100
        replace H := Option.bind_eq_some_iff.mp H
        obtain ⟨t240, A110, H⟩ := H
        replace H : ((impl_AllBut.f k t240 a1 a2 a977_0).bind fun bt243 => ((laws_eqInt64S.f k bt243.1 t236).bind fun t247 => (if t247 = true then (laws_FnExactAllBut.j0 k l0 a1 a2 t236 t237 t240 bt243.1 bt243.2 (bt243.2 != t237) a977_0) else (laws_FnExactAllBut.j0 k l0 a1 a2 t236 t237 t240 bt243.1 bt243.2 true a977_0)))) = some r := H
        have A11 := Aside0.mk A110
        clear A110
        replace H := Option.bind_eq_some_iff.mp H
        obtain ⟨⟨t243, t246⟩, A120, H⟩ := H
        replace H : ((laws_eqInt64S.f k t243 t236).bind fun t247 => (if t247 = true then (laws_FnExactAllBut.j0 k l0 a1 a2 t236 t237 t240 t243 t246 (t246 != t237) a977_0) else (laws_FnExactAllBut.j0 k l0 a1 a2 t236 t237 t240 t243 t246 true a977_0))) = some r := H
        have A12 := Aside0.mk A120
        clear A120
        have HC13 := Aside0.mk H
        clear H
        go_enter Tryd.func3, Tryd.ntmps3
        go_upto_region 12 with (first | ((with_reducible refine gate_callee (f := 5) rfl ?_); refine goesL_ (some 26) rfl rfl Tryd.func5 (by kernel_rfl) rfl #[.slice A0 l0.length c0, .int .i64 1048576] rfl (by (try simp only [List.map_toArray, List.map_cons, List.map_nil]); first | done | rfl | (simp only [List.length_drop, List.length_take]; rfl)) ?_; (with_reducible refine (laws_szHabitS.calls _ _ l0 1048576 t232 _ ?side1 ?side2 A7.out).mono ?_); (case side1 => repeat (first | exact HR0.out | (with_reducible refine Kd.C_alloc ?_ _) | (with_reducible refine Kd.C_drewN ?_ _) | (with_reducible refine Kd.C_drew ?_))); (case side2 => exact HC0.out); rintro e w' ⟨rfl, ⟨nd, rfl⟩⟩; refine ⟨_, rfl, ?_⟩) | ((with_reducible refine gate_callee (f := 7) rfl ?_); refine goesL_ (some 31) rfl rfl Tryd.func7 (by kernel_rfl) rfl #[.slice A0 l0.length c0] rfl (by (try simp only [List.map_toArray, List.map_cons, List.map_nil]); first | done | rfl | (simp only [List.length_drop, List.length_take]; rfl)) ?_; (with_reducible refine (laws_toHabitS.calls k _ _ l0 t233 _ ?side1 ?side2 A9.out).mono ?_); (case side1 => repeat (first | exact HR0.out | (with_reducible refine Kd.C_alloc ?_ _) | (with_reducible refine Kd.C_drewN ?_ _) | (with_reducible refine Kd.C_drew ?_))); (case side2 => exact HC0.out); rintro e w14 ⟨v234, rfl, ho0, hb⟩; refine ⟨_, rfl, ?_⟩; have n0_ := Aside0.mk (Kd.R_lower ho0 (below_size (by repeat (first | (with_reducible first | exact HB.out | apply below_alloc | apply pw_below_drewN | apply below_drew1 | refine below_set ?_ GE977.out) | exact HB.out)))); have n1_ := Aside0.mk (blk_below (g := 1) (o := .cells #[.int .i64 a977_0] 3 (0, 0)) (by (with_reducible repeat (first | refine blk_drewN ?_ _ | refine blk_drew ?_ | refine blk_alloc ?_ _)); exact BK977.out) hb); have n2_ := Aside0.mk (below_step (by repeat (first | (with_reducible first | exact HB.out | apply below_alloc | apply pw_below_drewN | apply below_drew1 | refine below_set ?_ GE977.out) | exact HB.out)) hb); clear BK977; clear HB; have HO235 := n0_; have BK977 := n1_; have HB := n2_; clear n0_ n1_ n2_; (try clear hb); (try clear hb2); (try clear hk); (try clear hi); (try clear ho0); obtain ⟨Ao15, co15, eo15⟩ := Kd.R_slice HO235.out; subst eo15) | ((with_reducible refine gate_callee (f := 6) rfl ?_); refine goesL_ (some 34) rfl rfl Tryd.func6 (by kernel_rfl) rfl #[.slice Ao15 t233.length co15, .string a1, .string a2] rfl (by (try simp only [List.map_toArray, List.map_cons, List.map_nil]); first | done | rfl | (simp only [List.length_drop, List.length_take]; rfl)) ?_; (with_reducible refine (spec_AllBut.calls k _ _ t233 a1 a2 t236 t237 _ ?side1 ?side2 A10.out).mono ?_); (case side1 => repeat (first | exact (Kd.R_reads' HO235.out).2.2 | (with_reducible refine Kd.C_alloc ?_ _) | (with_reducible refine Kd.C_drewN ?_ _) | (with_reducible refine Kd.C_drew ?_))); (case side2 => exact (Kd.R_reads' HO235.out).2.1); rintro e w16 ⟨v238, rfl, ho0, hb⟩; refine ⟨_, rfl, ?_⟩; have n0_ := Aside0.mk (Kd.R_below (by (with_reducible repeat (first | apply Kd.R_alloc | apply Kd.R_drewN | apply Kd.R_drew)); exact HO235.out) hb); have n1_ := Aside0.mk (Kd.R_lower ho0 (below_size (by repeat (first | (with_reducible first | exact HB.out | apply below_alloc | apply pw_below_drewN | apply below_drew1 | refine below_set ?_ GE977.out) | exact HB.out)))); have n2_ := Aside0.mk (blk_below (g := 1) (o := .cells #[.int .i64 a977_0] 3 (0, 0)) (by (with_reducible repeat (first | refine blk_drewN ?_ _ | refine blk_drew ?_ | refine blk_alloc ?_ _)); exact BK977.out) hb); have n3_ := Aside0.mk (below_step (by repeat (first | (with_reducible first | exact HB.out | apply below_alloc | apply pw_below_drewN | apply below_drew1 | refine below_set ?_ GE977.out) | exact HB.out)) hb); clear HO235; clear BK977; clear HB; have HO235 := n0_; have HO239 := n1_; have BK977 := n2_; have HB := n3_; clear n0_ n1_ n2_ n3_; (try clear hb); (try clear hb2); (try clear hk); (try clear hi); (try clear ho0)) | ((with_reducible refine gate_callee (f := 7) rfl ?_); refine goesL_ (some 38) rfl rfl Tryd.func7 (by kernel_rfl) rfl #[.slice A0 l0.length c0] rfl (by (try simp only [List.map_toArray, List.map_cons, List.map_nil]); first | done | rfl | (simp only [List.length_drop, List.length_take]; rfl)) ?_; (with_reducible refine (laws_toHabitS.calls k _ _ l0 t240 _ ?side1 ?side2 A11.out).mono ?_); (case side1 => repeat (first | exact (Kd.C_below HR0.out HB.out) | (with_reducible refine Kd.C_alloc ?_ _) | (with_reducible refine Kd.C_drewN ?_ _) | (with_reducible refine Kd.C_drew ?_))); (case side2 => exact HC0.out); rintro e w17 ⟨v241, rfl, ho0, hb⟩; refine ⟨_, rfl, ?_⟩; have n0_ := Aside0.mk (Kd.R_elder' (by (with_reducible repeat (first | apply Kd.R_alloc | apply Kd.R_drewN | apply Kd.R_drew)); exact HO235.out) (Kd.R_base ho0) hb); have n1_ := Aside0.mk (Kd.R_below (by (with_reducible repeat (first | apply Kd.R_alloc | apply Kd.R_drewN | apply Kd.R_drew)); exact HO239.out) hb); have n2_ := Aside0.mk (Kd.R_lower (Kd.R_new' ho0 (Kd.R_lt (by (with_reducible repeat (first | apply Kd.R_alloc | apply Kd.R_drewN | apply Kd.R_drew)); exact HO235.out))) (below_size (by repeat (first | (with_reducible first | exact HB.out | apply below_alloc | apply pw_below_drewN | apply below_drew1 | refine below_set ?_ GE977.out) | exact HB.out)))); have n3_ := Aside0.mk (blk_below (g := 1) (o := .cells #[.int .i64 a977_0] 3 (0, 0)) (by (with_reducible repeat (first | refine blk_drewN ?_ _ | refine blk_drew ?_ | refine blk_alloc ?_ _)); exact BK977.out) hb); have n4_ := Aside0.mk (below_step (by repeat (first | (with_reducible first | exact HB.out | apply below_alloc | apply pw_below_drewN | apply below_drew1 | refine below_set ?_ GE977.out) | exact HB.out)) hb); clear HO235; clear HO239; clear BK977; clear HB; have HO235 := n0_; have HO239 := n1_; have HO242 := n2_; have BK977 := n3_; have HB := n4_; clear n0_ n1_ n2_ n3_ n4_; (try clear hb); (try clear hb2); (try clear hk); (try clear hi); (try clear ho0); obtain ⟨Ao18, co18, eo18⟩ := Kd.R_slice HO242.out; subst eo18) | ((with_reducible refine gate_callee (f := 8) rfl ?_); refine goesL_ (some 43) rfl rfl Tryd.func8 (by kernel_rfl) rfl #[.slice Ao18 t240.length co18, .string a1, .string a2] rfl (by (try simp only [List.map_toArray, List.map_cons, List.map_nil]); first | done | rfl | (simp only [List.length_drop, List.length_take]; rfl)) ?_; (with_reducible refine (impl_AllBut.calls k _ _ t240 a1 a2 a977_0 t243 t246 _ ?side1 ?side2 ?side3 A12.out).mono ?_); (case side1 => repeat (first | exact (Kd.R_reads' HO242.out).2.2 | (with_reducible refine Kd.C_alloc ?_ _) | (with_reducible refine Kd.C_drewN ?_ _) | (with_reducible refine Kd.C_drew ?_))); (case side2 => exact (Kd.R_reads' HO242.out).2.1); (case side3 => exact (by first | exact BK977.out | ((with_reducible repeat (first | refine blk_drewN ?_ _ | refine blk_drew ?_ | refine blk_alloc ?_ _)); exact BK977.out))); rintro e w19 ⟨v244, rfl, ho0, hb⟩; refine ⟨_, rfl, ?_⟩; have n0_ := Aside0.mk (Kd.R_below (by (with_reducible repeat (first | apply Kd.R_alloc | apply Kd.R_drewN | apply Kd.R_drew)); exact HO235.out) hb); have n1_ := Aside0.mk (Kd.R_elder' (by (with_reducible repeat (first | apply Kd.R_alloc | apply Kd.R_drewN | apply Kd.R_drew)); exact HO239.out) (Kd.R_base ho0) hb); have n2_ := Aside0.mk (Kd.R_below (by (with_reducible repeat (first | apply Kd.R_alloc | apply Kd.R_drewN | apply Kd.R_drew)); exact HO242.out) hb); have n3_ := Aside0.mk (Kd.R_lower (Kd.R_new' ho0 (Kd.R_lt (by (with_reducible repeat (first | apply Kd.R_alloc | apply Kd.R_drewN | apply Kd.R_drew)); exact HO239.out))) (below_size (by repeat (first | (with_reducible first | exact HB.out | apply below_alloc | apply pw_below_drewN | apply below_drew1 | refine below_set ?_ GE977.out) | exact HB.out)))); have n4_ := Aside0.mk (blk_below (g := 1) (o := .cells #[.int .i64 a977_0] 3 (0, 0)) (by (with_reducible repeat (first | refine blk_drewN ?_ _ | refine blk_drew ?_ | refine blk_alloc ?_ _)); exact BK977.out) hb); have n5_ := Aside0.mk (below_step (by repeat (first | (with_reducible first | exact HB.out | apply below_alloc | apply pw_below_drewN | apply below_drew1 | refine below_set ?_ GE977.out) | exact HB.out)) hb); clear HO235; clear HO239; clear HO242; clear BK977; clear HB; have HO235 := n0_; have HO239 := n1_; have HO242 := n2_; have HO245 := n3_; have BK977 := n4_; have HB := n5_; clear n0_ n1_ n2_ n3_ n4_ n5_; (try clear hb); (try clear hb2); (try clear hk); (try clear hi); (try clear ho0)))
        (try simp only [Act.put, List.setIfInBounds_toArray, List.set_cons_zero, List.set_cons_succ])
        go_cut [54] (fun v54 wc => ∃ (kq : Nat) (x54_12 : Bool), v54 = .bool x54_12 ∧ Aside0 (laws_FnExactAllBut.j0 kq l0 a1 a2 t236 t237 t240 t243 t246 x54_12 a977_0 = some r) ∧ Aside0 (kq ≤ k) ∧ Aside0 (Kd.R (Kd.int .i64) 2 wc w.heap.size (fun k_ => some k_ ≠ (v244 : Value).ownBlock) v238 t236) ∧ Aside0 (Kd.R k51 51 wc w.heap.size (fun _ => True) (.slice Ao18 t240.length co18) t240) ∧ Aside0 (Kd.R (Kd.int .i64) 2 wc w.heap.size (fun k_ => some k_ ≠ (v238 : Value).ownBlock) v244 t243) ∧ Aside0 (wc.heap[1]? = some (.cells #[.int .i64 a977_0] 3 (0, 0))) ∧ Aside0 (Below w.heap.size w wc))
        case first =>
          have H := HC13.out
          clear HC13
          replace H := Option.bind_eq_some_iff.mp H
          obtain ⟨t247, A200, H⟩ := H
          replace H : (if t247 = true then (laws_FnExactAllBut.j0 k l0 a1 a2 t236 t237 t240 t243 t246 (t246 != t237) a977_0) else (laws_FnExactAllBut.j0 k l0 a1 a2 t236 t237 t240 t243 t246 true a977_0)) = some r := H
          have A20 := Aside0.mk A200
          clear A200
          by_cases c21 : t247 = true
          · subst c21
            have H1 : (laws_FnExactAllBut.j0 k l0 a1 a2 t236 t237 t240 t243 t246 (t246 != t237) a977_0) = some r := by rw [if_pos rfl] at H; exact H
            clear H
            have H := H1
            clear H1
            have H' := Aside0.mk H
            clear H
            obtain ⟨Ao22, co22, eo22⟩ := Kd.R_slice HO245.out
            subst eo22
            obtain ⟨Ao23, co23, eo23⟩ := Kd.R_slice HO239.out
            subst eo23
            go_wp2_with (first | ((with_reducible refine gate_callee (f := 9) rfl ?_); refine goesL_ (some 48) rfl rfl Tryd.func9 (by kernel_rfl) rfl #[.slice Ao22 t243.length co22, .slice Ao23 t236.length co23] rfl (by (try simp only [List.map_toArray, List.map_cons, List.map_nil]); first | done | rfl | (simp only [List.length_drop, List.length_take]; rfl)) ?_; (with_reducible refine (laws_eqInt64S.calls k _ _ t243 _ _ t236 true _ ?side1 ?side2 ?side3 ?side4 A20.out).mono ?_); (case side1 => repeat (first | exact (Kd.R_reads' HO245.out).2.2 | (with_reducible refine Kd.C_alloc ?_ _) | (with_reducible refine Kd.C_drewN ?_ _) | (with_reducible refine Kd.C_drew ?_))); (case side2 => exact (Kd.R_reads' HO245.out).2.1); (case side3 => repeat (first | exact (Kd.R_reads' HO239.out).2.2 | (with_reducible refine Kd.C_alloc ?_ _) | (with_reducible refine Kd.C_drewN ?_ _) | (with_reducible refine Kd.C_drew ?_))); (case side4 => exact (Kd.R_reads' HO239.out).2.1); rintro e w' ⟨rfl, ⟨nd, rfl⟩⟩; refine ⟨_, rfl, ?_⟩))
            go_meet
            case rel => exact ⟨_, ((t246 != t237)), (by first | rfl | (simp; done) | (simp [*]; done)), H', ⟨by first | omega | exact Nat.le_refl _⟩, ⟨by (with_reducible repeat (first | apply Kd.R_alloc | apply Kd.R_drewN | apply Kd.R_drew)); exact Kd.R_mono HO239.out (fun _ hk => hk.2)⟩, ⟨by (with_reducible repeat (first | apply Kd.R_alloc | apply Kd.R_drewN | apply Kd.R_drew)); exact Kd.R_mono HO242.out (fun _ hk => trivial)⟩, ⟨by (with_reducible repeat (first | apply Kd.R_alloc | apply Kd.R_drewN | apply Kd.R_drew)); exact Kd.R_mono HO245.out (fun _ hk => hk.2)⟩, ⟨by (with_reducible repeat (first | refine blk_drewN ?_ _ | refine blk_drew ?_ | refine blk_alloc ?_ _)); exact BK977.out⟩, ⟨by repeat (first | (with_reducible first | exact HB.out | apply below_alloc | apply pw_below_drewN | apply below_drew1 | refine below_set ?_ GE977.out) | exact HB.out)⟩⟩
          · replace c21 := Bool.eq_false_iff.mpr c21
            subst c21
            have H1 : (laws_FnExactAllBut.j0 k l0 a1 a2 t236 t237 t240 t243 t246 true a977_0) = some r := by rw [if_neg (show ¬ (false = true) by decide)] at H; exact H
            clear H
            have H := H1
            clear H1
            have H' := Aside0.mk H
            clear H
            obtain ⟨Ao24, co24, eo24⟩ := Kd.R_slice HO245.out
            subst eo24
            obtain ⟨Ao25, co25, eo25⟩ := Kd.R_slice HO239.out
            subst eo25
            go_wp2_with (first | ((with_reducible refine gate_callee (f := 9) rfl ?_); refine goesL_ (some 48) rfl rfl Tryd.func9 (by kernel_rfl) rfl #[.slice Ao24 t243.length co24, .slice Ao25 t236.length co25] rfl (by (try simp only [List.map_toArray, List.map_cons, List.map_nil]); first | done | rfl | (simp only [List.length_drop, List.length_take]; rfl)) ?_; (with_reducible refine (laws_eqInt64S.calls k _ _ t243 _ _ t236 false _ ?side1 ?side2 ?side3 ?side4 A20.out).mono ?_); (case side1 => repeat (first | exact (Kd.R_reads' HO245.out).2.2 | (with_reducible refine Kd.C_alloc ?_ _) | (with_reducible refine Kd.C_drewN ?_ _) | (with_reducible refine Kd.C_drew ?_))); (case side2 => exact (Kd.R_reads' HO245.out).2.1); (case side3 => repeat (first | exact (Kd.R_reads' HO239.out).2.2 | (with_reducible refine Kd.C_alloc ?_ _) | (with_reducible refine Kd.C_drewN ?_ _) | (with_reducible refine Kd.C_drew ?_))); (case side4 => exact (Kd.R_reads' HO239.out).2.1); rintro e w' ⟨rfl, ⟨nd, rfl⟩⟩; refine ⟨_, rfl, ?_⟩))
            go_meet
            case rel => exact ⟨_, (true), (by first | rfl | (simp; done) | (simp [*]; done)), H', ⟨by first | omega | exact Nat.le_refl _⟩, ⟨by (with_reducible repeat (first | apply Kd.R_alloc | apply Kd.R_drewN | apply Kd.R_drew)); exact Kd.R_mono HO239.out (fun _ hk => hk.2)⟩, ⟨by (with_reducible repeat (first | apply Kd.R_alloc | apply Kd.R_drewN | apply Kd.R_drew)); exact Kd.R_mono HO242.out (fun _ hk => trivial)⟩, ⟨by (with_reducible repeat (first | apply Kd.R_alloc | apply Kd.R_drewN | apply Kd.R_drew)); exact Kd.R_mono HO245.out (fun _ hk => hk.2)⟩, ⟨by (with_reducible repeat (first | refine blk_drewN ?_ _ | refine blk_drew ?_ | refine blk_alloc ?_ _)); exact BK977.out⟩, ⟨by repeat (first | (with_reducible first | exact HB.out | apply below_alloc | apply pw_below_drewN | apply below_drew1 | refine below_set ?_ GE977.out) | exact HB.out)⟩⟩
        case rest =>
          clear HC13
          try clear c2
          try clear p2
          try clear c3
          try clear c5
          try clear c5b0
          try clear c5b1
          try clear c6
          try clear c6b0
          try clear c6b1
          try clear c7
          try clear c8
          try clear c8b0
          try clear c9
          try clear hx9
          try clear c21
          obtain ⟨kq, x54_12, rfl, HA, HJ12, HO_8, HO_10, HO_11, BK977, HB⟩ := hcut
          cases kq with
          | zero => exact absurd HA.out (by simp [laws_FnExactAllBut.j0])
          | succ kj12 =>
            have H := HA.out
            clear HA
            simp only [laws_FnExactAllBut.j0] at H
            by_cases c26 : x54_12 = true
            · subst c26
              have H1 : (some false) = some r := by rw [if_pos rfl] at H; exact H
              clear H
              have H := H1
              clear H1
              exact absurd ((Option.some.inj H).trans HT.out) (by decide)
            · replace c26 := Bool.eq_false_iff.mpr c26
              subst c26
              have H1 : ((laws_toHabitS.f kj12 l0).bind fun t248 => ((laws_eqHabitS.f kj12 t240 t248).bind fun t251 => (if t251 = true then ((laws_markHabitS.f kj12 t240 1).bind fun bt252 => (if bt252.1 < 0 then (laws_FnExactAllBut.j1 kj12 l0 a1 a2 t236 t237 t243 true a977_0) else ((laws_eqInt64S.f kj12 t243 t236).bind fun t254 => (if t254 = true then (laws_FnExactAllBut.j1 kj12 l0 a1 a2 t236 t237 t243 (t246 != t237) a977_0) else (laws_FnExactAllBut.j1 kj12 l0 a1 a2 t236 t237 t243 true a977_0))))) else (some false)))) = some r := by rw [if_neg (show ¬ (false = true) by decide)] at H; exact H
              clear H
              have H := H1
              clear H1
              replace H := Option.bind_eq_some_iff.mp H
              obtain ⟨t248, A270, H⟩ := H
              replace H : ((laws_eqHabitS.f kj12 t240 t248).bind fun t251 => (if t251 = true then ((laws_markHabitS.f kj12 t240 1).bind fun bt252 => (if bt252.1 < 0 then (laws_FnExactAllBut.j1 kj12 l0 a1 a2 t236 t237 t243 true a977_0) else ((laws_eqInt64S.f kj12 t243 t236).bind fun t254 => (if t254 = true then (laws_FnExactAllBut.j1 kj12 l0 a1 a2 t236 t237 t243 (t246 != t237) a977_0) else (laws_FnExactAllBut.j1 kj12 l0 a1 a2 t236 t237 t243 true a977_0))))) else (some false))) = some r := H
              have A27 := Aside0.mk A270
              clear A270
              replace H := Option.bind_eq_some_iff.mp H
              obtain ⟨t251, A280, H⟩ := H
              replace H : (if t251 = true then ((laws_markHabitS.f kj12 t240 1).bind fun bt252 => (if bt252.1 < 0 then (laws_FnExactAllBut.j1 kj12 l0 a1 a2 t236 t237 t243 true a977_0) else ((laws_eqInt64S.f kj12 t243 t236).bind fun t254 => (if t254 = true then (laws_FnExactAllBut.j1 kj12 l0 a1 a2 t236 t237 t243 (t246 != t237) a977_0) else (laws_FnExactAllBut.j1 kj12 l0 a1 a2 t236 t237 t243 true a977_0))))) else (some false)) = some r := H
              have A28 := Aside0.mk A280
              clear A280
              by_cases c29 : t251 = true
              · subst c29
                have H1 : ((laws_markHabitS.f kj12 t240 1).bind fun bt252 => (if bt252.1 < 0 then (laws_FnExactAllBut.j1 kj12 l0 a1 a2 t236 t237 t243 true a977_0) else ((laws_eqInt64S.f kj12 t243 t236).bind fun t254 => (if t254 = true then (laws_FnExactAllBut.j1 kj12 l0 a1 a2 t236 t237 t243 (t246 != t237) a977_0) else (laws_FnExactAllBut.j1 kj12 l0 a1 a2 t236 t237 t243 true a977_0))))) = some r := by rw [if_pos rfl] at H; exact H
                clear H
                have H := H1
                clear H1
                replace H := Option.bind_eq_some_iff.mp H
                obtain ⟨⟨t252, t253⟩, A300, H⟩ := H
                replace H : (if t252 < 0 then (laws_FnExactAllBut.j1 kj12 l0 a1 a2 t236 t237 t243 true a977_0) else ((laws_eqInt64S.f kj12 t243 t236).bind fun t254 => (if t254 = true then (laws_FnExactAllBut.j1 kj12 l0 a1 a2 t236 t237 t243 (t246 != t237) a977_0) else (laws_FnExactAllBut.j1 kj12 l0 a1 a2 t236 t237 t243 true a977_0)))) = some r := H
                have A30 := Aside0.mk A300
                clear A300
                have HC31 := Aside0.mk H
                clear H
                go_upto_region 18 with (first | ((with_reducible refine gate_callee (f := 7) rfl ?_); refine goesL_ (some 57) rfl rfl Tryd.func7 (by kernel_rfl) rfl #[.slice A0 l0.length c0] rfl (by (try simp only [List.map_toArray, List.map_cons, List.map_nil]); first | done | rfl | (simp only [List.length_drop, List.length_take]; rfl)) ?_; (with_reducible refine (laws_toHabitS.calls kj12 _ _ l0 t248 _ ?side1 ?side2 A27.out).mono ?_); (case side1 => repeat (first | exact (Kd.C_below HR0.out HB.out) | (with_reducible refine Kd.C_alloc ?_ _) | (with_reducible refine Kd.C_drewN ?_ _) | (with_reducible refine Kd.C_drew ?_))); (case side2 => exact HC0.out); rintro e w32 ⟨v249, rfl, ho0, hb⟩; refine ⟨_, rfl, ?_⟩; have n0_ := Aside0.mk (Kd.R_below (by (with_reducible repeat (first | apply Kd.R_alloc | apply Kd.R_drewN | apply Kd.R_drew)); exact HO_8.out) hb); have n1_ := Aside0.mk (Kd.R_elder' (by (with_reducible repeat (first | apply Kd.R_alloc | apply Kd.R_drewN | apply Kd.R_drew)); exact HO_10.out) (Kd.R_base ho0) hb); have n2_ := Aside0.mk (Kd.R_below (by (with_reducible repeat (first | apply Kd.R_alloc | apply Kd.R_drewN | apply Kd.R_drew)); exact HO_11.out) hb); have n3_ := Aside0.mk (Kd.R_lower (Kd.R_new' ho0 (Kd.R_lt (by (with_reducible repeat (first | apply Kd.R_alloc | apply Kd.R_drewN | apply Kd.R_drew)); exact HO_10.out))) (below_size (by repeat (first | (with_reducible first | exact HB.out | apply below_alloc | apply pw_below_drewN | apply below_drew1 | refine below_set ?_ GE977.out) | exact HB.out)))); have n4_ := Aside0.mk (blk_below (g := 1) (o := .cells #[.int .i64 a977_0] 3 (0, 0)) (by (with_reducible repeat (first | refine blk_drewN ?_ _ | refine blk_drew ?_ | refine blk_alloc ?_ _)); exact BK977.out) hb); have n5_ := Aside0.mk (below_step (by repeat (first | (with_reducible first | exact HB.out | apply below_alloc | apply pw_below_drewN | apply below_drew1 | refine below_set ?_ GE977.out) | exact HB.out)) hb); clear HO_8; clear HO_10; clear HO_11; clear BK977; clear HB; have HO_8 := n0_; have HO_10 := n1_; have HO_11 := n2_; have HO250 := n3_; have BK977 := n4_; have HB := n5_; clear n0_ n1_ n2_ n3_ n4_ n5_; (try clear hb); (try clear hb2); (try clear hk); (try clear hi); (try clear ho0); obtain ⟨Ao33, co33, eo33⟩ := Kd.R_slice HO250.out; subst eo33) | ((with_reducible refine gate_callee (f := 10) rfl ?_); refine goesL_ (some 58) rfl rfl Tryd.func10 (by kernel_rfl) rfl #[.slice Ao18 t240.length co18, .slice Ao33 t248.length co33] rfl (by (try simp only [List.map_toArray, List.map_cons, List.map_nil]); first | done | rfl | (simp only [List.length_drop, List.length_take]; rfl)) ?_; (with_reducible refine (laws_eqHabitS.calls kj12 _ _ t240 _ _ t248 true _ ?side1 ?side2 ?side3 ?side4 A28.out).mono ?_); (case side1 => repeat (first | exact (Kd.R_reads' HO_10.out).2.2 | (with_reducible refine Kd.C_alloc ?_ _) | (with_reducible refine Kd.C_drewN ?_ _) | (with_reducible refine Kd.C_drew ?_))); (case side2 => exact (Kd.R_reads' HO_10.out).2.1); (case side3 => repeat (first | exact (Kd.R_reads' HO250.out).2.2 | (with_reducible refine Kd.C_alloc ?_ _) | (with_reducible refine Kd.C_drewN ?_ _) | (with_reducible refine Kd.C_drew ?_))); (case side4 => exact (Kd.R_reads' HO250.out).2.1); rintro e w34 ⟨rfl, hb⟩; refine ⟨_, rfl, ?_⟩; have n0_ := Aside0.mk (Kd.R_below (by (with_reducible repeat (first | apply Kd.R_alloc | apply Kd.R_drewN | apply Kd.R_drew)); exact HO_8.out) hb); have n1_ := Aside0.mk (Kd.R_below (by (with_reducible repeat (first | apply Kd.R_alloc | apply Kd.R_drewN | apply Kd.R_drew)); exact HO_10.out) hb); have n2_ := Aside0.mk (Kd.R_below (by (with_reducible repeat (first | apply Kd.R_alloc | apply Kd.R_drewN | apply Kd.R_drew)); exact HO_11.out) hb); have n3_ := Aside0.mk (Kd.R_below (by (with_reducible repeat (first | apply Kd.R_alloc | apply Kd.R_drewN | apply Kd.R_drew)); exact HO250.out) hb); have n4_ := Aside0.mk (blk_below (g := 1) (o := .cells #[.int .i64 a977_0] 3 (0, 0)) (by (with_reducible repeat (first | refine blk_drewN ?_ _ | refine blk_drew ?_ | refine blk_alloc ?_ _)); exact BK977.out) hb); have n5_ := Aside0.mk (below_step (by repeat (first | (with_reducible first | exact HB.out | apply below_alloc | apply pw_below_drewN | apply below_drew1 | refine below_set ?_ GE977.out) | exact HB.out)) hb); clear HO_8; clear HO_10; clear HO_11; clear HO250; clear BK977; clear HB; have HO_8 := n0_; have HO_10 := n1_; have HO_11 := n2_; have HO250 := n3_; have BK977 := n4_; have HB := n5_; clear n0_ n1_ n2_ n3_ n4_ n5_; (try clear hb); (try clear hb2); (try clear hk); (try clear hi)) | ((with_reducible refine gate_callee (f := 11) rfl ?_); refine goesL_ (some 62) rfl rfl Tryd.func11 (by kernel_rfl) rfl #[.slice Ao18 t240.length co18, .int .i64 1] rfl (by (try simp only [List.map_toArray, List.map_cons, List.map_nil]); first | done | rfl | (simp only [List.length_drop, List.length_take]; rfl)) ?_; (with_reducible refine (laws_markHabitS.calls kj12 (fun k_ => some k_ = (.slice Ao18 t240.length co18 : Value).ownBlock) (.slice Ao18 t240.length co18) t240 1 t252 t253 w _ ?side1 ?side2 A30.out).mono ?_); (case side1 => repeat (first | (with_reducible first | exact HB.out | apply below_alloc | apply pw_below_drewN | apply below_drew1 | refine below_set ?_ GE977.out) | exact HB.out)); (case side2 => exact Kd.R_tight rfl HO_10.out); rintro e w35 ⟨rfl, hy0, hb, hkp⟩; refine ⟨_, rfl, ?_⟩; have n0_ := Aside0.mk (Kd.R_mono (ok' := fun k_ => some k_ ≠ (v244 : Value).ownBlock) (Kd.R_keptB ((Kd.R_apart' HO_8.out (Kd.R_typed HO_10.out) (by decide))) hkp (fun k_ hk_ hs_ => (hk_.2) hs_)) (fun k_ hk_ => hk_.1.1)); have n1_ := Aside0.mk (Kd.R_reok rfl hy0 (fun k_ e_ => HO_10.out.1 k_ e_)); have n2_ := Aside0.mk (Kd.R_mono (ok' := fun k_ => some k_ ≠ (v238 : Value).ownBlock) (Kd.R_keptB ((Kd.R_apart' HO_11.out (Kd.R_typed HO_10.out) (by decide))) hkp (fun k_ hk_ hs_ => (hk_.2) hs_)) (fun k_ hk_ => hk_.1.1)); have n3_ := Aside0.mk (blk_kept (by (with_reducible repeat (first | refine blk_drewN ?_ _ | refine blk_drew ?_ | refine blk_alloc ?_ _)); exact BK977.out) hkp (fun hs_ => (fun e_ => (Kd.R_ne HO_10.out BK977.out (by decide)) e_) hs_)); have n4_ := Aside0.mk (Kd.R_mono (ok' := fun k_ => some k_ ≠ (.slice Ao18 t240.length co18 : Value).ownBlock) (Kd.R_keptB (HO250.out) hkp (fun k_ hk_ hs_ => (hk_.2) hs_)) (fun k_ hk_ => hk_.1.2)); have n5_ := Aside0.mk (hb); clear HO_8; clear HO_10; clear HO_11; clear BK977; clear HO250; clear HB; have HO_8 := n0_; have HO_10 := n1_; have HO_11 := n2_; have BK977 := n3_; have HO250 := n4_; have HB := n5_; clear n0_ n1_ n2_ n3_ n4_ n5_; (try clear hb); (try clear hkp); (try clear hy0)))
                (try simp only [Act.put, List.setIfInBounds_toArray, List.set_cons_zero, List.set_cons_succ])
                go_cut [75] (fun v75 wc => ∃ (kq : Nat) (x75_30 : Bool), v75 = .bool x75_30 ∧ Aside0 (laws_FnExactAllBut.j1 kq l0 a1 a2 t236 t237 t243 x75_30 a977_0 = some r) ∧ Aside0 (kq ≤ kj12) ∧ Aside0 (Kd.R (Kd.int .i64) 2 wc w.heap.size (fun k_ => some k_ ≠ (v244 : Value).ownBlock) v238 t236) ∧ Aside0 (Kd.R (Kd.int .i64) 2 wc w.heap.size (fun k_ => some k_ ≠ (v238 : Value).ownBlock) v244 t243) ∧ Aside0 (wc.heap[1]? = some (.cells #[.int .i64 a977_0] 3 (0, 0))) ∧ Aside0 (Below w.heap.size w wc))
                case first =>
                  have H := HC31.out
                  clear HC31
                  by_cases c36 : t252 < 0
                  · rw [if_pos c36] at H
                    have c36b0 : decide (t252 < 0) = true := decide_eq_true c36
                    clear c36
                    (first | rw [c36b0] | (simp only [i64_w, i32_w]; rw [c36b0]) | skip)
                    have H' := Aside0.mk H
                    clear H
                    go_wp2
                    go_meet
                    case rel => exact ⟨_, (true), (by first | rfl | (simp; done) | (simp [*]; done)), H', ⟨by have := HJ12.out; first | omega | exact Nat.le_refl _⟩, ⟨by (with_reducible repeat (first | apply Kd.R_alloc | apply Kd.R_drewN | apply Kd.R_drew)); exact HO_8.out⟩, ⟨by (with_reducible repeat (first | apply Kd.R_alloc | apply Kd.R_drewN | apply Kd.R_drew)); exact HO_11.out⟩, ⟨by (with_reducible repeat (first | refine blk_drewN ?_ _ | refine blk_drew ?_ | refine blk_alloc ?_ _)); exact BK977.out⟩, ⟨by repeat (first | (with_reducible first | exact HB.out | apply below_alloc | apply pw_below_drewN | apply below_drew1 | refine below_set ?_ GE977.out) | exact HB.out)⟩⟩
                  · rw [if_neg c36] at H
                    have c36b0 : decide (t252 < 0) = false := decide_eq_false c36
                    clear c36
                    (first | rw [c36b0] | (simp only [i64_w, i32_w]; rw [c36b0]) | skip)
                    replace H := Option.bind_eq_some_iff.mp H
                    obtain ⟨t254, A370, H⟩ := H
                    replace H : (if t254 = true then (laws_FnExactAllBut.j1 kj12 l0 a1 a2 t236 t237 t243 (t246 != t237) a977_0) else (laws_FnExactAllBut.j1 kj12 l0 a1 a2 t236 t237 t243 true a977_0)) = some r := H
                    have A37 := Aside0.mk A370
                    clear A370
                    by_cases c38 : t254 = true
                    · subst c38
                      have H1 : (laws_FnExactAllBut.j1 kj12 l0 a1 a2 t236 t237 t243 (t246 != t237) a977_0) = some r := by rw [if_pos rfl] at H; exact H
                      clear H
                      have H := H1
                      clear H1
                      have H' := Aside0.mk H
                      clear H
                      obtain ⟨Ao39, co39, eo39⟩ := Kd.R_slice HO_11.out
                      subst eo39
                      obtain ⟨Ao40, co40, eo40⟩ := Kd.R_slice HO_8.out
                      subst eo40
                      go_wp2_with (first | (go_at_call 9; (with_reducible refine (laws_eqInt64S.calls kj12 _ _ t243 _ _ t236 true _ ?side1 ?side2 ?side3 ?side4 A37.out).mono ?_); (case side1 => repeat (first | exact (Kd.R_reads' HO_11.out).2.2 | (with_reducible refine Kd.C_alloc ?_ _) | (with_reducible refine Kd.C_drewN ?_ _) | (with_reducible refine Kd.C_drew ?_))); (case side2 => exact (Kd.R_reads' HO_11.out).2.1); (case side3 => repeat (first | exact (Kd.R_reads' HO_8.out).2.2 | (with_reducible refine Kd.C_alloc ?_ _) | (with_reducible refine Kd.C_drewN ?_ _) | (with_reducible refine Kd.C_drew ?_))); (case side4 => exact (Kd.R_reads' HO_8.out).2.1); rintro e w' ⟨rfl, ⟨nd, rfl⟩⟩))
                      go_meet
                      case rel => exact ⟨_, ((t246 != t237)), (by first | rfl | (simp; done) | (simp [*]; done)), H', ⟨by have := HJ12.out; first | omega | exact Nat.le_refl _⟩, ⟨by (with_reducible repeat (first | apply Kd.R_alloc | apply Kd.R_drewN | apply Kd.R_drew)); exact HO_8.out⟩, ⟨by (with_reducible repeat (first | apply Kd.R_alloc | apply Kd.R_drewN | apply Kd.R_drew)); exact HO_11.out⟩, ⟨by (with_reducible repeat (first | refine blk_drewN ?_ _ | refine blk_drew ?_ | refine blk_alloc ?_ _)); exact BK977.out⟩, ⟨by repeat (first | (with_reducible first | exact HB.out | apply below_alloc | apply pw_below_drewN | apply below_drew1 | refine below_set ?_ GE977.out) | exact HB.out)⟩⟩
                    · replace c38 := Bool.eq_false_iff.mpr c38
                      subst c38
                      have H1 : (laws_FnExactAllBut.j1 kj12 l0 a1 a2 t236 t237 t243 true a977_0) = some r := by rw [if_neg (show ¬ (false = true) by decide)] at H; exact H
                      clear H
                      have H := H1
                      clear H1
                      have H' := Aside0.mk H
                      clear H
                      obtain ⟨Ao41, co41, eo41⟩ := Kd.R_slice HO_11.out
                      subst eo41
                      obtain ⟨Ao42, co42, eo42⟩ := Kd.R_slice HO_8.out
                      subst eo42
                      go_wp2_with (first | (go_at_call 9; (with_reducible refine (laws_eqInt64S.calls kj12 _ _ t243 _ _ t236 false _ ?side1 ?side2 ?side3 ?side4 A37.out).mono ?_); (case side1 => repeat (first | exact (Kd.R_reads' HO_11.out).2.2 | (with_reducible refine Kd.C_alloc ?_ _) | (with_reducible refine Kd.C_drewN ?_ _) | (with_reducible refine Kd.C_drew ?_))); (case side2 => exact (Kd.R_reads' HO_11.out).2.1); (case side3 => repeat (first | exact (Kd.R_reads' HO_8.out).2.2 | (with_reducible refine Kd.C_alloc ?_ _) | (with_reducible refine Kd.C_drewN ?_ _) | (with_reducible refine Kd.C_drew ?_))); (case side4 => exact (Kd.R_reads' HO_8.out).2.1); rintro e w' ⟨rfl, ⟨nd, rfl⟩⟩))
                      go_meet
                      case rel => exact ⟨_, (true), (by first | rfl | (simp; done) | (simp [*]; done)), H', ⟨by have := HJ12.out; first | omega | exact Nat.le_refl _⟩, ⟨by (with_reducible repeat (first | apply Kd.R_alloc | apply Kd.R_drewN | apply Kd.R_drew)); exact HO_8.out⟩, ⟨by (with_reducible repeat (first | apply Kd.R_alloc | apply Kd.R_drewN | apply Kd.R_drew)); exact HO_11.out⟩, ⟨by (with_reducible repeat (first | refine blk_drewN ?_ _ | refine blk_drew ?_ | refine blk_alloc ?_ _)); exact BK977.out⟩, ⟨by repeat (first | (with_reducible first | exact HB.out | apply below_alloc | apply pw_below_drewN | apply below_drew1 | refine below_set ?_ GE977.out) | exact HB.out)⟩⟩
                case rest =>
                  clear HC31
                  try clear c1
                  try clear c2
                  try clear p2
                  try clear c3
                  try clear c5
                  try clear c5b0
                  try clear c5b1
                  try clear c6
                  try clear c6b0
                  try clear c6b1
                  try clear c7
                  try clear c8
                  try clear c8b0
                  try clear c9
                  try clear hx9
                  try clear c10
                  try clear c11
                  try clear c21
                  try clear c26
                  try clear c29
                  try clear c36
                  try clear c36b0
                  try clear c38
                  try clear p2
                  obtain ⟨kq, x75_30, rfl, HA, HJ30, HO_8, HO_11, BK977, HB⟩ := hcut
                  cases kq with
                  | zero => exact absurd HA.out (by simp [laws_FnExactAllBut.j1])
                  | succ kj30 =>
                    have H := HA.out
                    clear HA
                    simp only [laws_FnExactAllBut.j1] at H
                    by_cases c43 : x75_30 = true
                    · subst c43
                      have H1 : (some false) = some r := by rw [if_pos rfl] at H; exact H
                      clear H
                      have H := H1
                      clear H1
                      exact absurd ((Option.some.inj H).trans HT.out) (by decide)
                    · replace c43 := Bool.eq_false_iff.mpr c43
                      subst c43
                      have H1 : ((laws_markInt64S.f kj30 t243 1).bind fun bt255 => ((laws_heldInt64S.f kj30 bt255.2 1).bind fun t257 => (if t257 < 0 then (some false) else (if t257 = bt255.1 then ((laws_toHabitS.f kj30 l0).bind fun t258 => ((impl_AllBut.f kj30 t258 a1 a2 a977_0).bind fun bt261 => ((laws_eqInt64S.f kj30 bt261.1 t236).bind fun t265 => (if t265 = true then (laws_FnExactAllBut.j2 kj30 bt255.2 bt255.1 (bt261.2 != t237)) else (laws_FnExactAllBut.j2 kj30 bt255.2 bt255.1 true))))) else (some false))))) = some r := by rw [if_neg (show ¬ (false = true) by decide)] at H; exact H
                      clear H
                      have H := H1
                      clear H1
                      replace H := Option.bind_eq_some_iff.mp H
                      obtain ⟨⟨t255, t256⟩, A440, H⟩ := H
                      replace H : ((laws_heldInt64S.f kj30 t256 1).bind fun t257 => (if t257 < 0 then (some false) else (if t257 = t255 then ((laws_toHabitS.f kj30 l0).bind fun t258 => ((impl_AllBut.f kj30 t258 a1 a2 a977_0).bind fun bt261 => ((laws_eqInt64S.f kj30 bt261.1 t236).bind fun t265 => (if t265 = true then (laws_FnExactAllBut.j2 kj30 t256 t255 (bt261.2 != t237)) else (laws_FnExactAllBut.j2 kj30 t256 t255 true))))) else (some false)))) = some r := H
                      have A44 := Aside0.mk A440
                      clear A440
                      replace H := Option.bind_eq_some_iff.mp H
                      obtain ⟨t257, A450, H⟩ := H
                      replace H : (if t257 < 0 then (some false) else (if t257 = t255 then ((laws_toHabitS.f kj30 l0).bind fun t258 => ((impl_AllBut.f kj30 t258 a1 a2 a977_0).bind fun bt261 => ((laws_eqInt64S.f kj30 bt261.1 t236).bind fun t265 => (if t265 = true then (laws_FnExactAllBut.j2 kj30 t256 t255 (bt261.2 != t237)) else (laws_FnExactAllBut.j2 kj30 t256 t255 true))))) else (some false))) = some r := H
                      have A45 := Aside0.mk A450
                      clear A450
                      by_cases c46 : t257 < 0
                      · rw [if_pos c46] at H
                        have c46b0 : decide (t257 < 0) = true := decide_eq_true c46
                        clear c46
                        exact absurd ((Option.some.inj H).trans HT.out) (by decide)
                      · rw [if_neg c46] at H
                        have c46b0 : decide (t257 < 0) = false := decide_eq_false c46
                        clear c46
                        by_cases c47 : t257 = t255
                        · rw [if_pos c47] at H
                          have c47b0 : (t257 == t255) = true := beq_iff_eq.mpr c47
                          have c47b1 : (t257 != t255) = false := bne_eq_false_iff_eq.mpr c47
                          clear c47
                          replace H := Option.bind_eq_some_iff.mp H
                          obtain ⟨t258, A480, H⟩ := H
                          replace H : ((impl_AllBut.f kj30 t258 a1 a2 a977_0).bind fun bt261 => ((laws_eqInt64S.f kj30 bt261.1 t236).bind fun t265 => (if t265 = true then (laws_FnExactAllBut.j2 kj30 t256 t255 (bt261.2 != t237)) else (laws_FnExactAllBut.j2 kj30 t256 t255 true)))) = some r := H
                          have A48 := Aside0.mk A480
                          clear A480
                          replace H := Option.bind_eq_some_iff.mp H
                          obtain ⟨⟨t261, t264⟩, A490, H⟩ := H
                          replace H : ((laws_eqInt64S.f kj30 t261 t236).bind fun t265 => (if t265 = true then (laws_FnExactAllBut.j2 kj30 t256 t255 (t264 != t237)) else (laws_FnExactAllBut.j2 kj30 t256 t255 true))) = some r := H
                          have A49 := Aside0.mk A490
                          clear A490
                          have HC50 := Aside0.mk H
                          clear H
                          obtain ⟨Ao51, co51, eo51⟩ := Kd.R_slice HO_11.out
                          subst eo51
                          go_upto_region 29 with (first | ((with_reducible refine gate_callee (f := 12) rfl ?_); refine goesL_ (some 78) rfl rfl Tryd.func12 (by kernel_rfl) rfl #[.slice Ao51 t243.length co51, .int .i64 1] rfl (by (try simp only [List.map_toArray, List.map_cons, List.map_nil]); first | done | rfl | (simp only [List.length_drop, List.length_take]; rfl)) ?_; (with_reducible refine (laws_markInt64S.calls kj30 (fun k_ => some k_ = (.slice Ao51 t243.length co51 : Value).ownBlock) (.slice Ao51 t243.length co51) t243 1 t255 t256 w _ ?side1 ?side2 A44.out).mono ?_); (case side1 => repeat (first | (with_reducible first | exact HB.out | apply below_alloc | apply pw_below_drewN | apply below_drew1 | refine below_set ?_ GE977.out) | exact HB.out)); (case side2 => exact Kd.R_tight rfl HO_11.out); rintro e w52 ⟨rfl, hy0, hb, hkp⟩; refine ⟨_, rfl, ?_⟩; have n0_ := Aside0.mk (Kd.R_mono (ok' := fun k_ => some k_ ≠ (.slice Ao51 t243.length co51 : Value).ownBlock) (Kd.R_keptB (HO_8.out) hkp (fun k_ hk_ hs_ => (hk_) hs_)) (fun k_ hk_ => hk_.1)); have n1_ := Aside0.mk (Kd.R_reok rfl hy0 (fun k_ e_ => HO_11.out.1 k_ e_)); have n2_ := Aside0.mk (blk_kept (by (with_reducible repeat (first | refine blk_drewN ?_ _ | refine blk_drew ?_ | refine blk_alloc ?_ _)); exact BK977.out) hkp (fun hs_ => (fun e_ => (Kd.R_ne HO_11.out BK977.out (by decide)) e_) hs_)); have n3_ := Aside0.mk (hb); clear HO_8; clear HO_11; clear BK977; clear HB; have HO_8 := n0_; have HO_11 := n1_; have BK977 := n2_; have HB := n3_; clear n0_ n1_ n2_ n3_; (try clear hb); (try clear hkp); (try clear hy0)) | ((with_reducible refine gate_callee (f := 13) rfl ?_); refine goesL_ (some 81) rfl rfl Tryd.func13 (by kernel_rfl) rfl #[.slice Ao51 t256.length co51, .int .i64 1] rfl (by (try simp only [List.map_toArray, List.map_cons, List.map_nil]); first | done | (rw [show t256.length = t243.length from (Kd.R_reads' HO_11.out).1.symm] <;> rfl) | rfl | (simp only [List.length_drop, List.length_take]; rfl)) ?_; (with_reducible refine (laws_heldInt64S.calls kj30 _ _ t256 1 t257 _ ?side1 ?side2 A45.out).mono ?_); (case side1 => repeat (first | exact (Kd.R_reads' HO_11.out).2.2 | (with_reducible refine Kd.C_alloc ?_ _) | (with_reducible refine Kd.C_drewN ?_ _) | (with_reducible refine Kd.C_drew ?_))); (case side2 => rw [show t256.length = t243.length from (Kd.R_reads' HO_11.out).1.symm]; exact (Kd.R_reads' HO_11.out).2.1); rintro e w' ⟨rfl, ⟨nd, rfl⟩⟩; refine ⟨_, rfl, ?_⟩) | ((with_reducible refine gate_callee (f := 7) rfl ?_); refine goesL_ (some 89) rfl rfl Tryd.func7 (by kernel_rfl) rfl #[.slice A0 l0.length c0] rfl (by (try simp only [List.map_toArray, List.map_cons, List.map_nil]); first | done | rfl | (simp only [List.length_drop, List.length_take]; rfl)) ?_; (with_reducible refine (laws_toHabitS.calls kj30 _ _ l0 t258 _ ?side1 ?side2 A48.out).mono ?_); (case side1 => repeat (first | exact (Kd.C_below HR0.out (by repeat (first | (with_reducible first | exact HB.out | apply below_alloc | apply pw_below_drewN | apply below_drew1 | refine below_set ?_ GE977.out) | exact HB.out))) | (with_reducible refine Kd.C_alloc ?_ _) | (with_reducible refine Kd.C_drewN ?_ _) | (with_reducible refine Kd.C_drew ?_))); (case side2 => exact HC0.out); rintro e w53 ⟨v259, rfl, ho0, hb⟩; refine ⟨_, rfl, ?_⟩; have n0_ := Aside0.mk (Kd.R_below (by (with_reducible repeat (first | apply Kd.R_alloc | apply Kd.R_drewN | apply Kd.R_drew)); exact HO_8.out) hb); have n1_ := Aside0.mk (Kd.R_below (by (with_reducible repeat (first | apply Kd.R_alloc | apply Kd.R_drewN | apply Kd.R_drew)); exact HO_11.out) hb); have n2_ := Aside0.mk (Kd.R_lower ho0 (below_size (by repeat (first | (with_reducible first | exact HB.out | apply below_alloc | apply pw_below_drewN | apply below_drew1 | refine below_set ?_ GE977.out) | exact HB.out)))); have n3_ := Aside0.mk (blk_below (g := 1) (o := .cells #[.int .i64 a977_0] 3 (0, 0)) (by (with_reducible repeat (first | refine blk_drewN ?_ _ | refine blk_drew ?_ | refine blk_alloc ?_ _)); exact BK977.out) hb); have n4_ := Aside0.mk (below_step (by repeat (first | (with_reducible first | exact HB.out | apply below_alloc | apply pw_below_drewN | apply below_drew1 | refine below_set ?_ GE977.out) | exact HB.out)) hb); clear HO_8; clear HO_11; clear BK977; clear HB; have HO_8 := n0_; have HO_11 := n1_; have HO260 := n2_; have BK977 := n3_; have HB := n4_; clear n0_ n1_ n2_ n3_ n4_; (try clear hb); (try clear hb2); (try clear hk); (try clear hi); (try clear ho0); obtain ⟨Ao54, co54, eo54⟩ := Kd.R_slice HO260.out; subst eo54) | ((with_reducible refine gate_callee (f := 8) rfl ?_); refine goesL_ (some 92) rfl rfl Tryd.func8 (by kernel_rfl) rfl #[.slice Ao54 t258.length co54, .string a1, .string a2] rfl (by (try simp only [List.map_toArray, List.map_cons, List.map_nil]); first | done | rfl | (simp only [List.length_drop, List.length_take]; rfl)) ?_; (with_reducible refine (impl_AllBut.calls kj30 _ _ t258 a1 a2 a977_0 t261 t264 _ ?side1 ?side2 ?side3 A49.out).mono ?_); (case side1 => repeat (first | exact (Kd.R_reads' HO260.out).2.2 | (with_reducible refine Kd.C_alloc ?_ _) | (with_reducible refine Kd.C_drewN ?_ _) | (with_reducible refine Kd.C_drew ?_))); (case side2 => exact (Kd.R_reads' HO260.out).2.1); (case side3 => exact (by first | exact BK977.out | ((with_reducible repeat (first | refine blk_drewN ?_ _ | refine blk_drew ?_ | refine blk_alloc ?_ _)); exact BK977.out))); rintro e w55 ⟨v262, rfl, ho0, hb⟩; refine ⟨_, rfl, ?_⟩; have n0_ := Aside0.mk (Kd.R_elder' (by (with_reducible repeat (first | apply Kd.R_alloc | apply Kd.R_drewN | apply Kd.R_drew)); exact HO_8.out) (Kd.R_base ho0) hb); have n1_ := Aside0.mk (Kd.R_elder' (by (with_reducible repeat (first | apply Kd.R_alloc | apply Kd.R_drewN | apply Kd.R_drew)); exact HO_11.out) (Kd.R_base ho0) hb); have n2_ := Aside0.mk (Kd.R_below (by (with_reducible repeat (first | apply Kd.R_alloc | apply Kd.R_drewN | apply Kd.R_drew)); exact HO260.out) hb); have n3_ := Aside0.mk (Kd.R_lower (Kd.R_new' (Kd.R_new' ho0 (Kd.R_lt (by (with_reducible repeat (first | apply Kd.R_alloc | apply Kd.R_drewN | apply Kd.R_drew)); exact HO_8.out))) (Kd.R_lt (by (with_reducible repeat (first | apply Kd.R_alloc | apply Kd.R_drewN | apply Kd.R_drew)); exact HO_11.out))) (below_size (by repeat (first | (with_reducible first | exact HB.out | apply below_alloc | apply pw_below_drewN | apply below_drew1 | refine below_set ?_ GE977.out) | exact HB.out)))); have n4_ := Aside0.mk (blk_below (g := 1) (o := .cells #[.int .i64 a977_0] 3 (0, 0)) (by (with_reducible repeat (first | refine blk_drewN ?_ _ | refine blk_drew ?_ | refine blk_alloc ?_ _)); exact BK977.out) hb); have n5_ := Aside0.mk (below_step (by repeat (first | (with_reducible first | exact HB.out | apply below_alloc | apply pw_below_drewN | apply below_drew1 | refine below_set ?_ GE977.out) | exact HB.out)) hb); clear HO_8; clear HO_11; clear HO260; clear BK977; clear HB; have HO_8 := n0_; have HO_11 := n1_; have HO260 := n2_; have HO263 := n3_; have BK977 := n4_; have HB := n5_; clear n0_ n1_ n2_ n3_ n4_ n5_; (try clear hb); (try clear hb2); (try clear hk); (try clear hi); (try clear ho0)))
                          (try simp only [Act.put, List.setIfInBounds_toArray, List.set_cons_zero, List.set_cons_succ])
                          go_cut [103] (fun v103 wc => ∃ (kq : Nat) (x103_49 : Bool), v103 = .bool x103_49 ∧ Aside0 (laws_FnExactAllBut.j2 kq t256 t255 x103_49 = some r) ∧ Aside0 (kq ≤ kj30) ∧ Aside0 (Kd.R (Kd.int .i64) 2 wc w.heap.size (fun _ => True) (.slice Ao51 t243.length co51) t256) ∧ Aside0 (wc.heap[1]? = some (.cells #[.int .i64 a977_0] 3 (0, 0))) ∧ Aside0 (Below w.heap.size w wc))
                          case first =>
                            have H := HC50.out
                            clear HC50
                            replace H := Option.bind_eq_some_iff.mp H
                            obtain ⟨t265, A560, H⟩ := H
                            replace H : (if t265 = true then (laws_FnExactAllBut.j2 kj30 t256 t255 (t264 != t237)) else (laws_FnExactAllBut.j2 kj30 t256 t255 true)) = some r := H
                            have A56 := Aside0.mk A560
                            clear A560
                            by_cases c57 : t265 = true
                            · subst c57
                              have H1 : (laws_FnExactAllBut.j2 kj30 t256 t255 (t264 != t237)) = some r := by rw [if_pos rfl] at H; exact H
                              clear H
                              have H := H1
                              clear H1
                              have H' := Aside0.mk H
                              clear H
                              obtain ⟨Ao58, co58, eo58⟩ := Kd.R_slice HO263.out
                              subst eo58
                              obtain ⟨Ao59, co59, eo59⟩ := Kd.R_slice HO_8.out
                              subst eo59
                              go_wp2_with (first | ((with_reducible refine gate_callee (f := 9) rfl ?_); refine goesL_ (some 97) rfl rfl Tryd.func9 (by kernel_rfl) rfl #[.slice Ao58 t261.length co58, .slice Ao59 t236.length co59] rfl (by (try simp only [List.map_toArray, List.map_cons, List.map_nil]); first | done | rfl | (simp only [List.length_drop, List.length_take]; rfl)) ?_; (with_reducible refine (laws_eqInt64S.calls kj30 _ _ t261 _ _ t236 true _ ?side1 ?side2 ?side3 ?side4 A56.out).mono ?_); (case side1 => repeat (first | exact (Kd.R_reads' HO263.out).2.2 | (with_reducible refine Kd.C_alloc ?_ _) | (with_reducible refine Kd.C_drewN ?_ _) | (with_reducible refine Kd.C_drew ?_))); (case side2 => exact (Kd.R_reads' HO263.out).2.1); (case side3 => repeat (first | exact (Kd.R_reads' HO_8.out).2.2 | (with_reducible refine Kd.C_alloc ?_ _) | (with_reducible refine Kd.C_drewN ?_ _) | (with_reducible refine Kd.C_drew ?_))); (case side4 => exact (Kd.R_reads' HO_8.out).2.1); rintro e w' ⟨rfl, ⟨nd, rfl⟩⟩; refine ⟨_, rfl, ?_⟩))
                              go_meet
                              case rel => exact ⟨_, ((t264 != t237)), (by first | rfl | (simp; done) | (simp [*]; done)), H', ⟨by have := HJ12.out; have := HJ30.out; first | omega | exact Nat.le_refl _⟩, ⟨by (with_reducible repeat (first | apply Kd.R_alloc | apply Kd.R_drewN | apply Kd.R_drew)); exact Kd.R_mono HO_11.out (fun _ hk => trivial)⟩, ⟨by (with_reducible repeat (first | refine blk_drewN ?_ _ | refine blk_drew ?_ | refine blk_alloc ?_ _)); exact BK977.out⟩, ⟨by repeat (first | (with_reducible first | exact HB.out | apply below_alloc | apply pw_below_drewN | apply below_drew1 | refine below_set ?_ GE977.out) | exact HB.out)⟩⟩
                            · replace c57 := Bool.eq_false_iff.mpr c57
                              subst c57
                              have H1 : (laws_FnExactAllBut.j2 kj30 t256 t255 true) = some r := by rw [if_neg (show ¬ (false = true) by decide)] at H; exact H
                              clear H
                              have H := H1
                              clear H1
                              have H' := Aside0.mk H
                              clear H
                              obtain ⟨Ao60, co60, eo60⟩ := Kd.R_slice HO263.out
                              subst eo60
                              obtain ⟨Ao61, co61, eo61⟩ := Kd.R_slice HO_8.out
                              subst eo61
                              go_wp2_with (first | ((with_reducible refine gate_callee (f := 9) rfl ?_); refine goesL_ (some 97) rfl rfl Tryd.func9 (by kernel_rfl) rfl #[.slice Ao60 t261.length co60, .slice Ao61 t236.length co61] rfl (by (try simp only [List.map_toArray, List.map_cons, List.map_nil]); first | done | rfl | (simp only [List.length_drop, List.length_take]; rfl)) ?_; (with_reducible refine (laws_eqInt64S.calls kj30 _ _ t261 _ _ t236 false _ ?side1 ?side2 ?side3 ?side4 A56.out).mono ?_); (case side1 => repeat (first | exact (Kd.R_reads' HO263.out).2.2 | (with_reducible refine Kd.C_alloc ?_ _) | (with_reducible refine Kd.C_drewN ?_ _) | (with_reducible refine Kd.C_drew ?_))); (case side2 => exact (Kd.R_reads' HO263.out).2.1); (case side3 => repeat (first | exact (Kd.R_reads' HO_8.out).2.2 | (with_reducible refine Kd.C_alloc ?_ _) | (with_reducible refine Kd.C_drewN ?_ _) | (with_reducible refine Kd.C_drew ?_))); (case side4 => exact (Kd.R_reads' HO_8.out).2.1); rintro e w' ⟨rfl, ⟨nd, rfl⟩⟩; refine ⟨_, rfl, ?_⟩))
                              go_meet
                              case rel => exact ⟨_, (true), (by first | rfl | (simp; done) | (simp [*]; done)), H', ⟨by have := HJ12.out; have := HJ30.out; first | omega | exact Nat.le_refl _⟩, ⟨by (with_reducible repeat (first | apply Kd.R_alloc | apply Kd.R_drewN | apply Kd.R_drew)); exact Kd.R_mono HO_11.out (fun _ hk => trivial)⟩, ⟨by (with_reducible repeat (first | refine blk_drewN ?_ _ | refine blk_drew ?_ | refine blk_alloc ?_ _)); exact BK977.out⟩, ⟨by repeat (first | (with_reducible first | exact HB.out | apply below_alloc | apply pw_below_drewN | apply below_drew1 | refine below_set ?_ GE977.out) | exact HB.out)⟩⟩
                          case rest =>
                            clear HC50
                            try clear c1
                            try clear c2
                            try clear p2
                            try clear c3
                            try clear c4
                            try clear c5
                            try clear c5b0
                            try clear c5b1
                            try clear c6
                            try clear c6b0
                            try clear c6b1
                            try clear c7
                            try clear c8
                            try clear c8b0
                            try clear c9
                            try clear hx9
                            try clear c10
                            try clear c11
                            try clear c12
                            try clear c13
                            try clear c21
                            try clear c26
                            try clear c29
                            try clear c36
                            try clear c36b0
                            try clear c38
                            try clear c43
                            try clear c46
                            try clear c46b0
                            try clear c47
                            try clear c47b0
                            try clear c47b1
                            try clear c57
                            try clear p2
                            obtain ⟨kq, x103_49, rfl, HA, HJ49, HO_11, BK977, HB⟩ := hcut
                            have hl11_49 := (Kd.R_reads' HO_11.out).1
                            rw [hl11_49] at HO_11
                            (try simp only [hl11_49])
                            (try simp only [hl11_49] at BK977)
                            cases kq with
                            | zero => exact absurd HA.out (by simp [laws_FnExactAllBut.j2])
                            | succ kj49 =>
                              have H := HA.out
                              clear HA
                              simp only [laws_FnExactAllBut.j2] at H
                              by_cases c62 : x103_49 = true
                              · subst c62
                                have H1 : (some false) = some r := by rw [if_pos rfl] at H; exact H
                                clear H
                                have H := H1
                                clear H1
                                exact absurd ((Option.some.inj H).trans HT.out) (by decide)
                              · replace c62 := Bool.eq_false_iff.mpr c62
                                subst c62
                                have H1 : ((laws_heldInt64S.f kj49 t256 1).bind fun t266 => (if t266 < 0 then (some false) else (if t266 = t255 then (some true) else (some false)))) = some r := by rw [if_neg (show ¬ (false = true) by decide)] at H; exact H
                                clear H
                                have H := H1
                                clear H1
                                replace H := Option.bind_eq_some_iff.mp H
                                obtain ⟨t266, A630, H⟩ := H
                                replace H : (if t266 < 0 then (some false) else (if t266 = t255 then (some true) else (some false))) = some r := H
                                have A63 := Aside0.mk A630
                                clear A630
                                by_cases c64 : t266 < 0
                                · rw [if_pos c64] at H
                                  have c64b0 : decide (t266 < 0) = true := decide_eq_true c64
                                  clear c64
                                  exact absurd ((Option.some.inj H).trans HT.out) (by decide)
                                · rw [if_neg c64] at H
                                  have c64b0 : decide (t266 < 0) = false := decide_eq_false c64
                                  clear c64
                                  by_cases c65 : t266 = t255
                                  · rw [if_pos c65] at H
                                    have c65b0 : (t266 == t255) = true := beq_iff_eq.mpr c65
                                    have c65b1 : (t266 != t255) = false := bne_eq_false_iff_eq.mpr c65
                                    clear c65
                                    obtain rfl := Option.some.inj H
                                    go_wp2_with (first | ((with_reducible refine gate_callee (f := 13) rfl ?_); refine goesL_ (some 106) rfl rfl Tryd.func13 (by kernel_rfl) rfl #[.slice Ao51 t256.length co51, .int .i64 1] rfl (by (try simp only [List.map_toArray, List.map_cons, List.map_nil]); first | done | rfl | (simp only [List.length_drop, List.length_take]; rfl)) ?_; (with_reducible refine (laws_heldInt64S.calls kj49 _ _ t256 1 t266 _ ?side1 ?side2 A63.out).mono ?_); (case side1 => repeat (first | exact (Kd.R_reads' HO_11.out).2.2 | (with_reducible refine Kd.C_alloc ?_ _) | (with_reducible refine Kd.C_drewN ?_ _) | (with_reducible refine Kd.C_drew ?_))); (case side2 => exact (Kd.R_reads' HO_11.out).2.1); rintro e w' ⟨rfl, ⟨nd, rfl⟩⟩; refine ⟨_, rfl, ?_⟩))
                                    go_ret
                                    exact ⟨by first | rfl | (simp [errW_none, errW_some] <;> rfl) | (simp [*, errW_none, errW_some] <;> rfl), by repeat (first | (with_reducible first | exact HB.out | apply below_alloc | apply pw_below_drewN | apply below_drew1 | refine below_set ?_ GE977.out) | exact HB.out)⟩
                                  · rw [if_neg c65] at H
                                    have c65b0 : (t266 == t255) = false := beq_eq_false_iff_ne.mpr c65
                                    have c65b1 : (t266 != t255) = true := bne_iff_ne.mpr c65
                                    exact absurd ((Option.some.inj H).trans HT.out) (by decide)
                        · rw [if_neg c47] at H
                          have c47b0 : (t257 == t255) = false := beq_eq_false_iff_ne.mpr c47
                          have c47b1 : (t257 != t255) = true := bne_iff_ne.mpr c47
                          exact absurd ((Option.some.inj H).trans HT.out) (by decide)
              · replace c29 := Bool.eq_false_iff.mpr c29
                subst c29
                have H1 : (some false) = some r := by rw [if_neg (show ¬ (false = true) by decide)] at H; exact H
                clear H
                have H := H1
                clear H1
                exact absurd ((Option.some.inj H).trans HT.out) (by decide)

/-- THE ONE PURE STATEMENT of laws_FnExactAllBut: mine. -/
def laws_FnExactAllBut.Pure : Prop := ∀ (l0 : List (S53)) (a1 : ByteArray) (a2 : ByteArray) (a977_0 : Int), (l0.length ≤ 9223372036854775807 ∧ ∀ x_ ∈ l0, (((Lit.int .i8 x_.f0).wf = true) ∧ ((Lit.int .u8 x_.f1).wf = true) ∧ ((Lit.int .u8 x_.f2).wf = true))) → (a1.size ≤ 9223372036854775807) → (a2.size ≤ 9223372036854775807) → ∃ k, laws_FnExactAllBut.f k l0 a1 a2 a977_0 = some true

end Go.Proofs.YtelgmojnndbgmaaDoor.P
