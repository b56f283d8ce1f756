-- Printed by wip/print (my turned copy of the kit's print) out of the translation; Lean checks it.
import Derived.Test.YtobickehjnogjaaGreatDoorP0
import Derived.Test.YtobickehjnogjaaGreatDoorP3
namespace Go.Proofs.YtobickehjnogjaaGreatDoor.P
open Go.RowKit Go.Proofs.YtobickehjnogjaaGreatDoorW.PrintWords Go.Proofs.YtobickehjnogjaaGreatDoorW.PrintLast Go.Proofs.YtobickehjnogjaaGreatDoorW.PrintMore
attribute [local go_sem] max2_int min2_int max_two min_two max_three min_three max_four min_four   -- for this text's walks alone
set_option linter.unusedVariables false
set_option linter.unusedSimpArgs false

/-! ### slices_IndexFunc_Sstring_string_at_chainCode_2: function 75 -/
def slices_IndexFunc_Sstring_string_at_chainCode_2.l0 : Nat → List ByteArray → Int → Int → Option (Int)
  | 0, _, _, _ => none
  | k + 1, x0, x7, x8 => if x8 < x7 then (if 0 ≤ x8 then (if x8 < (x0.length : Int) then ((impl_chainCode_2.f k (rdOf ByteArray.empty x0 x8)).bind fun t177 => (if t177 = true then (some x8) else (slices_IndexFunc_Sstring_string_at_chainCode_2.l0 k x0 x7 (wrap64 (x8 + 1))))) else (none)) else (none)) else (some (-1))
def slices_IndexFunc_Sstring_string_at_chainCode_2.f (k : Nat) (l0 : List ByteArray)  : Option (Int) := slices_IndexFunc_Sstring_string_at_chainCode_2.l0 k l0 (l0.length : Int) 0
set_option maxHeartbeats 8000000 in
set_option maxRecDepth 100000 in
theorem slices_IndexFunc_Sstring_string_at_chainCode_2.calls (k : Nat) (A0 : Option Addr) (c0 : Nat) (l0 : List ByteArray)  (r : Int) (w : World) (hr0 : Kd.C Kd.string w A0 l0.length l0) (hc0 : l0.length ≤ c0) (h : slices_IndexFunc_Sstring_string_at_chainCode_2.f k l0 = some r) :
    Calls Tryz.prog 75 #[.slice A0 l0.length c0, .func (.func 57) #[] #[]] w fun e w' => e = .returned (.int .i64 r) ∧ Drawn0 w w' := by
 have HR0 := ak hr0
 have HC0 := ak hc0
 clear hr0 hc0
 have H := h
 unfold slices_IndexFunc_Sstring_string_at_chainCode_2.f at H
 clear h
 have H' := ak H
 clear H
 go_enter Tryz.func75, Tryz.ntmps75
 go_wp2
 go_loopg [8] k (fun kq v8 w' => ∃ (x8_1 : Int), v8 = .int .i64 x8_1 ∧ Aside0 (slices_IndexFunc_Sstring_string_at_chainCode_2.l0 kq l0 (l0.length : Int) x8_1 = some r) ∧ Aside0 (kq ≤ k) ∧ Drawn0 w w')
 case atStart => exact ⟨(0), (by first | rfl | (simp; done) | (simp [*]; done)), H', ⟨Nat.le_refl _⟩, by repeat (first | exact Drawn0.refl _ | apply Drawn0.step)⟩
 case round => (
 clear H'
 obtain ⟨x8_1, rfl, HA, HK1, ⟨m1, rfl⟩⟩ := hrel
 cases gk with
 | zero => exact absurd HA.out (by simp [slices_IndexFunc_Sstring_string_at_chainCode_2.l0])
 | succ k1 => (
 have H := HA.out
 clear HA
 simp only [slices_IndexFunc_Sstring_string_at_chainCode_2.l0] at H
 by_cases c3 : x8_1 < (l0.length : Int)
 {
 rw [if_pos c3] at H
 have c3b0 : decide (x8_1 < (l0.length : Int)) = true := decide_eq_true c3
 clear c3
 by_cases c4 : 0 ≤ x8_1
 {
 rw [if_pos c4] at H
 have c4b0 : decide (0 ≤ x8_1) = true := decide_eq_true c4
 clear c4
 by_cases c5 : x8_1 < (l0.length : Int)
 {
 rw [if_pos c5] at H
 have c5b0 : decide (x8_1 < (l0.length : Int)) = true := decide_eq_true c5
 clear c5
 replace H := Option.bind_eq_some_iff.mp H
 obtain ⟨t177, A60, H⟩ := H
 have A6 := ak A60
 clear A60
 by_cases c7 : t177 = true
 {
 subst c7
 rw [if_pos rfl] at H
 obtain rfl := Option.some.inj H
 have p176 : 0 ≤ (x8_1 : Int) := of_decide_eq_true (by first | (with_reducible assumption) | assumption)
 have q176 : x8_1 < (l0.length : Int) := of_decide_eq_true (by first | (with_reducible assumption) | assumption)
 obtain ⟨ad176, e176, hx176_0⟩ := Kd.at_string HR0.out x8_1 p176 q176
 cases e176
 replace p176 := eq_true p176
 replace q176 := eq_true q176
 go_wp2_with (first | ((with_reducible refine gate_tmpcall (t := 11) rfl ?_); refine goesF_ (some 16) rfl rfl Tryz.func57 (by kernel_rfl) rfl #[] #[.string (rdOf ByteArray.empty l0 x8_1)] rfl (by first | rfl | (go_simp; done) | (go_simp; rfl)) (by (try simp only [List.map_toArray, List.map_cons, List.map_nil]); first | done | rfl | (simp only [List.length_drop, List.length_take]; rfl) | (go_simp; done)) ?_; (with_reducible refine (impl_chainCode_2.calls k1 (rdOf ByteArray.empty l0 x8_1) true _ A6.out).mono ?_); rintro e w' ⟨rfl, ⟨nd, rfl⟩⟩; refine ⟨_, rfl, ?_⟩))
 go_ret
 exact ⟨by first | rfl | (simp; done) | (simp [*]; done), by repeat (first | exact Drawn0.refl _ | apply Drawn0.step)⟩
 }
 {
 replace c7 := Bool.eq_false_iff.mpr c7
 subst c7
 rw [if_neg (show ¬ (false = true) by decide)] at H
 have H' := ak H
 clear H
 have p176 : 0 ≤ (x8_1 : Int) := of_decide_eq_true (by first | (with_reducible assumption) | assumption)
 have q176 : x8_1 < (l0.length : Int) := of_decide_eq_true (by first | (with_reducible assumption) | assumption)
 obtain ⟨ad176, e176, hx176_0⟩ := Kd.at_string HR0.out x8_1 p176 q176
 cases e176
 replace p176 := eq_true p176
 replace q176 := eq_true q176
 go_wp2_with (first | ((with_reducible refine gate_tmpcall (t := 11) rfl ?_); refine goesF_ (some 16) rfl rfl Tryz.func57 (by kernel_rfl) rfl #[] #[.string (rdOf ByteArray.empty l0 x8_1)] rfl (by first | rfl | (go_simp; done) | (go_simp; rfl)) (by (try simp only [List.map_toArray, List.map_cons, List.map_nil]); first | done | rfl | (simp only [List.length_drop, List.length_take]; rfl) | (go_simp; done)) ?_; (with_reducible refine (impl_chainCode_2.calls k1 (rdOf ByteArray.empty l0 x8_1) false _ A6.out).mono ?_); rintro e w' ⟨rfl, ⟨nd, rfl⟩⟩; refine ⟨_, rfl, ?_⟩))
 go_roundg k1
 case measure => have := HK1.out; omega
 case rel => exact ⟨(wrap64 (x8_1 + 1)), (by first | rfl | (simp; done) | (simp [*]; done)), H', ⟨by have := HK1.out; omega⟩, by repeat (first | exact Drawn0.refl _ | apply Drawn0.step)⟩
 }
 }
 · rw [if_neg c5] at H; exact absurd H (by simp)
 }
 · rw [if_neg c4] at H; exact absurd H (by simp)
 }
 {
 rw [if_neg c3] at H
 have c3b0 : decide (x8_1 < (l0.length : Int)) = false := decide_eq_false c3
 clear c3
 obtain rfl := Option.some.inj H
 go_wp2
 go_ret
 exact ⟨by first | rfl | (simp; done) | (simp [*]; done), by repeat (first | exact Drawn0.refl _ | apply Drawn0.step)⟩
 }
 )
 )
/-! ### slices_ContainsFunc_Sstring_string_at_chainCode_2: function 56 -/
def slices_ContainsFunc_Sstring_string_at_chainCode_2.f (k : Nat) (l0 : List ByteArray)  : Option (Bool) := (slices_IndexFunc_Sstring_string_at_chainCode_2.f k l0).bind fun t178 => (some (decide (t178 ≥ 0)))
set_option maxHeartbeats 8000000 in
set_option maxRecDepth 100000 in
theorem slices_ContainsFunc_Sstring_string_at_chainCode_2.calls (k : Nat) (A0 : Option Addr) (c0 : Nat) (l0 : List ByteArray)  (r : Bool) (w : World) (hr0 : Kd.C Kd.string w A0 l0.length l0) (hc0 : l0.length ≤ c0) (h : slices_ContainsFunc_Sstring_string_at_chainCode_2.f k l0 = some r) :
    Calls Tryz.prog 56 #[.slice A0 l0.length c0, .func (.func 57) #[] #[]] w fun e w' => e = .returned (.bool r) ∧ Drawn0 w w' := by
 have HR0 := ak hr0
 have HC0 := ak hc0
 clear hr0 hc0
 have H := h
 unfold slices_ContainsFunc_Sstring_string_at_chainCode_2.f at H
 clear h
 replace H := Option.bind_eq_some_iff.mp H
 obtain ⟨t178, A30, H⟩ := H
 have A3 := ak A30
 clear A30
 obtain rfl := Option.some.inj H
 go_enter Tryz.func56, Tryz.ntmps56
 go_wp2_with (first | ((with_reducible refine gate_callee (f := 75) rfl ?_); refine goesL_ (some 7) rfl rfl Tryz.func75 (by kernel_rfl) rfl #[.slice A0 l0.length c0, .func (.func 57) #[] #[]] rfl gl_ ?_; (with_reducible refine (slices_IndexFunc_Sstring_string_at_chainCode_2.calls k _ _ l0  t178 _ ?side1 ?side2 A3.out).mono ?_); (case side1 => exact sD HR0); (case side2 => exact HC0.out); rintro e w' ⟨rfl, ⟨nd, rfl⟩⟩; refine ⟨_, rfl, ?_⟩))
 go_ret
 exact ⟨by first | rfl | (simp; done) | (simp [*]; done), by repeat (first | exact Drawn0.refl _ | apply Drawn0.step)⟩
/-! ### impl_unless: function 58 -/
def impl_unless.f (a0 : Bool) (a1 : Int) : Option (Int) := if a0 = true then (some 0) else (some a1)
set_option maxHeartbeats 8000000 in
set_option maxRecDepth 100000 in
theorem impl_unless.calls (a0 : Bool) (a1 : Int) (r : Int) (w : World) (h : impl_unless.f a0 a1 = some r) :
    Calls Tryz.prog 58 #[.bool a0, .int .i64 a1] w fun e w' => e = .returned (.int .i64 r) ∧ Drawn0 w w' := by
 have H := h
 unfold impl_unless.f at H
 clear h
 by_cases c3 : a0 = true
 {
 subst c3
 rw [if_pos rfl] at H
 obtain rfl := Option.some.inj H
 go_enter Tryz.func58, Tryz.ntmps58
 go_wp2
 go_ret
 exact ⟨by first | rfl | (simp; done) | (simp [*]; done), by repeat (first | exact Drawn0.refl _ | apply Drawn0.step)⟩
 }
 {
 replace c3 := Bool.eq_false_iff.mpr c3
 subst c3
 rw [if_neg (show ¬ (false = true) by decide)] at H
 obtain rfl := Option.some.inj H
 go_enter Tryz.func58, Tryz.ntmps58
 go_wp2
 go_ret
 exact ⟨by first | rfl | (simp; done) | (simp [*]; done), by repeat (first | exact Drawn0.refl _ | apply Drawn0.step)⟩
 }
/-! ### impl_chainCode: function 32 -/
def impl_chainCode.f (k : Nat) (l0 : List (S40)) (l1 : List ByteArray) : Option (Int) := (slices_ContainsFunc_Habit_at_chainCode_1.f k l0).bind fun t179 => (if t179 = true then (some 1) else ((slices_ContainsFunc_Sstring_string_at_chainCode_2.f k l1).bind fun t180 => (if t180 = true then (some 1) else ((impl_unless.f (decide ((l0.length : Int) ≤ 30)) 3).bind fun t181 => (some t181)))))
set_option maxHeartbeats 8000000 in
set_option maxRecDepth 100000 in
theorem impl_chainCode.calls (k : Nat) (A0 : Option Addr) (c0 : Nat) (l0 : List (S40)) (A1 : Option Addr) (c1 : Nat) (l1 : List ByteArray) (r : Int) (w : World) (hr0 : Kd.C k40 w A0 l0.length l0) (hc0 : l0.length ≤ c0) (hr1 : Kd.C Kd.string w A1 l1.length l1) (hc1 : l1.length ≤ c1) (h : impl_chainCode.f k l0 l1 = some r) :
    Calls Tryz.prog 32 #[.slice A0 l0.length c0, .slice A1 l1.length c1] w fun e w' => e = .returned (.int .i64 r) ∧ Below w.heap.size w w' := by
 have HR0 := ak hr0
 have HC0 := ak hc0
 clear hr0 hc0
 have HR1 := ak hr1
 have HC1 := ak hc1
 clear hr1 hc1
 have HB := ak (Below.refl w.heap.size w)
 have H := h
 unfold impl_chainCode.f at H
 clear h
 replace H := Option.bind_eq_some_iff.mp H
 obtain ⟨t179, A30, H⟩ := H
 have A3 := ak A30
 clear A30
 by_cases c4 : t179 = true
 {
 subst c4
 rw [if_pos rfl] at H
 obtain rfl := Option.some.inj H
 go_enter Tryz.func32, Tryz.ntmps32
 go_wp2_with (first | ((with_reducible refine gate_callee (f := 54) rfl ?_); refine goesL_ (some 6) rfl rfl Tryz.func54 (by kernel_rfl) rfl #[.slice A0 l0.length c0, .func (.func 55) #[] #[]] rfl gl_ ?_; (with_reducible refine (slices_ContainsFunc_Habit_at_chainCode_1.calls k _ _ l0  true _ ?side1 ?side2 A3.out).mono ?_); (case side1 => exact sD HR0); (case side2 => exact HC0.out); rintro e w5 ⟨rfl, hb⟩; refine ⟨_, rfl, ?_⟩; replace HB := kB HB hb; (try clear hb)))
 go_ret
 exact ⟨by first | rfl | (simp [errW_none, errW_some] <;> rfl) | (simp [*, errW_none, errW_some] <;> rfl), zB HB.out⟩
 }
 {
 replace c4 := Bool.eq_false_iff.mpr c4
 subst c4
 rw [if_neg (show ¬ (false = true) by decide)] at H
 replace H := Option.bind_eq_some_iff.mp H
 obtain ⟨t180, A60, H⟩ := H
 have A6 := ak A60
 clear A60
 by_cases c7 : t180 = true
 {
 subst c7
 rw [if_pos rfl] at H
 obtain rfl := Option.some.inj H
 go_enter Tryz.func32, Tryz.ntmps32
 go_wp2_with (first | ((with_reducible refine gate_callee (f := 54) rfl ?_); refine goesL_ (some 6) rfl rfl Tryz.func54 (by kernel_rfl) rfl #[.slice A0 l0.length c0, .func (.func 55) #[] #[]] rfl gl_ ?_; (with_reducible refine (slices_ContainsFunc_Habit_at_chainCode_1.calls k _ _ l0  false _ ?side1 ?side2 A3.out).mono ?_); (case side1 => exact sD HR0); (case side2 => exact HC0.out); rintro e w8 ⟨rfl, hb⟩; refine ⟨_, rfl, ?_⟩; replace HB := kB HB hb; (try clear hb)) | (go_at_call 56; (with_reducible refine (slices_ContainsFunc_Sstring_string_at_chainCode_2.calls k _ _ l1  true _ ?side1 ?side2 A6.out).mono ?_); (case side1 => exact sQ (Kd.C_below HR1.out HB.out)); (case side2 => exact HC1.out); rintro e w' ⟨rfl, ⟨nd, rfl⟩⟩))
 go_ret
 exact ⟨by first | rfl | (simp [errW_none, errW_some] <;> rfl) | (simp [*, errW_none, errW_some] <;> rfl), zB HB.out⟩
 }
 {
 replace c7 := Bool.eq_false_iff.mpr c7
 subst c7
 rw [if_neg (show ¬ (false = true) by decide)] at H
 replace H := Option.bind_eq_some_iff.mp H
 obtain ⟨t181, A90, H⟩ := H
 have A9 := ak A90
 clear A90
 obtain rfl := Option.some.inj H
 go_enter Tryz.func32, Tryz.ntmps32
 go_wp2_with (first | ((with_reducible refine gate_callee (f := 54) rfl ?_); refine goesL_ (some 6) rfl rfl Tryz.func54 (by kernel_rfl) rfl #[.slice A0 l0.length c0, .func (.func 55) #[] #[]] rfl gl_ ?_; (with_reducible refine (slices_ContainsFunc_Habit_at_chainCode_1.calls k _ _ l0  false _ ?side1 ?side2 A3.out).mono ?_); (case side1 => exact sD HR0); (case side2 => exact HC0.out); rintro e w10 ⟨rfl, hb⟩; refine ⟨_, rfl, ?_⟩; replace HB := kB HB hb; (try clear hb)) | (go_at_call 56; (with_reducible refine (slices_ContainsFunc_Sstring_string_at_chainCode_2.calls k _ _ l1  false _ ?side1 ?side2 A6.out).mono ?_); (case side1 => exact sQ (Kd.C_below HR1.out HB.out)); (case side2 => exact HC1.out); rintro e w' ⟨rfl, ⟨nd, rfl⟩⟩) | ((with_reducible refine gate_callee (f := 58) rfl ?_); refine goesL_ (some 14) rfl rfl Tryz.func58 (by kernel_rfl) rfl #[.bool (decide ((l0.length : Int) ≤ 30)), .int .i64 3] rfl gl_ ?_; (with_reducible refine (impl_unless.calls (decide ((l0.length : Int) ≤ 30)) 3 t181 _ A9.out).mono ?_); rintro e w' ⟨rfl, ⟨nd, rfl⟩⟩; refine ⟨_, rfl, ?_⟩))
 go_ret
 exact ⟨by first | rfl | (simp [errW_none, errW_some] <;> rfl) | (simp [*, errW_none, errW_some] <;> rfl), zB HB.out⟩
 }
 }
/-! ### strings_ReplaceAll: function 63 -/
def strings_ReplaceAll.f (a0 a1 a2 : ByteArray) (a977_0 : Int) : Option ByteArray := if a0.size ≤ 1048576 then (if a1.size = 1 then (if a2.size ≤ 1 then some ⟨(Go.Lib.replaceAll a0.data.toList a1.data.toList a2.data.toList).toArray⟩ else none) else none) else none
theorem strings_ReplaceAll.calls (a0 : ByteArray) (a1 : ByteArray) (a2 : ByteArray) (a977_0 : Int) (r : ByteArray) (w : World) (hx977 : w.heap[0]? = some (.cells #[.int .i64 a977_0] 3 (0, 0))) (h : strings_ReplaceAll.f a0 a1 a2 a977_0 = some r) :
    Calls Tryz.prog 63 #[.string a0, .string a1, .string a2] w fun e w' => e = .returned (.string r) ∧ Below w.heap.size w w' := by
 unfold strings_ReplaceAll.f at h
 by_cases c : a0.size ≤ 1048576
 {
 rw [if_pos c] at h
 by_cases c1 : a1.size = 1
 {
 rw [if_pos c1] at h
 by_cases c2 : a2.size ≤ 1
 {
 rw [if_pos c2] at h
 obtain rfl := Option.some.inj h
 have hm : w.cell? ⟨0, 0, none⟩ = some (.int .i64 a977_0) := by simp [World.cell?, hx977]
 have hc := Go.Lib.countB_mul_le a1 (by omega) a0.size a0 (Nat.le_refl _)
 rw [c1] at hc
 have hl : Go.Lib.countB a0 a1 * a2.size ≤ Go.Lib.countB a0 a1 * 1 := Nat.mul_le_mul_left _ c2
 exact Tryz.strings_ReplaceAll a0 a1 a2 a977_0 w (by omega) hm (by omega) (by omega)
 }
 · rw [if_neg c2] at h; exact absurd h (by simp)
 }
 · rw [if_neg c1] at h; exact absurd h (by simp)
 }
 · rw [if_neg c] at h; exact absurd h (by simp)
/-! ### strings_IndexByte: function 64 -/
def strings_IndexByte.f (a0 : ByteArray) (a1 : Int) : Option Int := some (Go.Lib.indexByte a0.data.toList a1.toNat.toUInt8)
theorem strings_IndexByte.calls (a0 : ByteArray) (a1 : Int) (r : Int) (w : World) (h : strings_IndexByte.f a0 a1 = some r) :
    Calls Tryz.prog 64 #[.string a0, .int .u8 a1] w fun e w' => e = .returned (.int .i64 r) ∧ ∃ nd, w' = w.drewN nd := by
 obtain rfl := Option.some.inj h
 exact (Tryz.strings_IndexByte a0 a1 w).mono fun e w' ⟨h1, h2⟩ => ⟨h1, 0, by rw [h2]; rfl⟩
/-! ### impl_turned: function 65 -/
def impl_turned.f (a0 : ByteArray) : Option ByteArray := if a0.size ≤ 4611686018427387900 then some (strOfNums (bytesOf a0).reverse) else none
theorem impl_turned.calls (a0 : ByteArray) (r : ByteArray) (w : World) (h : impl_turned.f a0 = some r) :
    Calls Tryz.prog 65 #[.string a0] w fun e w' => e = .returned (.string r) ∧ Below w.heap.size w w' := by
 unfold impl_turned.f at h
 by_cases c : a0.size ≤ 4611686018427387900
 · rw [if_pos c] at h; obtain rfl := Option.some.inj h; exact Go.Proofs.YtobickehjnogjaaGreatDoor.H.turned_calls a0 w (by omega)
 · rw [if_neg c] at h; exact absurd h (by simp)
/-! ### impl_Habit_hear: function 44 -/
def impl_Habit_hear.f (a0_0 : Int) (a0_1 : Int) (a0_2 : Int) (a1 : ByteArray) (a977_0 : Int) : Option (ByteArray) := if a0_0 = 1 then ((strings_ReplaceAll.f a1 (strOfNums (([a0_1] : List Int))) (strOfNums (([a0_2] : List Int))) a977_0).bind fun t189 => (some t189)) else (if a0_0 = 2 then ((strings_IndexByte.f a1 a0_1).bind fun t190 => (if t190 ≥ 0 then (if (a1.size : Int) > 1 then (if 0 ≤ t190 then (if t190 ≤ (a1.size : Int) then (if 0 ≤ (wrap64 (t190 + 1)) then (if (wrap64 (t190 + 1)) ≤ (a1.size : Int) then (if (a1.extract 0 (t190 : Int).toNat).size + (a1.extract ((wrap64 (t190 + 1)) : Int).toNat a1.size).size ≤ 9223372036854775807 then (some ((a1.extract 0 (t190 : Int).toNat) ++ (a1.extract ((wrap64 (t190 + 1)) : Int).toNat a1.size))) else (none)) else (none)) else (none)) else (none)) else (none)) else (some a1)) else (some a1))) else (if a0_0 = 3 then (if (a1.size : Int) < 12 then (if 0 ≤ (wrap64 ((a1.size : Int) - 1)) then (if (wrap64 ((a1.size : Int) - 1)) ≤ (a1.size : Int) then (if a1.size + (a1.extract ((wrap64 ((a1.size : Int) - 1)) : Int).toNat a1.size).size ≤ 9223372036854775807 then (some (a1 ++ (a1.extract ((wrap64 ((a1.size : Int) - 1)) : Int).toNat a1.size))) else (none)) else (none)) else (none)) else (some a1)) else (if a0_0 = 4 then (if 0 < (a1.size : Int) then (if (bt a1 0) = a0_1 then ((impl_turned.f a1).bind fun t191 => (some t191)) else (some a1)) else (none)) else (some a1))))
set_option maxHeartbeats 8000000 in
set_option maxRecDepth 100000 in
theorem impl_Habit_hear.calls (a0_0 : Int) (a0_1 : Int) (a0_2 : Int) (a1 : ByteArray) (a977_0 : Int) (r : ByteArray) (w : World) (hx977 : w.heap[0]? = some (.cells #[.int .i64 a977_0] 3 (0, 0))) (h : impl_Habit_hear.f a0_0 a0_1 a0_2 a1 a977_0 = some r) :
    Calls Tryz.prog 44 #[.agg #[.int .i8 a0_0, .int .u8 a0_1, .int .u8 a0_2], .string a1] w fun e w' => e = .returned (.string r) ∧ Below w.heap.size w w' := by
 have hu40 := Tryz.underlying40
 have BK977 := ak hx977
 clear hx977
 have HB := ak (Below.refl w.heap.size w)
 have H := h
 unfold impl_Habit_hear.f at H
 clear h
 by_cases c4 : a0_0 = 1
 {
 rw [if_pos c4] at H
 have c4b0 : (a0_0 == 1) = true := beq_iff_eq.mpr c4
 have c4b1 : (a0_0 != 1) = false := bne_eq_false_iff_eq.mpr c4
 clear c4
 obtain ⟨y183, hy183⟩ : ∃ y_ : List Int, y_ = (([a0_1] : List Int)) := ⟨_, rfl⟩
 replace H : ((strings_ReplaceAll.f a1 (strOfNums y183) (strOfNums (([a0_2] : List Int))) a977_0).bind fun t189 => (some t189)) = some r := by first | (rw [hy183]; with_reducible exact H) | (have H2_ := (Option.bind_some _ _).symm.trans H; rw [hy183]; with_reducible exact H2_) | (have H2_ := (Option.bind_some _ _).symm.trans H; with_reducible exact H2_) | with_reducible exact H | (rw [hy183]; exact H) | exact H
 have Ny183 := ak hy183
 clear hy183
 obtain ⟨y186, hy186⟩ : ∃ y_ : List Int, y_ = (([a0_2] : List Int)) := ⟨_, rfl⟩
 replace H : ((strings_ReplaceAll.f a1 (strOfNums y183) (strOfNums y186) a977_0).bind fun t189 => (some t189)) = some r := by first | (rw [hy186]; with_reducible exact H) | (have H2_ := (Option.bind_some _ _).symm.trans H; rw [hy186]; with_reducible exact H2_) | (have H2_ := (Option.bind_some _ _).symm.trans H; with_reducible exact H2_) | with_reducible exact H | (rw [hy186]; exact H) | exact H
 have Ny186 := ak hy186
 clear hy186
 replace H := Option.bind_eq_some_iff.mp H
 obtain ⟨t189, A50, H⟩ := H
 have A5 := ak A50
 clear A50
 obtain rfl := Option.some.inj H
 go_enter Tryz.func44, Tryz.ntmps44
 go_wp2_with (first | ((with_reducible refine gate_dst (N := 2) rfl ?_); (try (refine gate_guard (by rfl) ?_; dsimp only)); refine box_event ?hg (N := 2) ?hd (cs := #[.int .i8 a0_0, .int .u8 a0_1, .int .u8 a0_2]) (t := 40) ?hr ?_; (case hd => rfl); (case hg => rfl); (case hr => first | (go_simp; done) | (go_simp; rfl)); intro gb182 hg w6 hbox hb; have BK182 := ak (hbox); have GW182 := gS HB hg; have GE182 := gS HB hg; have NB977_182 := nL BK977 hg; have NB182_977 := nG BK977 hg; replace BK977 := kK BK977 hb; replace HB := kB HB hb; clear hb hbox hg; have hnb7 := NB182_977.out; have hnc7 := NB977_182.out; obtain ⟨hcz8_0, hcz8_1, hcz8_2, hfz8_0, hfz8_1, hfz8_2⟩ := cz3 w6 BK182) | ((with_reducible refine gate_dst (N := 13) rfl ?_); (try (refine gate_guard (by rfl) ?_; dsimp only)); refine Kd.R_lit (Kd.int .u8) _ 5 ?hg (N := 13) ?hd (xs := ([a0_1] : List Int)) (inner := [.int .u8 a0_1]) (ok := fun _ => True) (okp := fun _ => True) ?hr ?hp (fun _ hk => hk) trivial (Below.refl _ _) (Nat.le_refl _) (by simp) ?_; (case hd => rfl); (case hg => rfl); (case hr => first | (go_simp; done) | (go_simp; rfl)); (case hp => exact (Reps.one (show Kd.M (Kd.int .u8) _ _ _ a0_1 [.int .u8 a0_1] from rfl) (Reps.none _ _))); intro v184 w9 ho10 hb hg_ hnew_; clear hg_ hnew_; (first | rw [← Ny183.out] at ho10 | (simp only [Int.reduceToNat] at ho10; rw [← Ny183.out] at ho10)); have HO185 := ak (Kd.R_lower ho10 (below_size (zBG HB.out GE182.out))); replace BK977 := kK BK977 hb; replace BK182 := kK BK182 hb; replace HB := kB1 HB GE182 hb; clear hb ho10; have hcv11 := own_string (P := Tryz.prog) Tryz.underlying22 Tryz.underlying5 Tryz.underlying9 (Kd.own_of_R HO185.out); obtain ⟨hcz12_0, hcz12_1, hcz12_2, hfz12_0, hfz12_1, hfz12_2⟩ := cz3 w9 BK182) | ((with_reducible refine gate_dst (N := 17) rfl ?_); (try (refine gate_guard (by rfl) ?_; dsimp only)); refine Kd.R_lit (Kd.int .u8) _ 5 ?hg (N := 17) ?hd (xs := ([a0_2] : List Int)) (inner := [.int .u8 a0_2]) (ok := fun _ => True) (okp := fun _ => True) ?hr ?hp (fun _ hk => hk) trivial (Below.refl _ _) (Nat.le_refl _) (by simp) ?_; (case hd => rfl); (case hg => rfl); (case hr => first | (go_simp; done) | (go_simp; rfl)); (case hp => exact (Reps.one (show Kd.M (Kd.int .u8) _ _ _ a0_2 [.int .u8 a0_2] from rfl) (Reps.none _ _))); intro v187 w13 ho14 hb hg_ hnew_; clear hg_ hnew_; (first | rw [← Ny186.out] at ho14 | (simp only [Int.reduceToNat] at ho14; rw [← Ny186.out] at ho14)); have HO188 := ak (Kd.R_lower (Kd.R_new' ho14 (Kd.R_lt (zR HO185.out))) (below_size (zBG HB.out GE182.out))); replace HO185 := kE HO185 ho14 hb; replace BK977 := kK BK977 hb; replace BK182 := kK BK182 hb; replace HB := kB1 HB GE182 hb; clear hb ho14; have hcv15 := own_string (P := Tryz.prog) Tryz.underlying22 Tryz.underlying5 Tryz.underlying9 (Kd.own_of_R HO188.out)) | (go_at_call 63; (with_reducible refine (strings_ReplaceAll.calls a1 (strOfNums y183) (strOfNums y186) a977_0 t189 _ ?side1 A5.out).mono ?_); (case side1 => exact (zK BK977.out)); rintro e w16 ⟨rfl, hb⟩; replace HO185 := kR HO185 hb; replace HO188 := kR HO188 hb; replace BK977 := kK BK977 hb; replace BK182 := kK BK182 hb; replace HB := kB1 HB GE182 hb; (try clear hb)))
 repeat (go_quiet (first | ((with_reducible refine gate_dst (N := 2) rfl ?_); (try (refine gate_guard (by rfl) ?_; dsimp only)); refine box_event ?hg (N := 2) ?hd (cs := #[.int .i8 a0_0, .int .u8 a0_1, .int .u8 a0_2]) (t := 40) ?hr ?_; (case hd => rfl); (case hg => rfl); (case hr => first | (go_simp; done) | (go_simp; rfl)); intro gb182 hg w6 hbox hb; have BK182 := ak (hbox); have GW182 := gS HB hg; have GE182 := gS HB hg; have NB977_182 := nL BK977 hg; have NB182_977 := nG BK977 hg; replace BK977 := kK BK977 hb; replace HB := kB HB hb; clear hb hbox hg; have hnb7 := NB182_977.out; have hnc7 := NB977_182.out; obtain ⟨hcz8_0, hcz8_1, hcz8_2, hfz8_0, hfz8_1, hfz8_2⟩ := cz3 w6 BK182) | ((with_reducible refine gate_dst (N := 13) rfl ?_); (try (refine gate_guard (by rfl) ?_; dsimp only)); refine Kd.R_lit (Kd.int .u8) _ 5 ?hg (N := 13) ?hd (xs := ([a0_1] : List Int)) (inner := [.int .u8 a0_1]) (ok := fun _ => True) (okp := fun _ => True) ?hr ?hp (fun _ hk => hk) trivial (Below.refl _ _) (Nat.le_refl _) (by simp) ?_; (case hd => rfl); (case hg => rfl); (case hr => first | (go_simp; done) | (go_simp; rfl)); (case hp => exact (Reps.one (show Kd.M (Kd.int .u8) _ _ _ a0_1 [.int .u8 a0_1] from rfl) (Reps.none _ _))); intro v184 w9 ho10 hb hg_ hnew_; clear hg_ hnew_; (first | rw [← Ny183.out] at ho10 | (simp only [Int.reduceToNat] at ho10; rw [← Ny183.out] at ho10)); have HO185 := ak (Kd.R_lower ho10 (below_size (zBG HB.out GE182.out))); replace BK977 := kK BK977 hb; replace BK182 := kK BK182 hb; replace HB := kB1 HB GE182 hb; clear hb ho10; have hcv11 := own_string (P := Tryz.prog) Tryz.underlying22 Tryz.underlying5 Tryz.underlying9 (Kd.own_of_R HO185.out); obtain ⟨hcz12_0, hcz12_1, hcz12_2, hfz12_0, hfz12_1, hfz12_2⟩ := cz3 w9 BK182) | ((with_reducible refine gate_dst (N := 17) rfl ?_); (try (refine gate_guard (by rfl) ?_; dsimp only)); refine Kd.R_lit (Kd.int .u8) _ 5 ?hg (N := 17) ?hd (xs := ([a0_2] : List Int)) (inner := [.int .u8 a0_2]) (ok := fun _ => True) (okp := fun _ => True) ?hr ?hp (fun _ hk => hk) trivial (Below.refl _ _) (Nat.le_refl _) (by simp) ?_; (case hd => rfl); (case hg => rfl); (case hr => first | (go_simp; done) | (go_simp; rfl)); (case hp => exact (Reps.one (show Kd.M (Kd.int .u8) _ _ _ a0_2 [.int .u8 a0_2] from rfl) (Reps.none _ _))); intro v187 w13 ho14 hb hg_ hnew_; clear hg_ hnew_; (first | rw [← Ny186.out] at ho14 | (simp only [Int.reduceToNat] at ho14; rw [← Ny186.out] at ho14)); have HO188 := ak (Kd.R_lower (Kd.R_new' ho14 (Kd.R_lt (zR HO185.out))) (below_size (zBG HB.out GE182.out))); replace HO185 := kE HO185 ho14 hb; replace BK977 := kK BK977 hb; replace BK182 := kK BK182 hb; replace HB := kB1 HB GE182 hb; clear hb ho14; have hcv15 := own_string (P := Tryz.prog) Tryz.underlying22 Tryz.underlying5 Tryz.underlying9 (Kd.own_of_R HO188.out)) | (go_at_call 63; (with_reducible refine (strings_ReplaceAll.calls a1 (strOfNums y183) (strOfNums y186) a977_0 t189 _ ?side1 A5.out).mono ?_); (case side1 => exact (zK BK977.out)); rintro e w16 ⟨rfl, hb⟩; have n0_ := ak (Kd.R_below (zR HO185.out) hb); have n1_ := ak (Kd.R_below (zR HO188.out) hb); have n2_ := ak (blk_below (g := 0) (o := .cells #[.int .i64 a977_0] 3 (0, 0)) (zK BK977.out) hb); have n3_ := ak (blk_below (g := gb182) (o := .cells #[.int .i8 a0_0, .int .u8 a0_1, .int .u8 a0_2] 40 (0, 0)) (zK BK182.out) hb); have n4_ := ak (below_step (zBG HB.out GE182.out) hb); clear HO185 HO188 BK977 BK182 HB; have HO185 := n0_; have HO188 := n1_; have BK977 := n2_; have BK182 := n3_; have HB := n4_; clear n0_ n1_ n2_ n3_ n4_; (try clear hb); (try clear hb2); (try clear hk); (try clear hi))); try go_wp2_with (first | ((with_reducible refine gate_dst (N := 2) rfl ?_); (try (refine gate_guard (by rfl) ?_; dsimp only)); refine box_event ?hg (N := 2) ?hd (cs := #[.int .i8 a0_0, .int .u8 a0_1, .int .u8 a0_2]) (t := 40) ?hr ?_; (case hd => rfl); (case hg => rfl); (case hr => first | (go_simp; done) | (go_simp; rfl)); intro gb182 hg w6 hbox hb; have BK182 := ak (hbox); have GW182 := gS HB hg; have GE182 := gS HB hg; have NB977_182 := nL BK977 hg; have NB182_977 := nG BK977 hg; replace BK977 := kK BK977 hb; replace HB := kB HB hb; clear hb hbox hg; have hnb7 := NB182_977.out; have hnc7 := NB977_182.out; obtain ⟨hcz8_0, hcz8_1, hcz8_2, hfz8_0, hfz8_1, hfz8_2⟩ := cz3 w6 BK182) | ((with_reducible refine gate_dst (N := 13) rfl ?_); (try (refine gate_guard (by rfl) ?_; dsimp only)); refine Kd.R_lit (Kd.int .u8) _ 5 ?hg (N := 13) ?hd (xs := ([a0_1] : List Int)) (inner := [.int .u8 a0_1]) (ok := fun _ => True) (okp := fun _ => True) ?hr ?hp (fun _ hk => hk) trivial (Below.refl _ _) (Nat.le_refl _) (by simp) ?_; (case hd => rfl); (case hg => rfl); (case hr => first | (go_simp; done) | (go_simp; rfl)); (case hp => exact (Reps.one (show Kd.M (Kd.int .u8) _ _ _ a0_1 [.int .u8 a0_1] from rfl) (Reps.none _ _))); intro v184 w9 ho10 hb hg_ hnew_; clear hg_ hnew_; (first | rw [← Ny183.out] at ho10 | (simp only [Int.reduceToNat] at ho10; rw [← Ny183.out] at ho10)); have HO185 := ak (Kd.R_lower ho10 (below_size (zBG HB.out GE182.out))); replace BK977 := kK BK977 hb; replace BK182 := kK BK182 hb; replace HB := kB1 HB GE182 hb; clear hb ho10; have hcv11 := own_string (P := Tryz.prog) Tryz.underlying22 Tryz.underlying5 Tryz.underlying9 (Kd.own_of_R HO185.out); obtain ⟨hcz12_0, hcz12_1, hcz12_2, hfz12_0, hfz12_1, hfz12_2⟩ := cz3 w9 BK182) | ((with_reducible refine gate_dst (N := 17) rfl ?_); (try (refine gate_guard (by rfl) ?_; dsimp only)); refine Kd.R_lit (Kd.int .u8) _ 5 ?hg (N := 17) ?hd (xs := ([a0_2] : List Int)) (inner := [.int .u8 a0_2]) (ok := fun _ => True) (okp := fun _ => True) ?hr ?hp (fun _ hk => hk) trivial (Below.refl _ _) (Nat.le_refl _) (by simp) ?_; (case hd => rfl); (case hg => rfl); (case hr => first | (go_simp; done) | (go_simp; rfl)); (case hp => exact (Reps.one (show Kd.M (Kd.int .u8) _ _ _ a0_2 [.int .u8 a0_2] from rfl) (Reps.none _ _))); intro v187 w13 ho14 hb hg_ hnew_; clear hg_ hnew_; (first | rw [← Ny186.out] at ho14 | (simp only [Int.reduceToNat] at ho14; rw [← Ny186.out] at ho14)); have HO188 := ak (Kd.R_lower (Kd.R_new' ho14 (Kd.R_lt (zR HO185.out))) (below_size (zBG HB.out GE182.out))); replace HO185 := kE HO185 ho14 hb; replace BK977 := kK BK977 hb; replace BK182 := kK BK182 hb; replace HB := kB1 HB GE182 hb; clear hb ho14; have hcv15 := own_string (P := Tryz.prog) Tryz.underlying22 Tryz.underlying5 Tryz.underlying9 (Kd.own_of_R HO188.out)) | (go_at_call 63; (with_reducible refine (strings_ReplaceAll.calls a1 (strOfNums y183) (strOfNums y186) a977_0 t189 _ ?side1 A5.out).mono ?_); (case side1 => exact (zK BK977.out)); rintro e w16 ⟨rfl, hb⟩; replace HO185 := kR HO185 hb; replace HO188 := kR HO188 hb; replace BK977 := kK BK977 hb; replace BK182 := kK BK182 hb; replace HB := kB1 HB GE182 hb; (try clear hb))))
 go_ret
 exact ⟨by first | rfl | (simp [errW_none, errW_some] <;> rfl) | (simp [*, errW_none, errW_some] <;> rfl), zBG HB.out GE182.out⟩
 }
 {
 rw [if_neg c4] at H
 have c4b0 : (a0_0 == 1) = false := beq_eq_false_iff_ne.mpr c4
 have c4b1 : (a0_0 != 1) = true := bne_iff_ne.mpr c4
 by_cases c17 : a0_0 = 2
 {
 rw [if_pos c17] at H
 have c17b0 : (a0_0 == 2) = true := beq_iff_eq.mpr c17
 have c17b1 : (a0_0 != 2) = false := bne_eq_false_iff_eq.mpr c17
 clear c17
 replace H := Option.bind_eq_some_iff.mp H
 obtain ⟨t190, A180, H⟩ := H
 have A18 := ak A180
 clear A180
 by_cases c19 : t190 ≥ 0
 {
 rw [if_pos c19] at H
 have c19b0 : decide (0 ≤ t190) = true := decide_eq_true c19
 clear c19
 by_cases c20 : (a1.size : Int) > 1
 {
 rw [if_pos c20] at H
 have c20b0 : decide (1 < (a1.size : Int)) = true := decide_eq_true c20
 have c20b1 : decide (1 < a1.size) = true := decide_eq_true (by omega)
 clear c20
 by_cases c21 : 0 ≤ t190
 {
 rw [if_pos c21] at H
 have c21b0 := eq_true c21
 have c21b1 : decide (0 ≤ t190) = true := decide_eq_true c21
 clear c21
 by_cases c22 : t190 ≤ (a1.size : Int)
 {
 rw [if_pos c22] at H
 have c22b0 := eq_true c22
 have c22b1 : decide (t190 ≤ (a1.size : Int)) = true := decide_eq_true c22
 clear c22
 obtain ⟨ji23, hji23⟩ : ∃ j_ : Int, (wrap64 (t190 + 1)) = j_ := ⟨_, rfl⟩
 first | rw [hji23] at H | simp only [hji23] at H
 (try rw [hji23] at A18)
 have hji23w : (IntKind.i64.wrap (t190 + 1)) = ji23 := (i64_w _).trans hji23
 by_cases c24 : 0 ≤ (ji23)
 {
 rw [if_pos c24] at H
 have c24b0 := eq_true c24
 have c24b1 : decide (0 ≤ (ji23)) = true := decide_eq_true c24
 clear c24
 by_cases c25 : (ji23) ≤ (a1.size : Int)
 {
 rw [if_pos c25] at H
 have c25b0 := eq_true c25
 have c25b1 : decide ((ji23) ≤ (a1.size : Int)) = true := decide_eq_true c25
 clear c25
 by_cases c26 : (a1.extract 0 (t190 : Int).toNat).size + (a1.extract ((ji23) : Int).toNat a1.size).size ≤ 9223372036854775807
 {
 rw [if_pos c26] at H
 have c26b0 := eq_true c26
 have c26b1 : decide ((a1.extract 0 (t190 : Int).toNat).size + (a1.extract ((ji23) : Int).toNat a1.size).size ≤ 9223372036854775807) = true := decide_eq_true c26
 try have c26b2 : (9223372036854775807 < (a1.extract 0 (t190 : Int).toNat).size + (a1.extract ((ji23) : Int).toNat a1.size).size) = False := eq_false (Nat.not_lt.2 c26)
 obtain rfl := Option.some.inj H
 go_enter Tryz.func44, Tryz.ntmps44
 go_wp2_with (first | ((with_reducible refine gate_dst (N := 2) rfl ?_); (try (refine gate_guard (by rfl) ?_; dsimp only)); refine box_event ?hg (N := 2) ?hd (cs := #[.int .i8 a0_0, .int .u8 a0_1, .int .u8 a0_2]) (t := 40) ?hr ?_; (case hd => rfl); (case hg => rfl); (case hr => first | (go_simp; done) | (go_simp; rfl)); intro gb182 hg w27 hbox hb; have BK182 := ak (hbox); have GW182 := gS HB hg; have GE182 := gS HB hg; have NB977_182 := nL BK977 hg; have NB182_977 := nG BK977 hg; replace BK977 := kK BK977 hb; replace HB := kB HB hb; clear hb hbox hg; have hnb28 := NB182_977.out; have hnc28 := NB977_182.out; obtain ⟨hcz29_0, hcz29_1, hcz29_2, hfz29_0, hfz29_1, hfz29_2⟩ := cz3 w27 BK182) | (go_at_call 64; (with_reducible refine (strings_IndexByte.calls a1 a0_1 t190 _ A18.out).mono ?_); rintro e w' ⟨rfl, ⟨nd, rfl⟩⟩))
 repeat (go_quiet (first | ((with_reducible refine gate_dst (N := 2) rfl ?_); (try (refine gate_guard (by rfl) ?_; dsimp only)); refine box_event ?hg (N := 2) ?hd (cs := #[.int .i8 a0_0, .int .u8 a0_1, .int .u8 a0_2]) (t := 40) ?hr ?_; (case hd => rfl); (case hg => rfl); (case hr => first | (go_simp; done) | (go_simp; rfl)); intro gb182 hg w27 hbox hb; have BK182 := ak (hbox); have GW182 := gS HB hg; have GE182 := gS HB hg; have NB977_182 := nL BK977 hg; have NB182_977 := nG BK977 hg; replace BK977 := kK BK977 hb; replace HB := kB HB hb; clear hb hbox hg; have hnb28 := NB182_977.out; have hnc28 := NB977_182.out; obtain ⟨hcz29_0, hcz29_1, hcz29_2, hfz29_0, hfz29_1, hfz29_2⟩ := cz3 w27 BK182) | (go_at_call 64; (with_reducible refine (strings_IndexByte.calls a1 a0_1 t190 _ A18.out).mono ?_); rintro e w' ⟨rfl, ⟨nd, rfl⟩⟩; (try first | exact ⟨rfl, _, World.drewN_drewN _ _ _⟩ | exact ⟨rfl, _, Eq.trans (World.drewN_drewN _ _ _) (congrArg (World.drewN _) (Nat.add_assoc _ _ _))⟩))); try go_wp2_with (first | ((with_reducible refine gate_dst (N := 2) rfl ?_); (try (refine gate_guard (by rfl) ?_; dsimp only)); refine box_event ?hg (N := 2) ?hd (cs := #[.int .i8 a0_0, .int .u8 a0_1, .int .u8 a0_2]) (t := 40) ?hr ?_; (case hd => rfl); (case hg => rfl); (case hr => first | (go_simp; done) | (go_simp; rfl)); intro gb182 hg w27 hbox hb; have BK182 := ak (hbox); have GW182 := gS HB hg; have GE182 := gS HB hg; have NB977_182 := nL BK977 hg; have NB182_977 := nG BK977 hg; replace BK977 := kK BK977 hb; replace HB := kB HB hb; clear hb hbox hg; have hnb28 := NB182_977.out; have hnc28 := NB977_182.out; obtain ⟨hcz29_0, hcz29_1, hcz29_2, hfz29_0, hfz29_1, hfz29_2⟩ := cz3 w27 BK182) | (go_at_call 64; (with_reducible refine (strings_IndexByte.calls a1 a0_1 t190 _ A18.out).mono ?_); rintro e w' ⟨rfl, ⟨nd, rfl⟩⟩; (try first | exact ⟨rfl, _, World.drewN_drewN _ _ _⟩ | exact ⟨rfl, _, Eq.trans (World.drewN_drewN _ _ _) (congrArg (World.drewN _) (Nat.add_assoc _ _ _))⟩))))
 go_ret
 exact ⟨by first | rfl | (simp [errW_none, errW_some] <;> rfl) | (simp only [← hji23]; first | rfl | (simp [errW_none, errW_some] <;> rfl)) | (simp [*, errW_none, errW_some] <;> rfl), zBG HB.out GE182.out⟩
 }
 · rw [if_neg c26] at H; exact absurd H (by simp)
 }
 · rw [if_neg c25] at H; exact absurd H (by simp)
 }
 · rw [if_neg c24] at H; exact absurd H (by simp)
 }
 · rw [if_neg c22] at H; exact absurd H (by simp)
 }
 · rw [if_neg c21] at H; exact absurd H (by simp)
 }
 {
 rw [if_neg c20] at H
 have c20b0 : decide (1 < (a1.size : Int)) = false := decide_eq_false c20
 have c20b1 : decide (1 < a1.size) = false := decide_eq_false (by omega)
 clear c20
 obtain rfl := Option.some.inj H
 go_enter Tryz.func44, Tryz.ntmps44
 go_wp2_with (first | ((with_reducible refine gate_dst (N := 2) rfl ?_); (try (refine gate_guard (by rfl) ?_; dsimp only)); refine box_event ?hg (N := 2) ?hd (cs := #[.int .i8 a0_0, .int .u8 a0_1, .int .u8 a0_2]) (t := 40) ?hr ?_; (case hd => rfl); (case hg => rfl); (case hr => first | (go_simp; done) | (go_simp; rfl)); intro gb182 hg w30 hbox hb; have BK182 := ak (hbox); have GW182 := gS HB hg; have GE182 := gS HB hg; have NB977_182 := nL BK977 hg; have NB182_977 := nG BK977 hg; replace BK977 := kK BK977 hb; replace HB := kB HB hb; clear hb hbox hg; have hnb31 := NB182_977.out; have hnc31 := NB977_182.out; obtain ⟨hcz32_0, hcz32_1, hcz32_2, hfz32_0, hfz32_1, hfz32_2⟩ := cz3 w30 BK182) | (go_at_call 64; (with_reducible refine (strings_IndexByte.calls a1 a0_1 t190 _ A18.out).mono ?_); rintro e w' ⟨rfl, ⟨nd, rfl⟩⟩))
 repeat (go_quiet (first | ((with_reducible refine gate_dst (N := 2) rfl ?_); (try (refine gate_guard (by rfl) ?_; dsimp only)); refine box_event ?hg (N := 2) ?hd (cs := #[.int .i8 a0_0, .int .u8 a0_1, .int .u8 a0_2]) (t := 40) ?hr ?_; (case hd => rfl); (case hg => rfl); (case hr => first | (go_simp; done) | (go_simp; rfl)); intro gb182 hg w30 hbox hb; have BK182 := ak (hbox); have GW182 := gS HB hg; have GE182 := gS HB hg; have NB977_182 := nL BK977 hg; have NB182_977 := nG BK977 hg; replace BK977 := kK BK977 hb; replace HB := kB HB hb; clear hb hbox hg; have hnb31 := NB182_977.out; have hnc31 := NB977_182.out; obtain ⟨hcz32_0, hcz32_1, hcz32_2, hfz32_0, hfz32_1, hfz32_2⟩ := cz3 w30 BK182) | (go_at_call 64; (with_reducible refine (strings_IndexByte.calls a1 a0_1 t190 _ A18.out).mono ?_); rintro e w' ⟨rfl, ⟨nd, rfl⟩⟩; (try first | exact ⟨rfl, _, World.drewN_drewN _ _ _⟩ | exact ⟨rfl, _, Eq.trans (World.drewN_drewN _ _ _) (congrArg (World.drewN _) (Nat.add_assoc _ _ _))⟩))); try go_wp2_with (first | ((with_reducible refine gate_dst (N := 2) rfl ?_); (try (refine gate_guard (by rfl) ?_; dsimp only)); refine box_event ?hg (N := 2) ?hd (cs := #[.int .i8 a0_0, .int .u8 a0_1, .int .u8 a0_2]) (t := 40) ?hr ?_; (case hd => rfl); (case hg => rfl); (case hr => first | (go_simp; done) | (go_simp; rfl)); intro gb182 hg w30 hbox hb; have BK182 := ak (hbox); have GW182 := gS HB hg; have GE182 := gS HB hg; have NB977_182 := nL BK977 hg; have NB182_977 := nG BK977 hg; replace BK977 := kK BK977 hb; replace HB := kB HB hb; clear hb hbox hg; have hnb31 := NB182_977.out; have hnc31 := NB977_182.out; obtain ⟨hcz32_0, hcz32_1, hcz32_2, hfz32_0, hfz32_1, hfz32_2⟩ := cz3 w30 BK182) | (go_at_call 64; (with_reducible refine (strings_IndexByte.calls a1 a0_1 t190 _ A18.out).mono ?_); rintro e w' ⟨rfl, ⟨nd, rfl⟩⟩; (try first | exact ⟨rfl, _, World.drewN_drewN _ _ _⟩ | exact ⟨rfl, _, Eq.trans (World.drewN_drewN _ _ _) (congrArg (World.drewN _) (Nat.add_assoc _ _ _))⟩))))
 go_ret
 exact ⟨by first | rfl | (simp [errW_none, errW_some] <;> rfl) | (simp [*, errW_none, errW_some] <;> rfl), zBG HB.out GE182.out⟩
 }
 }
 {
 rw [if_neg c19] at H
 have c19b0 : decide (0 ≤ t190) = false := decide_eq_false c19
 clear c19
 obtain rfl := Option.some.inj H
 go_enter Tryz.func44, Tryz.ntmps44
 go_wp2_with (first | ((with_reducible refine gate_dst (N := 2) rfl ?_); (try (refine gate_guard (by rfl) ?_; dsimp only)); refine box_event ?hg (N := 2) ?hd (cs := #[.int .i8 a0_0, .int .u8 a0_1, .int .u8 a0_2]) (t := 40) ?hr ?_; (case hd => rfl); (case hg => rfl); (case hr => first | (go_simp; done) | (go_simp; rfl)); intro gb182 hg w33 hbox hb; have BK182 := ak (hbox); have GW182 := gS HB hg; have GE182 := gS HB hg; have NB977_182 := nL BK977 hg; have NB182_977 := nG BK977 hg; replace BK977 := kK BK977 hb; replace HB := kB HB hb; clear hb hbox hg; have hnb34 := NB182_977.out; have hnc34 := NB977_182.out; obtain ⟨hcz35_0, hcz35_1, hcz35_2, hfz35_0, hfz35_1, hfz35_2⟩ := cz3 w33 BK182) | (go_at_call 64; (with_reducible refine (strings_IndexByte.calls a1 a0_1 t190 _ A18.out).mono ?_); rintro e w' ⟨rfl, ⟨nd, rfl⟩⟩))
 repeat (go_quiet (first | ((with_reducible refine gate_dst (N := 2) rfl ?_); (try (refine gate_guard (by rfl) ?_; dsimp only)); refine box_event ?hg (N := 2) ?hd (cs := #[.int .i8 a0_0, .int .u8 a0_1, .int .u8 a0_2]) (t := 40) ?hr ?_; (case hd => rfl); (case hg => rfl); (case hr => first | (go_simp; done) | (go_simp; rfl)); intro gb182 hg w33 hbox hb; have BK182 := ak (hbox); have GW182 := gS HB hg; have GE182 := gS HB hg; have NB977_182 := nL BK977 hg; have NB182_977 := nG BK977 hg; replace BK977 := kK BK977 hb; replace HB := kB HB hb; clear hb hbox hg; have hnb34 := NB182_977.out; have hnc34 := NB977_182.out; obtain ⟨hcz35_0, hcz35_1, hcz35_2, hfz35_0, hfz35_1, hfz35_2⟩ := cz3 w33 BK182) | (go_at_call 64; (with_reducible refine (strings_IndexByte.calls a1 a0_1 t190 _ A18.out).mono ?_); rintro e w' ⟨rfl, ⟨nd, rfl⟩⟩; (try first | exact ⟨rfl, _, World.drewN_drewN _ _ _⟩ | exact ⟨rfl, _, Eq.trans (World.drewN_drewN _ _ _) (congrArg (World.drewN _) (Nat.add_assoc _ _ _))⟩))); try go_wp2_with (first | ((with_reducible refine gate_dst (N := 2) rfl ?_); (try (refine gate_guard (by rfl) ?_; dsimp only)); refine box_event ?hg (N := 2) ?hd (cs := #[.int .i8 a0_0, .int .u8 a0_1, .int .u8 a0_2]) (t := 40) ?hr ?_; (case hd => rfl); (case hg => rfl); (case hr => first | (go_simp; done) | (go_simp; rfl)); intro gb182 hg w33 hbox hb; have BK182 := ak (hbox); have GW182 := gS HB hg; have GE182 := gS HB hg; have NB977_182 := nL BK977 hg; have NB182_977 := nG BK977 hg; replace BK977 := kK BK977 hb; replace HB := kB HB hb; clear hb hbox hg; have hnb34 := NB182_977.out; have hnc34 := NB977_182.out; obtain ⟨hcz35_0, hcz35_1, hcz35_2, hfz35_0, hfz35_1, hfz35_2⟩ := cz3 w33 BK182) | (go_at_call 64; (with_reducible refine (strings_IndexByte.calls a1 a0_1 t190 _ A18.out).mono ?_); rintro e w' ⟨rfl, ⟨nd, rfl⟩⟩; (try first | exact ⟨rfl, _, World.drewN_drewN _ _ _⟩ | exact ⟨rfl, _, Eq.trans (World.drewN_drewN _ _ _) (congrArg (World.drewN _) (Nat.add_assoc _ _ _))⟩))))
 go_ret
 exact ⟨by first | rfl | (simp [errW_none, errW_some] <;> rfl) | (simp [*, errW_none, errW_some] <;> rfl), zBG HB.out GE182.out⟩
 }
 }
 {
 rw [if_neg c17] at H
 have c17b0 : (a0_0 == 2) = false := beq_eq_false_iff_ne.mpr c17
 have c17b1 : (a0_0 != 2) = true := bne_iff_ne.mpr c17
 by_cases c36 : a0_0 = 3
 {
 rw [if_pos c36] at H
 have c36b0 : (a0_0 == 3) = true := beq_iff_eq.mpr c36
 have c36b1 : (a0_0 != 3) = false := bne_eq_false_iff_eq.mpr c36
 clear c36
 by_cases c37 : (a1.size : Int) < 12
 {
 rw [if_pos c37] at H
 have c37b0 : decide ((a1.size : Int) < 12) = true := decide_eq_true c37
 have c37b1 : decide (a1.size < 12) = true := decide_eq_true (by omega)
 clear c37
 obtain ⟨ji38, hji38⟩ : ∃ j_ : Int, (wrap64 ((a1.size : Int) - 1)) = j_ := ⟨_, rfl⟩
 first | rw [hji38] at H | simp only [hji38] at H
 have hji38w : (IntKind.i64.wrap ((a1.size : Int) - 1)) = ji38 := (i64_w _).trans hji38
 by_cases c39 : 0 ≤ (ji38)
 {
 rw [if_pos c39] at H
 have c39b0 := eq_true c39
 have c39b1 : decide (0 ≤ (ji38)) = true := decide_eq_true c39
 clear c39
 by_cases c40 : (ji38) ≤ (a1.size : Int)
 {
 rw [if_pos c40] at H
 have c40b0 := eq_true c40
 have c40b1 : decide ((ji38) ≤ (a1.size : Int)) = true := decide_eq_true c40
 clear c40
 by_cases c41 : a1.size + (a1.extract ((ji38) : Int).toNat a1.size).size ≤ 9223372036854775807
 {
 rw [if_pos c41] at H
 have c41b0 := eq_true c41
 have c41b1 : decide (a1.size + (a1.extract ((ji38) : Int).toNat a1.size).size ≤ 9223372036854775807) = true := decide_eq_true c41
 try have c41b2 : (9223372036854775807 < a1.size + (a1.extract ((ji38) : Int).toNat a1.size).size) = False := eq_false (Nat.not_lt.2 c41)
 obtain rfl := Option.some.inj H
 go_enter Tryz.func44, Tryz.ntmps44
 go_wp2_with (first | ((with_reducible refine gate_dst (N := 2) rfl ?_); (try (refine gate_guard (by rfl) ?_; dsimp only)); refine box_event ?hg (N := 2) ?hd (cs := #[.int .i8 a0_0, .int .u8 a0_1, .int .u8 a0_2]) (t := 40) ?hr ?_; (case hd => rfl); (case hg => rfl); (case hr => first | (go_simp; done) | (go_simp; rfl)); intro gb182 hg w42 hbox hb; have BK182 := ak (hbox); have GW182 := gS HB hg; have GE182 := gS HB hg; have NB977_182 := nL BK977 hg; have NB182_977 := nG BK977 hg; replace BK977 := kK BK977 hb; replace HB := kB HB hb; clear hb hbox hg; have hnb43 := NB182_977.out; have hnc43 := NB977_182.out; obtain ⟨hcz44_0, hcz44_1, hcz44_2, hfz44_0, hfz44_1, hfz44_2⟩ := cz3 w42 BK182))
 repeat (go_quiet (first | ((with_reducible refine gate_dst (N := 2) rfl ?_); (try (refine gate_guard (by rfl) ?_; dsimp only)); refine box_event ?hg (N := 2) ?hd (cs := #[.int .i8 a0_0, .int .u8 a0_1, .int .u8 a0_2]) (t := 40) ?hr ?_; (case hd => rfl); (case hg => rfl); (case hr => first | (go_simp; done) | (go_simp; rfl)); intro gb182 hg w42 hbox hb; have n0_ := ak (blk_below (g := 0) (o := .cells #[.int .i64 a977_0] 3 (0, 0)) (zK BK977.out) hb); have n1_ := ak (below_step (zB HB.out) hb); have n2_ := ak (hbox); have n3_ := gS HB hg; have n4_ := gS HB hg; have n5_ := nL BK977 hg; have n6_ := nG BK977 hg; clear BK977 HB; have BK977 := n0_; have HB := n1_; have BK182 := n2_; have GW182 := n3_; have GE182 := n4_; have NB977_182 := n5_; have NB182_977 := n6_; clear n0_ n1_ n2_ n3_ n4_ n5_ n6_; clear hb hbox hg; have hnb43 := NB182_977.out; have hnc43 := NB977_182.out; have hcz44_0 : w42.cell? ⟨gb182, 0, none⟩ = some (.int .i8 a0_0) := (blk_cell BK182.out 0).trans rfl; have hcz44_1 : w42.cell? ⟨gb182, 1, none⟩ = some (.int .u8 a0_1) := (blk_cell BK182.out 1).trans rfl; have hcz44_2 : w42.cell? ⟨gb182, 2, none⟩ = some (.int .u8 a0_2) := (blk_cell BK182.out 2).trans rfl; have hfz44_0 := blk_frozen BK182.out 0; have hfz44_1 := blk_frozen BK182.out 1; have hfz44_2 := blk_frozen BK182.out 2)); try go_wp2_with (first | ((with_reducible refine gate_dst (N := 2) rfl ?_); (try (refine gate_guard (by rfl) ?_; dsimp only)); refine box_event ?hg (N := 2) ?hd (cs := #[.int .i8 a0_0, .int .u8 a0_1, .int .u8 a0_2]) (t := 40) ?hr ?_; (case hd => rfl); (case hg => rfl); (case hr => first | (go_simp; done) | (go_simp; rfl)); intro gb182 hg w42 hbox hb; have BK182 := ak (hbox); have GW182 := gS HB hg; have GE182 := gS HB hg; have NB977_182 := nL BK977 hg; have NB182_977 := nG BK977 hg; replace BK977 := kK BK977 hb; replace HB := kB HB hb; clear hb hbox hg; have hnb43 := NB182_977.out; have hnc43 := NB977_182.out; obtain ⟨hcz44_0, hcz44_1, hcz44_2, hfz44_0, hfz44_1, hfz44_2⟩ := cz3 w42 BK182)))
 go_ret
 exact ⟨by first | rfl | (simp [errW_none, errW_some] <;> rfl) | (simp only [← hji38]; first | rfl | (simp [errW_none, errW_some] <;> rfl)) | (simp [*, errW_none, errW_some] <;> rfl), zBG HB.out GE182.out⟩
 }
 · rw [if_neg c41] at H; exact absurd H (by simp)
 }
 · rw [if_neg c40] at H; exact absurd H (by simp)
 }
 · rw [if_neg c39] at H; exact absurd H (by simp)
 }
 {
 rw [if_neg c37] at H
 have c37b0 : decide ((a1.size : Int) < 12) = false := decide_eq_false c37
 have c37b1 : decide (a1.size < 12) = false := decide_eq_false (by omega)
 clear c37
 obtain rfl := Option.some.inj H
 go_enter Tryz.func44, Tryz.ntmps44
 go_wp2_with (first | ((with_reducible refine gate_dst (N := 2) rfl ?_); (try (refine gate_guard (by rfl) ?_; dsimp only)); refine box_event ?hg (N := 2) ?hd (cs := #[.int .i8 a0_0, .int .u8 a0_1, .int .u8 a0_2]) (t := 40) ?hr ?_; (case hd => rfl); (case hg => rfl); (case hr => first | (go_simp; done) | (go_simp; rfl)); intro gb182 hg w45 hbox hb; have BK182 := ak (hbox); have GW182 := gS HB hg; have GE182 := gS HB hg; have NB977_182 := nL BK977 hg; have NB182_977 := nG BK977 hg; replace BK977 := kK BK977 hb; replace HB := kB HB hb; clear hb hbox hg; have hnb46 := NB182_977.out; have hnc46 := NB977_182.out; obtain ⟨hcz47_0, hcz47_1, hcz47_2, hfz47_0, hfz47_1, hfz47_2⟩ := cz3 w45 BK182))
 repeat (go_quiet (first | ((with_reducible refine gate_dst (N := 2) rfl ?_); (try (refine gate_guard (by rfl) ?_; dsimp only)); refine box_event ?hg (N := 2) ?hd (cs := #[.int .i8 a0_0, .int .u8 a0_1, .int .u8 a0_2]) (t := 40) ?hr ?_; (case hd => rfl); (case hg => rfl); (case hr => first | (go_simp; done) | (go_simp; rfl)); intro gb182 hg w45 hbox hb; have n0_ := ak (blk_below (g := 0) (o := .cells #[.int .i64 a977_0] 3 (0, 0)) (zK BK977.out) hb); have n1_ := ak (below_step (zB HB.out) hb); have n2_ := ak (hbox); have n3_ := gS HB hg; have n4_ := gS HB hg; have n5_ := nL BK977 hg; have n6_ := nG BK977 hg; clear BK977 HB; have BK977 := n0_; have HB := n1_; have BK182 := n2_; have GW182 := n3_; have GE182 := n4_; have NB977_182 := n5_; have NB182_977 := n6_; clear n0_ n1_ n2_ n3_ n4_ n5_ n6_; clear hb hbox hg; have hnb46 := NB182_977.out; have hnc46 := NB977_182.out; have hcz47_0 : w45.cell? ⟨gb182, 0, none⟩ = some (.int .i8 a0_0) := (blk_cell BK182.out 0).trans rfl; have hcz47_1 : w45.cell? ⟨gb182, 1, none⟩ = some (.int .u8 a0_1) := (blk_cell BK182.out 1).trans rfl; have hcz47_2 : w45.cell? ⟨gb182, 2, none⟩ = some (.int .u8 a0_2) := (blk_cell BK182.out 2).trans rfl; have hfz47_0 := blk_frozen BK182.out 0; have hfz47_1 := blk_frozen BK182.out 1; have hfz47_2 := blk_frozen BK182.out 2)); try go_wp2_with (first | ((with_reducible refine gate_dst (N := 2) rfl ?_); (try (refine gate_guard (by rfl) ?_; dsimp only)); refine box_event ?hg (N := 2) ?hd (cs := #[.int .i8 a0_0, .int .u8 a0_1, .int .u8 a0_2]) (t := 40) ?hr ?_; (case hd => rfl); (case hg => rfl); (case hr => first | (go_simp; done) | (go_simp; rfl)); intro gb182 hg w45 hbox hb; have BK182 := ak (hbox); have GW182 := gS HB hg; have GE182 := gS HB hg; have NB977_182 := nL BK977 hg; have NB182_977 := nG BK977 hg; replace BK977 := kK BK977 hb; replace HB := kB HB hb; clear hb hbox hg; have hnb46 := NB182_977.out; have hnc46 := NB977_182.out; obtain ⟨hcz47_0, hcz47_1, hcz47_2, hfz47_0, hfz47_1, hfz47_2⟩ := cz3 w45 BK182)))
 go_ret
 exact ⟨by first | rfl | (simp [errW_none, errW_some] <;> rfl) | (simp [*, errW_none, errW_some] <;> rfl), zBG HB.out GE182.out⟩
 }
 }
 {
 rw [if_neg c36] at H
 have c36b0 : (a0_0 == 3) = false := beq_eq_false_iff_ne.mpr c36
 have c36b1 : (a0_0 != 3) = true := bne_iff_ne.mpr c36
 by_cases c48 : a0_0 = 4
 {
 rw [if_pos c48] at H
 have c48b0 : (a0_0 == 4) = true := beq_iff_eq.mpr c48
 have c48b1 : (a0_0 != 4) = false := bne_eq_false_iff_eq.mpr c48
 clear c48
 by_cases c49 : 0 < (a1.size : Int)
 {
 rw [if_pos c49] at H
 have c49b0 : decide (0 < (a1.size : Int)) = true := decide_eq_true c49
 have c49b1 : decide (0 < a1.size) = true := decide_eq_true (by omega)
 clear c49
 by_cases c51 : (bt a1 0) = a0_1
 {
 rw [if_pos c51] at H
 have c51b0 : ((bt a1 0) == a0_1) = true := beq_iff_eq.mpr c51
 have c51b1 : ((bt a1 0) != a0_1) = false := bne_eq_false_iff_eq.mpr c51
 clear c51
 replace H := Option.bind_eq_some_iff.mp H
 obtain ⟨t191, A520, H⟩ := H
 have A52 := ak A520
 clear A520
 obtain rfl := Option.some.inj H
 go_enter Tryz.func44, Tryz.ntmps44
 go_wp2_with (first | ((with_reducible refine gate_dst (N := 2) rfl ?_); (try (refine gate_guard (by rfl) ?_; dsimp only)); refine box_event ?hg (N := 2) ?hd (cs := #[.int .i8 a0_0, .int .u8 a0_1, .int .u8 a0_2]) (t := 40) ?hr ?_; (case hd => rfl); (case hg => rfl); (case hr => first | (go_simp; done) | (go_simp; rfl)); intro gb182 hg w53 hbox hb; have BK182 := ak (hbox); have GW182 := gS HB hg; have GE182 := gS HB hg; have NB977_182 := nL BK977 hg; have NB182_977 := nG BK977 hg; replace BK977 := kK BK977 hb; replace HB := kB HB hb; clear hb hbox hg; have hnb54 := NB182_977.out; have hnc54 := NB977_182.out; obtain ⟨hcz55_0, hcz55_1, hcz55_2, hfz55_0, hfz55_1, hfz55_2⟩ := cz3 w53 BK182; have p50 : 0 ≤ (0 : Int) := (by omega); have q50 : 0 < a1.size := (by have : (0 : Int) < (a1.size : Int) := of_decide_eq_true (by first | (with_reducible assumption) | assumption); omega); have hx50 : ∀ h : 0 < a1.size, ((a1[0]'h).toNat : Int) = bt a1 0 := bt_at a1 0; clear p50; have qi50 : (0 < (a1.size : Int)) = True := eq_true (of_decide_eq_true (by first | (with_reducible assumption) | assumption)); replace q50 := eq_true q50) | (go_at_call 65; (with_reducible refine (impl_turned.calls a1 t191 _ A52.out).mono ?_); rintro e w56 ⟨rfl, hb⟩; replace BK977 := kK BK977 hb; replace BK182 := kK BK182 hb; replace HB := kB1 HB GE182 hb; (try clear hb)))
 repeat (go_quiet (first | ((with_reducible refine gate_dst (N := 2) rfl ?_); (try (refine gate_guard (by rfl) ?_; dsimp only)); refine box_event ?hg (N := 2) ?hd (cs := #[.int .i8 a0_0, .int .u8 a0_1, .int .u8 a0_2]) (t := 40) ?hr ?_; (case hd => rfl); (case hg => rfl); (case hr => first | (go_simp; done) | (go_simp; rfl)); intro gb182 hg w53 hbox hb; have BK182 := ak (hbox); have GW182 := gS HB hg; have GE182 := gS HB hg; have NB977_182 := nL BK977 hg; have NB182_977 := nG BK977 hg; replace BK977 := kK BK977 hb; replace HB := kB HB hb; clear hb hbox hg; have hnb54 := NB182_977.out; have hnc54 := NB977_182.out; obtain ⟨hcz55_0, hcz55_1, hcz55_2, hfz55_0, hfz55_1, hfz55_2⟩ := cz3 w53 BK182; have p50 : 0 ≤ (0 : Int) := (by omega); have q50 : 0 < a1.size := (by have : (0 : Int) < (a1.size : Int) := of_decide_eq_true (by first | (with_reducible assumption) | assumption); omega); have hx50 : ∀ h : 0 < a1.size, ((a1[0]'h).toNat : Int) = bt a1 0 := bt_at a1 0; clear p50; have qi50 : (0 < (a1.size : Int)) = True := eq_true (of_decide_eq_true (by first | (with_reducible assumption) | assumption)); replace q50 := eq_true q50) | (go_at_call 65; (with_reducible refine (impl_turned.calls a1 t191 _ A52.out).mono ?_); rintro e w56 ⟨rfl, hb⟩; have n0_ := ak (blk_below (g := 0) (o := .cells #[.int .i64 a977_0] 3 (0, 0)) (zK BK977.out) hb); have n1_ := ak (blk_below (g := gb182) (o := .cells #[.int .i8 a0_0, .int .u8 a0_1, .int .u8 a0_2] 40 (0, 0)) (zK BK182.out) hb); have n2_ := ak (below_step (zBG HB.out GE182.out) hb); clear BK977 BK182 HB; have BK977 := n0_; have BK182 := n1_; have HB := n2_; clear n0_ n1_ n2_; (try clear hb); (try clear hb2); (try clear hk); (try clear hi))); try go_wp2_with (first | ((with_reducible refine gate_dst (N := 2) rfl ?_); (try (refine gate_guard (by rfl) ?_; dsimp only)); refine box_event ?hg (N := 2) ?hd (cs := #[.int .i8 a0_0, .int .u8 a0_1, .int .u8 a0_2]) (t := 40) ?hr ?_; (case hd => rfl); (case hg => rfl); (case hr => first | (go_simp; done) | (go_simp; rfl)); intro gb182 hg w53 hbox hb; have BK182 := ak (hbox); have GW182 := gS HB hg; have GE182 := gS HB hg; have NB977_182 := nL BK977 hg; have NB182_977 := nG BK977 hg; replace BK977 := kK BK977 hb; replace HB := kB HB hb; clear hb hbox hg; have hnb54 := NB182_977.out; have hnc54 := NB977_182.out; obtain ⟨hcz55_0, hcz55_1, hcz55_2, hfz55_0, hfz55_1, hfz55_2⟩ := cz3 w53 BK182; have p50 : 0 ≤ (0 : Int) := (by omega); have q50 : 0 < a1.size := (by have : (0 : Int) < (a1.size : Int) := of_decide_eq_true (by first | (with_reducible assumption) | assumption); omega); have hx50 : ∀ h : 0 < a1.size, ((a1[0]'h).toNat : Int) = bt a1 0 := bt_at a1 0; clear p50; have qi50 : (0 < (a1.size : Int)) = True := eq_true (of_decide_eq_true (by first | (with_reducible assumption) | assumption)); replace q50 := eq_true q50) | (go_at_call 65; (with_reducible refine (impl_turned.calls a1 t191 _ A52.out).mono ?_); rintro e w56 ⟨rfl, hb⟩; replace BK977 := kK BK977 hb; replace BK182 := kK BK182 hb; replace HB := kB1 HB GE182 hb; (try clear hb))))
 go_ret
 exact ⟨by first | rfl | (simp [errW_none, errW_some] <;> rfl) | (simp [*, errW_none, errW_some] <;> rfl), zBG HB.out GE182.out⟩
 }
 {
 rw [if_neg c51] at H
 have c51b0 : ((bt a1 0) == a0_1) = false := beq_eq_false_iff_ne.mpr c51
 have c51b1 : ((bt a1 0) != a0_1) = true := bne_iff_ne.mpr c51
 obtain rfl := Option.some.inj H
 go_enter Tryz.func44, Tryz.ntmps44
 go_wp2_with (first | ((with_reducible refine gate_dst (N := 2) rfl ?_); (try (refine gate_guard (by rfl) ?_; dsimp only)); refine box_event ?hg (N := 2) ?hd (cs := #[.int .i8 a0_0, .int .u8 a0_1, .int .u8 a0_2]) (t := 40) ?hr ?_; (case hd => rfl); (case hg => rfl); (case hr => first | (go_simp; done) | (go_simp; rfl)); intro gb182 hg w57 hbox hb; have BK182 := ak (hbox); have GW182 := gS HB hg; have GE182 := gS HB hg; have NB977_182 := nL BK977 hg; have NB182_977 := nG BK977 hg; replace BK977 := kK BK977 hb; replace HB := kB HB hb; clear hb hbox hg; have hnb58 := NB182_977.out; have hnc58 := NB977_182.out; obtain ⟨hcz59_0, hcz59_1, hcz59_2, hfz59_0, hfz59_1, hfz59_2⟩ := cz3 w57 BK182; have p50 : 0 ≤ (0 : Int) := (by omega); have q50 : 0 < a1.size := (by have : (0 : Int) < (a1.size : Int) := of_decide_eq_true (by first | (with_reducible assumption) | assumption); omega); have hx50 : ∀ h : 0 < a1.size, ((a1[0]'h).toNat : Int) = bt a1 0 := bt_at a1 0; clear p50; have qi50 : (0 < (a1.size : Int)) = True := eq_true (of_decide_eq_true (by first | (with_reducible assumption) | assumption)); replace q50 := eq_true q50))
 repeat (go_quiet (first | ((with_reducible refine gate_dst (N := 2) rfl ?_); (try (refine gate_guard (by rfl) ?_; dsimp only)); refine box_event ?hg (N := 2) ?hd (cs := #[.int .i8 a0_0, .int .u8 a0_1, .int .u8 a0_2]) (t := 40) ?hr ?_; (case hd => rfl); (case hg => rfl); (case hr => first | (go_simp; done) | (go_simp; rfl)); intro gb182 hg w57 hbox hb; have n0_ := ak (blk_below (g := 0) (o := .cells #[.int .i64 a977_0] 3 (0, 0)) (zK BK977.out) hb); have n1_ := ak (below_step (zB HB.out) hb); have n2_ := ak (hbox); have n3_ := gS HB hg; have n4_ := gS HB hg; have n5_ := nL BK977 hg; have n6_ := nG BK977 hg; clear BK977 HB; have BK977 := n0_; have HB := n1_; have BK182 := n2_; have GW182 := n3_; have GE182 := n4_; have NB977_182 := n5_; have NB182_977 := n6_; clear n0_ n1_ n2_ n3_ n4_ n5_ n6_; clear hb hbox hg; have hnb58 := NB182_977.out; have hnc58 := NB977_182.out; have hcz59_0 : w57.cell? ⟨gb182, 0, none⟩ = some (.int .i8 a0_0) := (blk_cell BK182.out 0).trans rfl; have hcz59_1 : w57.cell? ⟨gb182, 1, none⟩ = some (.int .u8 a0_1) := (blk_cell BK182.out 1).trans rfl; have hcz59_2 : w57.cell? ⟨gb182, 2, none⟩ = some (.int .u8 a0_2) := (blk_cell BK182.out 2).trans rfl; have hfz59_0 := blk_frozen BK182.out 0; have hfz59_1 := blk_frozen BK182.out 1; have hfz59_2 := blk_frozen BK182.out 2; have p50 : 0 ≤ (0 : Int) := (by omega); have q50 : 0 < a1.size := (by have : (0 : Int) < (a1.size : Int) := of_decide_eq_true (by first | (with_reducible assumption) | assumption); omega); have hx50 : ∀ h : 0 < a1.size, ((a1[0]'h).toNat : Int) = bt a1 0 := bt_at a1 0; clear p50; have qi50 : (0 < (a1.size : Int)) = True := eq_true (of_decide_eq_true (by first | (with_reducible assumption) | assumption)); replace q50 := eq_true q50)); try go_wp2_with (first | ((with_reducible refine gate_dst (N := 2) rfl ?_); (try (refine gate_guard (by rfl) ?_; dsimp only)); refine box_event ?hg (N := 2) ?hd (cs := #[.int .i8 a0_0, .int .u8 a0_1, .int .u8 a0_2]) (t := 40) ?hr ?_; (case hd => rfl); (case hg => rfl); (case hr => first | (go_simp; done) | (go_simp; rfl)); intro gb182 hg w57 hbox hb; have BK182 := ak (hbox); have GW182 := gS HB hg; have GE182 := gS HB hg; have NB977_182 := nL BK977 hg; have NB182_977 := nG BK977 hg; replace BK977 := kK BK977 hb; replace HB := kB HB hb; clear hb hbox hg; have hnb58 := NB182_977.out; have hnc58 := NB977_182.out; obtain ⟨hcz59_0, hcz59_1, hcz59_2, hfz59_0, hfz59_1, hfz59_2⟩ := cz3 w57 BK182; have p50 : 0 ≤ (0 : Int) := (by omega); have q50 : 0 < a1.size := (by have : (0 : Int) < (a1.size : Int) := of_decide_eq_true (by first | (with_reducible assumption) | assumption); omega); have hx50 : ∀ h : 0 < a1.size, ((a1[0]'h).toNat : Int) = bt a1 0 := bt_at a1 0; clear p50; have qi50 : (0 < (a1.size : Int)) = True := eq_true (of_decide_eq_true (by first | (with_reducible assumption) | assumption)); replace q50 := eq_true q50)))
 go_ret
 exact ⟨by first | rfl | (simp [errW_none, errW_some] <;> rfl) | (simp [*, errW_none, errW_some] <;> rfl), zBG HB.out GE182.out⟩
 }
 }
 · rw [if_neg c49] at H; exact absurd H (by simp)
 }
 {
 rw [if_neg c48] at H
 have c48b0 : (a0_0 == 4) = false := beq_eq_false_iff_ne.mpr c48
 have c48b1 : (a0_0 != 4) = true := bne_iff_ne.mpr c48
 obtain rfl := Option.some.inj H
 go_enter Tryz.func44, Tryz.ntmps44
 go_wp2_with (first | ((with_reducible refine gate_dst (N := 2) rfl ?_); (try (refine gate_guard (by rfl) ?_; dsimp only)); refine box_event ?hg (N := 2) ?hd (cs := #[.int .i8 a0_0, .int .u8 a0_1, .int .u8 a0_2]) (t := 40) ?hr ?_; (case hd => rfl); (case hg => rfl); (case hr => first | (go_simp; done) | (go_simp; rfl)); intro gb182 hg w60 hbox hb; have BK182 := ak (hbox); have GW182 := gS HB hg; have GE182 := gS HB hg; have NB977_182 := nL BK977 hg; have NB182_977 := nG BK977 hg; replace BK977 := kK BK977 hb; replace HB := kB HB hb; clear hb hbox hg; have hnb61 := NB182_977.out; have hnc61 := NB977_182.out; obtain ⟨hcz62_0, hcz62_1, hcz62_2, hfz62_0, hfz62_1, hfz62_2⟩ := cz3 w60 BK182))
 repeat (go_quiet (first | ((with_reducible refine gate_dst (N := 2) rfl ?_); (try (refine gate_guard (by rfl) ?_; dsimp only)); refine box_event ?hg (N := 2) ?hd (cs := #[.int .i8 a0_0, .int .u8 a0_1, .int .u8 a0_2]) (t := 40) ?hr ?_; (case hd => rfl); (case hg => rfl); (case hr => first | (go_simp; done) | (go_simp; rfl)); intro gb182 hg w60 hbox hb; have n0_ := ak (blk_below (g := 0) (o := .cells #[.int .i64 a977_0] 3 (0, 0)) (zK BK977.out) hb); have n1_ := ak (below_step (zB HB.out) hb); have n2_ := ak (hbox); have n3_ := gS HB hg; have n4_ := gS HB hg; have n5_ := nL BK977 hg; have n6_ := nG BK977 hg; clear BK977 HB; have BK977 := n0_; have HB := n1_; have BK182 := n2_; have GW182 := n3_; have GE182 := n4_; have NB977_182 := n5_; have NB182_977 := n6_; clear n0_ n1_ n2_ n3_ n4_ n5_ n6_; clear hb hbox hg; have hnb61 := NB182_977.out; have hnc61 := NB977_182.out; have hcz62_0 : w60.cell? ⟨gb182, 0, none⟩ = some (.int .i8 a0_0) := (blk_cell BK182.out 0).trans rfl; have hcz62_1 : w60.cell? ⟨gb182, 1, none⟩ = some (.int .u8 a0_1) := (blk_cell BK182.out 1).trans rfl; have hcz62_2 : w60.cell? ⟨gb182, 2, none⟩ = some (.int .u8 a0_2) := (blk_cell BK182.out 2).trans rfl; have hfz62_0 := blk_frozen BK182.out 0; have hfz62_1 := blk_frozen BK182.out 1; have hfz62_2 := blk_frozen BK182.out 2)); try go_wp2_with (first | ((with_reducible refine gate_dst (N := 2) rfl ?_); (try (refine gate_guard (by rfl) ?_; dsimp only)); refine box_event ?hg (N := 2) ?hd (cs := #[.int .i8 a0_0, .int .u8 a0_1, .int .u8 a0_2]) (t := 40) ?hr ?_; (case hd => rfl); (case hg => rfl); (case hr => first | (go_simp; done) | (go_simp; rfl)); intro gb182 hg w60 hbox hb; have BK182 := ak (hbox); have GW182 := gS HB hg; have GE182 := gS HB hg; have NB977_182 := nL BK977 hg; have NB182_977 := nG BK977 hg; replace BK977 := kK BK977 hb; replace HB := kB HB hb; clear hb hbox hg; have hnb61 := NB182_977.out; have hnc61 := NB977_182.out; obtain ⟨hcz62_0, hcz62_1, hcz62_2, hfz62_0, hfz62_1, hfz62_2⟩ := cz3 w60 BK182)))
 go_ret
 exact ⟨by first | rfl | (simp [errW_none, errW_some] <;> rfl) | (simp [*, errW_none, errW_some] <;> rfl), zBG HB.out GE182.out⟩
 }
 }
 }
 }
/-! ### impl_heard: function 36 -/
def impl_heard.l0 : Nat → ByteArray → List ByteArray → List (S40) → Int → Int → Int → Option (List ByteArray)
  | 0, _, _, _, _, _, _ => none
  | k + 1, x1, x5, x10, x11, x12, x978000 => if x12 < x11 then (if 0 ≤ x12 then (if x12 < (x10.length : Int) then ((impl_Habit_hear.f ((rd_T40 x10 x12).f0) ((rd_T40 x10 x12).f1) ((rd_T40 x10 x12).f2) x1 x978000).bind fun t197 => (if x5.length < 8796093022208 then (impl_heard.l0 k t197 (x5 ++ [t197]) x10 x11 (wrap64 (x12 + 1)) x978000) else (none))) else (none)) else (none)) else (some x5)
def impl_heard.f (k : Nat) (l0 : List (S40)) (a1 : ByteArray) (a977_0 : Int) : Option (List ByteArray) := impl_heard.l0 k a1 (([a1] : List ByteArray)) l0 (l0.length : Int) 0 a977_0
set_option maxHeartbeats 8000000 in
set_option maxRecDepth 100000 in
theorem impl_heard.calls (k : Nat) (A0 : Option Addr) (c0 : Nat) (l0 : List (S40)) (a1 : ByteArray) (a977_0 : Int) (r : List ByteArray) (w : World) (hr0 : Kd.C k40 w A0 l0.length l0) (hc0 : l0.length ≤ c0) (hx977 : w.heap[0]? = some (.cells #[.int .i64 a977_0] 3 (0, 0))) (h : impl_heard.f k l0 a1 a977_0 = some r) :
    Calls Tryz.prog 36 #[.slice A0 l0.length c0, .string a1] w fun e w' => ∃ v0_ : Value, e = .returned (v0_) ∧ Kd.R Kd.string 9 w' w.heap.size (fun _ => True) v0_ r ∧ Below w.heap.size w w' := by
 have hu40 := Tryz.underlying40
 have HR0 := ak hr0
 have HC0 := ak hc0
 clear hr0 hc0
 have BK977 := ak hx977
 clear hx977
 have HB := ak (Below.refl w.heap.size w)
 have H := h
 unfold impl_heard.f at H
 clear h
 obtain ⟨y192, hy192⟩ : ∃ y_ : List ByteArray, y_ = (([a1] : List ByteArray)) := ⟨_, rfl⟩
 replace H : (impl_heard.l0 k a1 y192 l0 (l0.length : Int) 0 a977_0) = some r := by first | (rw [hy192]; with_reducible exact H) | (have H2_ := (Option.bind_some _ _).symm.trans H; rw [hy192]; with_reducible exact H2_) | (have H2_ := (Option.bind_some _ _).symm.trans H; with_reducible exact H2_) | with_reducible exact H | (rw [hy192]; exact H) | exact H
 have Ny192 := ak hy192
 clear hy192
 have H' := ak H
 clear H
 go_enter Tryz.func36, Tryz.ntmps36
 go_wp2_with (first | ((with_reducible refine gate_dst (N := 9) rfl ?_); refine Kd.R_lit Kd.string _ 9 ?hg (N := 9) ?hd (xs := ([a1] : List ByteArray)) (inner := [.string a1]) (ok := fun _ => True) (okp := fun _ => True) ?hr ?hp (fun _ hk => hk) trivial (Below.refl _ _) (Nat.le_refl _) (by simp) ?_; (case hd => rfl); (case hg => rfl); (case hr => first | (go_simp; done) | (go_simp; rfl)); (case hp => exact (Reps.one (show Kd.M Kd.string _ _ _ a1 [.string a1] from rfl) (Reps.none _ _))); intro v193 w4 ho5 hb hg_ hnew_; clear hg_ hnew_; (first | rw [← Ny192.out] at ho5 | (simp only [Int.reduceToNat] at ho5; rw [← Ny192.out] at ho5)); have HO194 := ak (Kd.R_lower ho5 (below_size (zB HB.out))); replace BK977 := kK BK977 hb; replace HB := kB HB hb; clear hb ho5))
 go_loopg [1, 5, 12] k (fun kq v1 v5 v12 w' => ∃ (x1_1 : ByteArray) (x5_1 : List ByteArray) (x12_1 : Int), v1 = .string x1_1 ∧ v12 = .int .i64 x12_1 ∧ Aside0 (impl_heard.l0 kq x1_1 x5_1 l0 (l0.length : Int) x12_1 a977_0 = some r) ∧ Aside0 (kq ≤ k) ∧ Aside0 (Kd.R Kd.string 9 w' w.heap.size (fun _ => True) v5 x5_1) ∧ Aside0 (w'.heap[0]? = some (.cells #[.int .i64 a977_0] 3 (0, 0))) ∧ Aside0 (Below w.heap.size w w'))
 case atStart => exact ⟨(a1), (y192), (0), (by first | rfl | (simp; done) | (simp [*]; done)), (by first | rfl | (simp; done) | (simp [*]; done)), H', ⟨Nat.le_refl _⟩, ⟨(zR HO194.out)⟩, ⟨(zK BK977.out)⟩, ⟨zB HB.out⟩⟩
 case round => (
 clear H'
 obtain ⟨x1_1, x5_1, x12_1, rfl, rfl, HA, HK1, HO_5, BK977, HB⟩ := hrel
 cases gk with
 | zero => exact absurd HA.out (by simp [impl_heard.l0])
 | succ k1 => (
 have H := HA.out
 clear HA
 simp only [impl_heard.l0] at H
 by_cases c6 : x12_1 < (l0.length : Int)
 {
 rw [if_pos c6] at H
 have c6b0 : decide (x12_1 < (l0.length : Int)) = true := decide_eq_true c6
 clear c6
 by_cases c7 : 0 ≤ x12_1
 {
 rw [if_pos c7] at H
 have c7b0 : decide (0 ≤ x12_1) = true := decide_eq_true c7
 clear c7
 by_cases c8 : x12_1 < (l0.length : Int)
 {
 rw [if_pos c8] at H
 have c8b0 : decide (x12_1 < (l0.length : Int)) = true := decide_eq_true c8
 clear c8
 replace H := Option.bind_eq_some_iff.mp H
 obtain ⟨t197, A90, H⟩ := H
 have A9 := ak A90
 clear A90
 by_cases c10 : x5_1.length < 8796093022208
 {
 rw [if_pos c10] at H
 have LMc10 := ak c10
 clear c10
 obtain ⟨y198, hy198⟩ : ∃ y_ : List ByteArray, y_ = (x5_1 ++ [t197]) := ⟨_, rfl⟩
 replace H : (impl_heard.l0 k1 t197 y198 l0 (l0.length : Int) (wrap64 (x12_1 + 1)) a977_0) = some r := by first | (rw [hy198]; with_reducible exact H) | (have H2_ := (Option.bind_some _ _).symm.trans H; rw [hy198]; with_reducible exact H2_) | (have H2_ := (Option.bind_some _ _).symm.trans H; with_reducible exact H2_) | with_reducible exact H | (rw [hy198]; exact H) | exact H
 have Ny198 := ak hy198
 clear hy198
 have H' := ak H
 clear H
 have p195 : 0 ≤ (x12_1 : Int) := of_decide_eq_true (by first | (with_reducible assumption) | assumption)
 have q195 : x12_1 < (l0.length : Int) := of_decide_eq_true (by first | (with_reducible assumption) | assumption)
 obtain ⟨ad195, e195, hx195_0, hx195_1, hx195_2⟩ := at_T40 HR0.out x12_1 p195 q195
 cases e195
 replace hx195_0 := (HB.out.cell (World.block_lt_of_cell? w _ hx195_0)).trans hx195_0
 replace hx195_1 := (HB.out.cell (World.block_lt_of_cell? w _ hx195_1)).trans hx195_1
 replace hx195_2 := (HB.out.cell (World.block_lt_of_cell? w _ hx195_2)).trans hx195_2
 replace p195 := eq_true p195
 replace q195 := eq_true q195
 go_wp2_with (first | ((with_reducible refine gate_dst (N := 7) rfl ?_); refine box_event ?hg (N := 7) ?hd (cs := #[.int .i8 0, .int .u8 0, .int .u8 0]) (t := 40) ?hr ?_; (case hd => rfl); (case hg => rfl); (case hr => first | (go_simp; done) | (go_simp; rfl)); intro gb196 hg w11 hbox hb; have BK196 := ak (hbox); have GW196 := gS HB hg; have GE196 := gS HB hg; have NB977_196 := nL BK977 hg; have NB196_977 := nG BK977 hg; replace HO_5 := kR HO_5 hb; replace BK977 := kK BK977 hb; replace HB := kB HB hb; clear hb hbox hg; have hnb12 := NB196_977.out; have hnc12 := NB977_196.out; obtain ⟨hcz13_0, hcz13_1, hcz13_2, hfz13_0, hfz13_1, hfz13_2⟩ := cz3 w11 BK196) | ((with_reducible refine gate_callee (f := 44) rfl ?_); refine goesL_ (some 18) rfl rfl Tryz.func44 (by kernel_rfl) rfl #[.agg #[.int .i8 ((rd_T40 l0 x12_1).f0), .int .u8 ((rd_T40 l0 x12_1).f1), .int .u8 ((rd_T40 l0 x12_1).f2)], .string x1_1] rfl gl_ ?_; (with_reducible refine (impl_Habit_hear.calls ((rd_T40 l0 x12_1).f0) ((rd_T40 l0 x12_1).f1) ((rd_T40 l0 x12_1).f2) x1_1 a977_0 t197 _ ?side1 A9.out).mono ?_); (case side1 => exact (by first | exact BK977.out | ((with_reducible repeat (first | refine blk_drewN ?_ _ | refine blk_drew ?_ | refine blk_alloc ?_ _)); refine blk_far ?_ NB977_196.out _; (with_reducible repeat (first | refine blk_drewN ?_ _ | refine blk_drew ?_ | refine blk_alloc ?_ _)); refine blk_far ?_ NB977_196.out _; (with_reducible repeat (first | refine blk_drewN ?_ _ | refine blk_drew ?_ | refine blk_alloc ?_ _)); refine blk_far ?_ NB977_196.out _; (with_reducible repeat (first | refine blk_drewN ?_ _ | refine blk_drew ?_ | refine blk_alloc ?_ _)); exact BK977.out))); rintro e w14 ⟨rfl, hb⟩; refine ⟨_, rfl, ?_⟩; replace HO_5 := ak (Kd.R_below (by (with_reducible repeat (first | apply Kd.R_alloc | apply Kd.R_drewN | apply Kd.R_drew)); exact (Kd.R_mono (Kd.R_far (p := ⟨gb196, 2, none⟩) (Kd.R_far (p := ⟨gb196, 1, none⟩) (Kd.R_far (p := ⟨gb196, 0, none⟩) (Kd.R_types HO_5.out BK196.out (by decide)) (fun _ hk => hk.2) (.int .i8 ((rd_T40 l0 x12_1).f0))) (fun _ hk => hk.2) (.int .u8 ((rd_T40 l0 x12_1).f1))) (fun _ hk => hk.2) (.int .u8 ((rd_T40 l0 x12_1).f2))) (fun _ h_ => h_.1))) hb); replace BK977 := ak (blk_below (g := 0) (o := .cells #[.int .i64 a977_0] 3 (0, 0)) (by (with_reducible repeat (first | refine blk_drewN ?_ _ | refine blk_drew ?_ | refine blk_alloc ?_ _)); refine blk_far ?_ NB977_196.out _; (with_reducible repeat (first | refine blk_drewN ?_ _ | refine blk_drew ?_ | refine blk_alloc ?_ _)); refine blk_far ?_ NB977_196.out _; (with_reducible repeat (first | refine blk_drewN ?_ _ | refine blk_drew ?_ | refine blk_alloc ?_ _)); refine blk_far ?_ NB977_196.out _; (with_reducible repeat (first | refine blk_drewN ?_ _ | refine blk_drew ?_ | refine blk_alloc ?_ _)); exact BK977.out) hb); replace BK196 := ak (blk_below (g := gb196) (o := .cells #[.int .i8 ((rd_T40 l0 x12_1).f0), .int .u8 ((rd_T40 l0 x12_1).f1), .int .u8 ((rd_T40 l0 x12_1).f2)] 40 (0, 0)) (by (with_reducible repeat (first | refine blk_drewN ?_ _ | refine blk_drew ?_ | refine blk_alloc ?_ _)); refine blk_put (cs := #[.int .i8 ((rd_T40 l0 x12_1).f0), .int .u8 ((rd_T40 l0 x12_1).f1), .int .u8 0]) ?_ 2 _ rfl; (with_reducible repeat (first | refine blk_drewN ?_ _ | refine blk_drew ?_ | refine blk_alloc ?_ _)); refine blk_put (cs := #[.int .i8 ((rd_T40 l0 x12_1).f0), .int .u8 0, .int .u8 0]) ?_ 1 _ rfl; (with_reducible repeat (first | refine blk_drewN ?_ _ | refine blk_drew ?_ | refine blk_alloc ?_ _)); refine blk_put (cs := #[.int .i8 0, .int .u8 0, .int .u8 0]) ?_ 0 _ rfl; (with_reducible repeat (first | refine blk_drewN ?_ _ | refine blk_drew ?_ | refine blk_alloc ?_ _)); exact BK196.out) hb); replace HB := kB1 HB GE196 hb; (try clear hb); (try clear hk)) | ((with_reducible refine gate_builtin (b := .append) (xs := #[.tmp 19, .tmp 21]) rfl ?_); at_builtin; refine Kd.R_append Kd.string (w0 := w) w.heap.size rfl (.tmp 19) (.tmp 21) 29 9 (.string ⟨#[]⟩) 16 rfl Tryz.underlying29 info9 rfl (by decide) (by omega) u5 x5_1 t197 [.string t197] (fun _ => True) (fun _ => False) rfl rfl ?aP (fun _ hk => hk.elim) ?aF ?aO ?aB ?aS ?aL ?_; (case aP => exact rfl); (case aB => exact (zBG HB.out GE196.out)); (case aF => exact (fun _ _ => trivial)); (case aO => exact (zR HO_5.out)); (case aS => exact (below_size (zBG HB.out GE196.out))); (case aL => have := LMc10.out; omega); intro v199 w15 ho hb hg hat; rw [← Ny198.out] at ho; have HO200 := ak (ho); replace BK977 := ak (blk_grown (g := 0) (o := .cells #[.int .i64 a977_0] 3 (0, 0)) (zK BK977.out) hg (Kd.R_ne HO_5.out BK977.out (by decide))); replace BK196 := ak (blk_grown (g := gb196) (o := .cells #[.int .i8 ((rd_T40 l0 x12_1).f0), .int .u8 ((rd_T40 l0 x12_1).f1), .int .u8 ((rd_T40 l0 x12_1).f2)] 40 (0, 0)) (zK BK196.out) hg (Kd.R_ne HO_5.out BK196.out (by decide))); replace HB := ak (hb); clear HO_5 ho hb hg hat))
 go_roundg k1
 case measure => have := HK1.out; omega
 case rel => exact ⟨(t197), (y198), (wrap64 (x12_1 + 1)), (by first | rfl | (simp; done) | (simp [*]; done)), (by first | rfl | (simp; done) | (simp [*]; done)), H', ⟨by have := HK1.out; omega⟩, ⟨(zR HO200.out)⟩, ⟨(zK BK977.out)⟩, ⟨zBG HB.out GE196.out⟩⟩
 }
 · rw [if_neg c10] at H; exact absurd H (by simp)
 }
 · rw [if_neg c8] at H; exact absurd H (by simp)
 }
 · rw [if_neg c7] at H; exact absurd H (by simp)
 }
 {
 rw [if_neg c6] at H
 have c6b0 : decide (x12_1 < (l0.length : Int)) = false := decide_eq_false c6
 clear c6
 obtain rfl := Option.some.inj H
 go_wp2
 go_ret
 exact ⟨_, by first | rfl | (simp [errW_none, errW_some] <;> rfl) | (simp [*, errW_none, errW_some] <;> rfl), by (with_reducible repeat (first | apply Kd.R_alloc | apply Kd.R_drewN | apply Kd.R_drew)); exact HO_5.out, zB HB.out⟩
 }
 )
 )
/-! ### impl_passed: function 33 -/
def impl_passed.f (k : Nat) (l0 : List (S40)) (a1 : ByteArray) (a977_0 : Int) : Option (ByteArray) := (impl_heard.f k l0 a1 a977_0).bind fun t201 => (if 0 ≤ (l0.length : Int) then (if (l0.length : Int) < (t201.length : Int) then (some (rdOf ByteArray.empty t201 (l0.length : Int))) else (none)) else (none))
set_option maxHeartbeats 8000000 in
set_option maxRecDepth 100000 in
theorem impl_passed.calls (k : Nat) (A0 : Option Addr) (c0 : Nat) (l0 : List (S40)) (a1 : ByteArray) (a977_0 : Int) (r : ByteArray) (w : World) (hr0 : Kd.C k40 w A0 l0.length l0) (hc0 : l0.length ≤ c0) (hx977 : w.heap[0]? = some (.cells #[.int .i64 a977_0] 3 (0, 0))) (h : impl_passed.f k l0 a1 a977_0 = some r) :
    Calls Tryz.prog 33 #[.slice A0 l0.length c0, .string a1] w fun e w' => e = .returned (.string r) ∧ Below w.heap.size w w' := by
 have HR0 := ak hr0
 have HC0 := ak hc0
 clear hr0 hc0
 have BK977 := ak hx977
 clear hx977
 have HB := ak (Below.refl w.heap.size w)
 have H := h
 unfold impl_passed.f at H
 clear h
 replace H := Option.bind_eq_some_iff.mp H
 obtain ⟨t201, A40, H⟩ := H
 have A4 := ak A40
 clear A40
 by_cases c5 : 0 ≤ (l0.length : Int)
 {
 rw [if_pos c5] at H
 have c5b0 : decide (0 ≤ (l0.length : Int)) = true := decide_eq_true c5
 have c5b1 : decide (0 ≤ l0.length) = true := decide_eq_true (by omega)
 clear c5
 by_cases c6 : (l0.length : Int) < (t201.length : Int)
 {
 rw [if_pos c6] at H
 have c6b0 : decide ((l0.length : Int) < (t201.length : Int)) = true := decide_eq_true c6
 have c6b1 : decide (l0.length < t201.length) = true := decide_eq_true (Int.ofNat_lt.mp c6)
 clear c6
 obtain rfl := Option.some.inj H
 go_enter Tryz.func33, Tryz.ntmps33
 go_wp2_with (first | ((with_reducible refine gate_callee (f := 36) rfl ?_); refine goesL_ (some 7) rfl rfl Tryz.func36 (by kernel_rfl) rfl #[.slice A0 l0.length c0, .string a1] rfl gl_ ?_; (with_reducible refine (impl_heard.calls k _ _ l0 a1 a977_0 t201 _ ?side1 ?side2 ?side3 A4.out).mono ?_); (case side1 => exact sD HR0); (case side2 => exact HC0.out); (case side3 => exact (zK BK977.out)); rintro e w7 ⟨v202, rfl, ho0, hb⟩; refine ⟨_, rfl, ?_⟩; have HO203 := ak (Kd.R_lower ho0 (below_size (zB HB.out))); replace BK977 := kK BK977 hb; replace HB := kB HB hb; (try clear hb); (try clear ho0); obtain ⟨Ao8, co8, eo8⟩ := Kd.R_slice HO203.out; subst eo8; have p204 : 0 ≤ ((l0.length : Int) : Int) := of_decide_eq_true (by first | (with_reducible assumption) | assumption); have q204 : (l0.length : Int) < (t201.length : Int) := of_decide_eq_true (by first | (with_reducible assumption) | assumption); obtain ⟨ad204, e204, hx204_0⟩ := Kd.at_string (Kd.R_reads' HO203.out).2.2 (l0.length : Int) p204 q204; cases e204; (try simp only [Go.IntWalk.toNatUp] at hx204_0); replace p204 := eq_true p204; replace q204 := eq_true q204))
 go_ret
 exact ⟨by first | rfl | (simp [errW_none, errW_some] <;> rfl) | (simp [*, errW_none, errW_some] <;> rfl), zB HB.out⟩
 }
 · rw [if_neg c6] at H; exact absurd H (by simp)
 }
 · rw [if_neg c5] at H; exact absurd H (by simp)
/-! ### impl_PassOn: function 7 -/
def impl_PassOn.f (k : Nat) (l0 : List (S40)) (a1 : ByteArray) (a977_0 : Int) : Option (ByteArray × Int) := (impl_chainCode.f k l0 (([a1] : List ByteArray))).bind fun t208 => (if t208 = 0 then ((impl_passed.f k l0 a1 a977_0).bind fun t209 => (some (t209, 0))) else (some ((⟨#[]⟩ : ByteArray), t208)))
set_option maxHeartbeats 8000000 in
set_option maxRecDepth 100000 in
theorem impl_PassOn.calls (k : Nat) (A0 : Option Addr) (c0 : Nat) (l0 : List (S40)) (a1 : ByteArray) (a977_0 : Int) (r1 : ByteArray) (r2 : Int) (w : World) (hr0 : Kd.C k40 w A0 l0.length l0) (hc0 : l0.length ≤ c0) (hx977 : w.heap[0]? = some (.cells #[.int .i64 a977_0] 3 (0, 0))) (h : impl_PassOn.f k l0 a1 a977_0 = some (r1, r2)) :
    Calls Tryz.prog 7 #[.slice A0 l0.length c0, .string a1] w fun e w' => e = .returned (.tuple #[.string r1, .int .i64 r2]) ∧ Below w.heap.size w w' := by
 have HR0 := ak hr0
 have HC0 := ak hc0
 clear hr0 hc0
 have BK977 := ak hx977
 clear hx977
 have HB := ak (Below.refl w.heap.size w)
 have H := h
 unfold impl_PassOn.f at H
 clear h
 obtain ⟨y205, hy205⟩ : ∃ y_ : List ByteArray, y_ = (([a1] : List ByteArray)) := ⟨_, rfl⟩
 replace H : ((impl_chainCode.f k l0 y205).bind fun t208 => (if t208 = 0 then ((impl_passed.f k l0 a1 a977_0).bind fun t209 => (some (t209, 0))) else (some ((⟨#[]⟩ : ByteArray), t208)))) = some (r1, r2) := by first | (rw [hy205]; with_reducible exact H) | (have H2_ := (Option.bind_some _ _).symm.trans H; rw [hy205]; with_reducible exact H2_) | (have H2_ := (Option.bind_some _ _).symm.trans H; with_reducible exact H2_) | with_reducible exact H | (rw [hy205]; exact H) | exact H
 have Ny205 := ak hy205
 clear hy205
 replace H := Option.bind_eq_some_iff.mp H
 obtain ⟨t208, A40, H⟩ := H
 have A4 := ak A40
 clear A40
 by_cases c5 : t208 = 0
 {
 rw [if_pos c5] at H
 have c5b0 : (t208 == 0) = true := beq_iff_eq.mpr c5
 have c5b1 : (t208 != 0) = false := bne_eq_false_iff_eq.mpr c5
 clear c5
 replace H := Option.bind_eq_some_iff.mp H
 obtain ⟨t209, A60, H⟩ := H
 have A6 := ak A60
 clear A60
 simp only [Option.some.injEq, Prod.mk.injEq] at H
 obtain ⟨rfl, rfl⟩ := H
 go_enter Tryz.func7, Tryz.ntmps7
 go_wp2_with (first | ((with_reducible refine gate_dst (N := 9) rfl ?_); refine Kd.R_lit Kd.string _ 9 ?hg (N := 9) ?hd (xs := ([a1] : List ByteArray)) (inner := [.string a1]) (ok := fun _ => True) (okp := fun _ => True) ?hr ?hp (fun _ hk => hk) trivial (Below.refl _ _) (Nat.le_refl _) (by simp) ?_; (case hd => rfl); (case hg => rfl); (case hr => first | (go_simp; done) | (go_simp; rfl)); (case hp => exact (Reps.one (show Kd.M Kd.string _ _ _ a1 [.string a1] from rfl) (Reps.none _ _))); intro v206 w7 ho8 hb hg_ hnew_; clear hg_ hnew_; (first | rw [← Ny205.out] at ho8 | (simp only [Int.reduceToNat] at ho8; rw [← Ny205.out] at ho8)); have HO207 := ak (Kd.R_lower ho8 (below_size (zB HB.out))); replace BK977 := kK BK977 hb; replace HB := kB HB hb; clear hb ho8; obtain ⟨Ao9, co9, eo9⟩ := Kd.R_slice HO207.out; subst eo9) | ((with_reducible refine gate_callee (f := 32) rfl ?_); refine goesL_ (some 10) rfl rfl Tryz.func32 (by kernel_rfl) rfl #[.slice A0 l0.length c0, .slice Ao9 y205.length co9] rfl gl_ ?_; (with_reducible refine (impl_chainCode.calls k _ _ l0 _ _ y205 t208 _ ?side1 ?side2 ?side3 ?side4 A4.out).mono ?_); (case side1 => exact sQ (Kd.C_below HR0.out HB.out)); (case side2 => exact HC0.out); (case side3 => exact sC HO207); (case side4 => exact sL HO207); rintro e w10 ⟨rfl, hb⟩; refine ⟨_, rfl, ?_⟩; replace HO207 := kR HO207 hb; replace BK977 := kK BK977 hb; replace HB := kB HB hb; (try clear hb)) | ((with_reducible refine gate_callee (f := 33) rfl ?_); refine goesL_ (some 16) rfl rfl Tryz.func33 (by kernel_rfl) rfl #[.slice A0 l0.length c0, .string a1] rfl gl_ ?_; (with_reducible refine (impl_passed.calls k _ _ l0 a1 a977_0 t209 _ ?side1 ?side2 ?side3 A6.out).mono ?_); (case side1 => exact sQ (Kd.C_below HR0.out HB.out)); (case side2 => exact HC0.out); (case side3 => exact (zK BK977.out)); rintro e w11 ⟨rfl, hb⟩; refine ⟨_, rfl, ?_⟩; replace HO207 := kR HO207 hb; replace BK977 := kK BK977 hb; replace HB := kB HB hb; (try clear hb)))
 go_ret2
 exact ⟨by first | rfl | (simp [errW_none, errW_some] <;> rfl) | (simp [*, errW_none, errW_some] <;> rfl), zB HB.out⟩
 }
 {
 rw [if_neg c5] at H
 have c5b0 : (t208 == 0) = false := beq_eq_false_iff_ne.mpr c5
 have c5b1 : (t208 != 0) = true := bne_iff_ne.mpr c5
 simp only [Option.some.injEq, Prod.mk.injEq] at H
 obtain ⟨rfl, rfl⟩ := H
 go_enter Tryz.func7, Tryz.ntmps7
 go_wp2_with (first | ((with_reducible refine gate_dst (N := 9) rfl ?_); refine Kd.R_lit Kd.string _ 9 ?hg (N := 9) ?hd (xs := ([a1] : List ByteArray)) (inner := [.string a1]) (ok := fun _ => True) (okp := fun _ => True) ?hr ?hp (fun _ hk => hk) trivial (Below.refl _ _) (Nat.le_refl _) (by simp) ?_; (case hd => rfl); (case hg => rfl); (case hr => first | (go_simp; done) | (go_simp; rfl)); (case hp => exact (Reps.one (show Kd.M Kd.string _ _ _ a1 [.string a1] from rfl) (Reps.none _ _))); intro v206 w12 ho13 hb hg_ hnew_; clear hg_ hnew_; (first | rw [← Ny205.out] at ho13 | (simp only [Int.reduceToNat] at ho13; rw [← Ny205.out] at ho13)); have HO207 := ak (Kd.R_lower ho13 (below_size (zB HB.out))); replace BK977 := kK BK977 hb; replace HB := kB HB hb; clear hb ho13; obtain ⟨Ao14, co14, eo14⟩ := Kd.R_slice HO207.out; subst eo14) | ((with_reducible refine gate_callee (f := 32) rfl ?_); refine goesL_ (some 10) rfl rfl Tryz.func32 (by kernel_rfl) rfl #[.slice A0 l0.length c0, .slice Ao14 y205.length co14] rfl gl_ ?_; (with_reducible refine (impl_chainCode.calls k _ _ l0 _ _ y205 t208 _ ?side1 ?side2 ?side3 ?side4 A4.out).mono ?_); (case side1 => exact sQ (Kd.C_below HR0.out HB.out)); (case side2 => exact HC0.out); (case side3 => exact sC HO207); (case side4 => exact sL HO207); rintro e w15 ⟨rfl, hb⟩; refine ⟨_, rfl, ?_⟩; replace HO207 := kR HO207 hb; replace BK977 := kK BK977 hb; replace HB := kB HB hb; (try clear hb)))
 go_ret2
 exact ⟨by first | rfl | (simp [errW_none, errW_some] <;> rfl) | (simp [*, errW_none, errW_some] <;> rfl), zB HB.out⟩
 }
/-! ### spec_l04Letter: function 76 -/
def spec_l04Letter.f (a0 : Int) : Option (Bool) := if a0 ≥ 97 then (some (decide (a0 ≤ 122))) else (some false)
set_option maxHeartbeats 8000000 in
set_option maxRecDepth 100000 in
theorem spec_l04Letter.calls (a0 : Int) (r : Bool) (w : World) (h : spec_l04Letter.f a0 = some r) :
    Calls Tryz.prog 76 #[.int .u8 a0] w fun e w' => e = .returned (.bool r) ∧ Drawn0 w w' := by
 have H := h
 unfold spec_l04Letter.f at H
 clear h
 by_cases c2 : a0 ≥ 97
 {
 rw [if_pos c2] at H
 have c2b0 : decide (97 ≤ a0) = true := decide_eq_true c2
 clear c2
 obtain rfl := Option.some.inj H
 go_enter Tryz.func76, Tryz.ntmps76
 go_wp2
 go_ret
 exact ⟨by first | rfl | (simp; done) | (simp [*]; done), by repeat (first | exact Drawn0.refl _ | apply Drawn0.step)⟩
 }
 {
 rw [if_neg c2] at H
 have c2b0 : decide (97 ≤ a0) = false := decide_eq_false c2
 clear c2
 obtain rfl := Option.some.inj H
 go_enter Tryz.func76, Tryz.ntmps76
 go_wp2
 go_ret
 exact ⟨by first | rfl | (simp; done) | (simp [*]; done), by repeat (first | exact Drawn0.refl _ | apply Drawn0.step)⟩
 }
end Go.Proofs.YtobickehjnogjaaGreatDoor.P
