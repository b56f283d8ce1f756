-- Printed by wip/print (my turned copy of the kit's print) out of the translation; Lean checks it.
import Derived.Test.YtobickehjnogjaaGreatDoorP0
import Derived.Test.YtobickehjnogjaaGreatDoorP3
import Derived.Test.YtobickehjnogjaaGreatDoorP4
import Derived.Test.YtobickehjnogjaaGreatDoorP11
namespace Go.Proofs.YtobickehjnogjaaGreatDoor.P
open Go.RowKit Go.Proofs.YtobickehjnogjaaGreatDoorW.PrintWords Go.Proofs.YtobickehjnogjaaGreatDoorW.PrintLast Go.Proofs.YtobickehjnogjaaGreatDoorW.PrintMore
attribute [local go_sem] max2_int min2_int max_two min_two max_three min_three max_four min_four   -- for this text's walks alone
set_option linter.unusedVariables false
set_option linter.unusedSimpArgs false

/-! ### impl_Habit_pasts_1: function 68 -/
def impl_Habit_pasts_1.f (k : Nat) (a0 : ByteArray) (a1_0 : Int) (a1_1 : Int) (a1_2 : Int) (a2_0 : ByteArray) (a977_0 : Int) : Option (Bool) := (impl_IsWord.f k a0).bind fun t352 => (if t352 = true then ((impl_Habit_hear.f a1_0 a1_1 a1_2 a0 a977_0).bind fun t353 => (some (t353.toList != a2_0.toList))) else (some true))
def impl_Habit_pasts_1.T1 : Bool × List (List Nat × List Nat) := (true, [([], []), ([0], [0]), ([1], [1]), ([2, 1], [2]), ([3], [3]), ([3], [3]), ([4, 5, 3, 3], [3, 4, 5]), ([3], [3]), ([6, 7, 3], [3, 6, 7]), ([3, 8], [3, 8]), ([9, 6, 0, 1, 2, 3, 4, 5, 6, 7, 8, 9], [9])])
def impl_Habit_pasts_1.B1 : List Nat := [0, 1, 3, 7, 15, 15, 63, 15, 255, 511, 1023]
theorem impl_Habit_pasts_1.tab1 : rtab .any (opsOf Tryz.f68 1) = impl_Habit_pasts_1.T1 := by kernel_rfl
theorem impl_Habit_pasts_1.bits1 : waitsOk impl_Habit_pasts_1.T1.2 impl_Habit_pasts_1.B1 = true := by kernel_rfl
set_option maxHeartbeats 8000000 in
set_option maxRecDepth 100000 in
theorem impl_Habit_pasts_1.calls (k : Nat) (a0 : ByteArray) (b1 : Nat) (a1_0 : Int) (a1_1 : Int) (a1_2 : Int) (b2 : Nat) (a2_0 : ByteArray) (a977_0 : Int) (r : Bool) (w : World) (hx1 : w.heap[b1]? = some (.cells #[.int .i8 a1_0, .int .u8 a1_1, .int .u8 a1_2] 40 (0, 0))) (hx2 : w.heap[b2]? = some (.cells #[.string a2_0] 9 (0, 0))) (hx977 : w.heap[0]? = some (.cells #[.int .i64 a977_0] 3 (0, 0))) (h : impl_Habit_pasts_1.f k a0 a1_0 a1_1 a1_2 a2_0 a977_0 = some r) :
    Calls Tryz.prog 68 #[.string a0, .pointer (some ⟨b1, 0, none⟩), .pointer (some ⟨b2, 0, none⟩)] w fun e w' => e = .returned (.bool r) ∧ Below w.heap.size w w' := by
 have hu40 := Tryz.underlying40
 have BK1 := ak hx1
 clear hx1
 have BK2 := ak hx2
 clear hx2
 have BK977 := ak hx977
 clear hx977
 have HB := ak (Below.refl w.heap.size w)
 have H := h
 unfold impl_Habit_pasts_1.f at H
 clear h
 replace H := Option.bind_eq_some_iff.mp H
 obtain ⟨t352, A50, H⟩ := H
 have A5 := ak A50
 clear A50
 by_cases c6 : t352 = true
 {
 subst c6
 rw [if_pos rfl] at H
 replace H := Option.bind_eq_some_iff.mp H
 obtain ⟨t353, A70, H⟩ := H
 have A7 := ak A70
 clear A70
 obtain rfl := Option.some.inj H
 go_enter Tryz.func68, Tryz.ntmps68
 try go_wp2
 replace BK1 := ak (blk_drew BK1.out)
 replace BK2 := ak (blk_drew BK2.out)
 replace BK977 := ak (blk_drew BK977.out)
 replace HB := ak (below_drew1 HB.out)
 refine start_ (n := 11) (S := fun w' => w'.cell? ⟨b1, 0, none⟩ = some (.int .i8 a1_0) ∧ w'.cell? ⟨b1, 1, none⟩ = some (.int .u8 a1_1) ∧ w'.cell? ⟨b1, 2, none⟩ = some (.int .u8 a1_2) ∧ w'.cell? ⟨b2, 0, none⟩ = some (.string a2_0)) (ds := []) (bA 11 0) (by kernel_rfl) rfl rfl ⟨(blk_cell BK1.out 0).trans rfl, (blk_cell BK1.out 1).trans rfl, (blk_cell BK1.out 2).trans rfl, (blk_cell BK2.out 0).trans rfl⟩ (fun hHeld => ?_); refine with_tabW impl_Habit_pasts_1.tab1 impl_Habit_pasts_1.bits1 (fun HT_ HW_ => ?_)
 generalize w.drew = w8 at BK1 BK2 BK977 HB hHeld ⊢
 refine pU 0 5 (bA 11 1) HT_ ?_
 refine one_ (i := 1) (N := some 6) (bA 11 3) rfl rfl (one_of HT_.out (by kernel_rfl)) (by decide) (fun K hK => ?_)
 refine goes_ Tryz.func13 (by kernel_rfl) rfl #[.string a0] (by rfl) rfl rfl gl_ ?_
 with_reducible refine (impl_IsWord.calls k a0 true _ A5.out).mono ?_
 rintro e w' ⟨rfl, ⟨nd, rfl⟩⟩
 refine ⟨_, rfl, ?_⟩
 refine hK.out _ _ ⟨(blk_cell BK1.out 0).trans rfl, (blk_cell BK1.out 1).trans rfl, (blk_cell BK1.out 2).trans rfl, (blk_cell BK2.out 0).trans rfl⟩ (fun hHeld => ?_)
 clear hK K
 refine norm_ (a' := ?_) ?_ ?_
 rotate_left
 {
 show Act.put _ (some 6) _ = _
 simp only [Act.put, zs, zz, zk, i64_w, i32_w]
 rfl
 }
 refine pU 2 7 (bA 11 7) HT_ ?_
 refine pU 3 8 (bA 11 15) HT_ ?_
 refine pU 5 10 (bA 11 47) HT_ ?_
 refine tK 4 9 (bA 11 63) HT_ HW_ hHeld ?_
 refine tK 7 12 (bA 11 191) HT_ HW_ hHeld ?_
 refine one_ (i := 6) (N := some 11) (bA 11 255) rfl rfl (one_of HT_.out (by kernel_rfl)) (by decide) (fun K hK => ?_)
 refine goes_ Tryz.func44 (by kernel_rfl) rfl #[.agg #[.int .i8 a1_0, .int .u8 a1_1, .int .u8 a1_2], .string a0] (by rfl) rfl rfl gl_ ?_
 with_reducible refine (impl_Habit_hear.calls a1_0 a1_1 a1_2 a0 a977_0 t353 _ ?side1 A7.out).mono ?_
 (case side1 => exact (zK BK977.out))
 rintro e w9 ⟨rfl, hb⟩
 refine ⟨_, rfl, ?_⟩
 replace BK1 := kK BK1 hb
 replace BK2 := kK BK2 hb
 replace BK977 := kK BK977 hb
 replace HB := kB HB hb
 (try clear hb)
 refine hK.out _ _ ⟨(blk_cell BK1.out 0).trans rfl, (blk_cell BK1.out 1).trans rfl, (blk_cell BK1.out 2).trans rfl, (blk_cell BK2.out 0).trans rfl⟩ (fun hHeld => ?_)
 clear hK K
 refine norm_ (a' := ?_) ?_ ?_
 rotate_left
 {
 show Act.put _ (some 11) _ = _
 simp only [Act.put, zs, zz, zk, i64_w, i32_w]
 rfl
 }
 refine pU 8 13 (bA 11 511) HT_ ?_
 refine pU 9 14 (bA 11 1023) HT_ ?_
 refine pU 10 4 (bA 11 2047) HT_ ?_
 refine done_ (done_of HT_.out (by kernel_rfl)) ?_
 try go_wp2
 go_ret
 exact ⟨by first | rfl | (simp [errW_none, errW_some] <;> rfl) | (simp [*, errW_none, errW_some] <;> rfl), zB HB.out⟩
 }
 {
 replace c6 := Bool.eq_false_iff.mpr c6
 subst c6
 rw [if_neg (show ¬ (false = true) by decide)] at H
 obtain rfl := Option.some.inj H
 go_enter Tryz.func68, Tryz.ntmps68
 try go_wp2
 replace BK1 := ak (blk_drew BK1.out)
 replace BK2 := ak (blk_drew BK2.out)
 replace BK977 := ak (blk_drew BK977.out)
 replace HB := ak (below_drew1 HB.out)
 refine start_ (n := 11) (S := fun w' => True) (ds := []) (bA 11 0) (by kernel_rfl) rfl rfl trivial (fun hHeld => ?_); refine with_tabW impl_Habit_pasts_1.tab1 impl_Habit_pasts_1.bits1 (fun HT_ HW_ => ?_)
 generalize w.drew = w10 at BK1 BK2 BK977 HB hHeld ⊢
 refine pU 0 5 (bA 11 1) HT_ ?_
 refine one_ (i := 1) (N := some 6) (bA 11 3) rfl rfl (one_of HT_.out (by kernel_rfl)) (by decide) (fun K hK => ?_)
 refine goes_ Tryz.func13 (by kernel_rfl) rfl #[.string a0] (by rfl) rfl rfl gl_ ?_
 with_reducible refine (impl_IsWord.calls k a0 false _ A5.out).mono ?_
 rintro e w' ⟨rfl, ⟨nd, rfl⟩⟩
 refine ⟨_, rfl, ?_⟩
 refine hK.out _ _ trivial (fun hHeld => ?_)
 clear hK K
 refine norm_ (a' := ?_) ?_ ?_
 rotate_left
 {
 show Act.put _ (some 6) _ = _
 simp only [Act.put, zs, zz, zk, i64_w, i32_w]
 rfl
 }
 refine pU 2 7 (bA 11 7) HT_ ?_
 refine pU 3 8 (bA 11 15) HT_ ?_
 refine pN 4 9 (bA 11 31) HT_ ?_
 refine pN 5 10 (bA 11 63) HT_ ?_
 refine pN 6 11 (bA 11 127) HT_ ?_
 refine pN 7 12 (bA 11 255) HT_ ?_
 refine pN 8 13 (bA 11 511) HT_ ?_
 refine pU 9 14 (bA 11 1023) HT_ ?_
 refine pU 10 4 (bA 11 2047) HT_ ?_
 refine done_ (done_of HT_.out (by kernel_rfl)) ?_
 try go_wp2
 go_ret
 exact ⟨by first | rfl | (simp [errW_none, errW_some] <;> rfl) | (simp [*, errW_none, errW_some] <;> rfl), zB HB.out⟩
 }
/-! ### slices_IndexFunc_Sstring_string_at_pasts_1: function 75 -/
def slices_IndexFunc_Sstring_string_at_pasts_1.l0 : Nat → List ByteArray → Int → Int → Int → Int → Int → ByteArray → Int → Option (Int)
  | 0, _, _, _, _, _, _, _, _ => none
  | k + 1, x0, x7, x8, x41000, x41001, x41002, x42000, x978000 => if x8 < x7 then (if 0 ≤ x8 then (if x8 < (x0.length : Int) then ((impl_Habit_pasts_1.f k (rdOf ByteArray.empty x0 x8) x41000 x41001 x41002 x42000 x978000).bind fun t355 => (if t355 = true then (some x8) else (slices_IndexFunc_Sstring_string_at_pasts_1.l0 k x0 x7 (wrap64 (x8 + 1)) x41000 x41001 x41002 x42000 x978000))) else (none)) else (none)) else (some (-1))
def slices_IndexFunc_Sstring_string_at_pasts_1.f (k : Nat) (l0 : List ByteArray) (a40_0 : Int) (a40_1 : Int) (a40_2 : Int) (a41_0 : ByteArray) (a977_0 : Int) : Option (Int) := slices_IndexFunc_Sstring_string_at_pasts_1.l0 k l0 (l0.length : Int) 0 a40_0 a40_1 a40_2 a41_0 a977_0
set_option maxHeartbeats 8000000 in
set_option maxRecDepth 100000 in
theorem slices_IndexFunc_Sstring_string_at_pasts_1.calls (k : Nat) (A0 : Option Addr) (c0 : Nat) (l0 : List ByteArray) (b40 : Nat) (b41 : Nat) (a40_0 : Int) (a40_1 : Int) (a40_2 : Int) (a41_0 : ByteArray) (a977_0 : Int) (r : Int) (w : World) (hr0 : Kd.C Kd.string w A0 l0.length l0) (hc0 : l0.length ≤ c0) (hx40 : w.heap[b40]? = some (.cells #[.int .i8 a40_0, .int .u8 a40_1, .int .u8 a40_2] 40 (0, 0))) (hx41 : w.heap[b41]? = some (.cells #[.string a41_0] 9 (0, 0))) (hx977 : w.heap[0]? = some (.cells #[.int .i64 a977_0] 3 (0, 0))) (h : slices_IndexFunc_Sstring_string_at_pasts_1.f k l0 a40_0 a40_1 a40_2 a41_0 a977_0 = some r) :
    Calls Tryz.prog 75 #[.slice A0 l0.length c0, .func (.func 68) #[] #[.pointer (some ⟨b40, 0, none⟩), .pointer (some ⟨b41, 0, none⟩)]] w fun e w' => e = .returned (.int .i64 r) ∧ Below w.heap.size w w' := by
 have HR0 := ak hr0
 have HC0 := ak hc0
 clear hr0 hc0
 have BK40 := ak hx40
 clear hx40
 have BK41 := ak hx41
 clear hx41
 have BK977 := ak hx977
 clear hx977
 have HB := ak (Below.refl w.heap.size w)
 have H := h
 unfold slices_IndexFunc_Sstring_string_at_pasts_1.f at H
 clear h
 have H' := ak H
 clear H
 go_enter Tryz.func75, Tryz.ntmps75
 go_wp2
 go_loopg [8] k (fun kq v8 w' => ∃ (x8_1 : Int), v8 = .int .i64 x8_1 ∧ Aside0 (slices_IndexFunc_Sstring_string_at_pasts_1.l0 kq l0 (l0.length : Int) x8_1 a40_0 a40_1 a40_2 a41_0 a977_0 = some r) ∧ Aside0 (kq ≤ k) ∧ Aside0 (w'.heap[b40]? = some (.cells #[.int .i8 a40_0, .int .u8 a40_1, .int .u8 a40_2] 40 (0, 0))) ∧ Aside0 (w'.heap[b41]? = some (.cells #[.string a41_0] 9 (0, 0))) ∧ Aside0 (w'.heap[0]? = some (.cells #[.int .i64 a977_0] 3 (0, 0))) ∧ Aside0 (Below w.heap.size w w'))
 case atStart => exact ⟨(0), (by first | rfl | (simp; done) | (simp [*]; done)), H', ⟨Nat.le_refl _⟩, ⟨(zK BK40.out)⟩, ⟨(zK BK41.out)⟩, ⟨(zK BK977.out)⟩, ⟨zB HB.out⟩⟩
 case round => (
 clear H'
 obtain ⟨x8_1, rfl, HA, HK1, BK40, BK41, BK977, HB⟩ := hrel
 cases gk with
 | zero => exact absurd HA.out (by simp [slices_IndexFunc_Sstring_string_at_pasts_1.l0])
 | succ k1 => (
 have H := HA.out
 clear HA
 simp only [slices_IndexFunc_Sstring_string_at_pasts_1.l0] at H
 by_cases c4 : x8_1 < (l0.length : Int)
 {
 rw [if_pos c4] at H
 have c4b0 : decide (x8_1 < (l0.length : Int)) = true := decide_eq_true c4
 clear c4
 by_cases c5 : 0 ≤ x8_1
 {
 rw [if_pos c5] at H
 have c5b0 : decide (0 ≤ x8_1) = true := decide_eq_true c5
 clear c5
 by_cases c6 : x8_1 < (l0.length : Int)
 {
 rw [if_pos c6] at H
 have c6b0 : decide (x8_1 < (l0.length : Int)) = true := decide_eq_true c6
 clear c6
 replace H := Option.bind_eq_some_iff.mp H
 obtain ⟨t355, A70, H⟩ := H
 have A7 := ak A70
 clear A70
 by_cases c8 : t355 = true
 {
 subst c8
 rw [if_pos rfl] at H
 obtain rfl := Option.some.inj H
 have p354 : 0 ≤ (x8_1 : Int) := of_decide_eq_true (by first | (with_reducible assumption) | assumption)
 have q354 : x8_1 < (l0.length : Int) := of_decide_eq_true (by first | (with_reducible assumption) | assumption)
 obtain ⟨ad354, e354, hx354_0⟩ := Kd.at_string HR0.out x8_1 p354 q354
 cases e354
 replace hx354_0 := (HB.out.cell (World.block_lt_of_cell? w _ hx354_0)).trans hx354_0
 replace p354 := eq_true p354
 replace q354 := eq_true q354
 go_wp2_with (first | ((with_reducible refine gate_tmpcall (t := 11) rfl ?_); refine goesF_ (some 16) rfl rfl Tryz.func68 (by kernel_rfl) rfl #[.pointer (some ⟨b40, 0, none⟩), .pointer (some ⟨b41, 0, none⟩)] #[.string (rdOf ByteArray.empty l0 x8_1), .pointer (some ⟨b40, 0, none⟩), .pointer (some ⟨b41, 0, none⟩)] rfl (by first | rfl | (go_simp; done) | (go_simp; rfl)) (by (try simp only [List.map_toArray, List.map_cons, List.map_nil]); first | done | rfl | (simp only [List.length_drop, List.length_take]; rfl) | (go_simp; done)) ?_; (with_reducible refine (impl_Habit_pasts_1.calls k1 (rdOf ByteArray.empty l0 x8_1) b40 a40_0 a40_1 a40_2 b41 a41_0 a977_0 true _ ?side1 ?side2 ?side3 A7.out).mono ?_); (case side1 => exact (zK BK40.out)); (case side2 => exact (zK BK41.out)); (case side3 => exact (zK BK977.out)); rintro e w9 ⟨rfl, hb⟩; refine ⟨_, rfl, ?_⟩; replace BK40 := kK BK40 hb; replace BK41 := kK BK41 hb; replace BK977 := kK BK977 hb; replace HB := kB HB hb; (try clear hb)))
 go_ret
 exact ⟨by first | rfl | (simp [errW_none, errW_some] <;> rfl) | (simp [*, errW_none, errW_some] <;> rfl), zB HB.out⟩
 }
 {
 replace c8 := Bool.eq_false_iff.mpr c8
 subst c8
 rw [if_neg (show ¬ (false = true) by decide)] at H
 have H' := ak H
 clear H
 have p354 : 0 ≤ (x8_1 : Int) := of_decide_eq_true (by first | (with_reducible assumption) | assumption)
 have q354 : x8_1 < (l0.length : Int) := of_decide_eq_true (by first | (with_reducible assumption) | assumption)
 obtain ⟨ad354, e354, hx354_0⟩ := Kd.at_string HR0.out x8_1 p354 q354
 cases e354
 replace hx354_0 := (HB.out.cell (World.block_lt_of_cell? w _ hx354_0)).trans hx354_0
 replace p354 := eq_true p354
 replace q354 := eq_true q354
 go_wp2_with (first | ((with_reducible refine gate_tmpcall (t := 11) rfl ?_); refine goesF_ (some 16) rfl rfl Tryz.func68 (by kernel_rfl) rfl #[.pointer (some ⟨b40, 0, none⟩), .pointer (some ⟨b41, 0, none⟩)] #[.string (rdOf ByteArray.empty l0 x8_1), .pointer (some ⟨b40, 0, none⟩), .pointer (some ⟨b41, 0, none⟩)] rfl (by first | rfl | (go_simp; done) | (go_simp; rfl)) (by (try simp only [List.map_toArray, List.map_cons, List.map_nil]); first | done | rfl | (simp only [List.length_drop, List.length_take]; rfl) | (go_simp; done)) ?_; (with_reducible refine (impl_Habit_pasts_1.calls k1 (rdOf ByteArray.empty l0 x8_1) b40 a40_0 a40_1 a40_2 b41 a41_0 a977_0 false _ ?side1 ?side2 ?side3 A7.out).mono ?_); (case side1 => exact (zK BK40.out)); (case side2 => exact (zK BK41.out)); (case side3 => exact (zK BK977.out)); rintro e w10 ⟨rfl, hb⟩; refine ⟨_, rfl, ?_⟩; replace BK40 := kK BK40 hb; replace BK41 := kK BK41 hb; replace BK977 := kK BK977 hb; replace HB := kB HB hb; (try clear hb)))
 go_roundg k1
 case measure => have := HK1.out; omega
 case rel => exact ⟨(wrap64 (x8_1 + 1)), (by first | rfl | (simp; done) | (simp [*]; done)), H', ⟨by have := HK1.out; omega⟩, ⟨(zK BK40.out)⟩, ⟨(zK BK41.out)⟩, ⟨(zK BK977.out)⟩, ⟨zB HB.out⟩⟩
 }
 }
 · rw [if_neg c6] at H; exact absurd H (by simp)
 }
 · rw [if_neg c5] at H; exact absurd H (by simp)
 }
 {
 rw [if_neg c4] at H
 have c4b0 : decide (x8_1 < (l0.length : Int)) = false := decide_eq_false c4
 clear c4
 obtain rfl := Option.some.inj H
 go_wp2
 go_ret
 exact ⟨by first | rfl | (simp [errW_none, errW_some] <;> rfl) | (simp [*, errW_none, errW_some] <;> rfl), zB HB.out⟩
 }
 )
 )
/-! ### impl_Habit_pasts: function 45 -/
def impl_Habit_pasts.f (k : Nat) (a0_0 : Int) (a0_1 : Int) (a0_2 : Int) (a1 : ByteArray) (a977_0 : Int) : Option (List ByteArray) := (impl_Habit_tries.f k a0_0 a0_1 a0_2 a1).bind fun ts => (if 0 < ts.length then ((slices_IndexFunc_Sstring_string_at_pasts_1.f k ts a0_0 a0_1 a0_2 a1 a977_0).bind fun i => ((Go.Proofs.YtobickehjnogjaaGreatDoor.H.delRest (fun s => impl_Habit_pasts_1.f k s a0_0 a0_1 a0_2 a1 a977_0) ts i).bind fun l => (if l.length ≤ 1000000000 then some (Go.Proofs.YtobickehjnogjaaGreatDoor.H.unB (Lib.compact (Go.Proofs.YtobickehjnogjaaGreatDoor.H.sortB l))) else none))) else none)
set_option maxHeartbeats 8000000 in
set_option maxRecDepth 1000000 in
theorem impl_Habit_pasts.calls2 (k : Nat) (a0_0 : Int) (a0_1 : Int) (a0_2 : Int) (a1 : ByteArray) (a977_0 : Int) (r : List ByteArray) (w : World) (hx977 : w.heap[0]? = some (.cells #[.int .i64 a977_0] 3 (0, 0))) (h : impl_Habit_pasts.f k a0_0 a0_1 a0_2 a1 a977_0 = some r) :
    Calls Tryz.prog 45 #[.agg #[.int .i8 a0_0, .int .u8 a0_1, .int .u8 a0_2], .string a1] w fun e w' => ∃ g cap, e = .returned (.slice (some ⟨g, 0, none⟩) r.length cap) ∧ w.heap.size ≤ g ∧ Go.Proofs.YtobickehjnogjaaGreatDoor.H.RowS w' g cap r ∧ Below w.heap.size w w' := by
  unfold impl_Habit_pasts.f at h
  obtain ⟨ts, hts, h⟩ := Option.bind_eq_some_iff.mp h
  by_cases c0 : 0 < ts.length
  · rw [if_pos c0] at h
    obtain ⟨i, hi, h⟩ := Option.bind_eq_some_iff.mp h
    obtain ⟨l, hl, h⟩ := Option.bind_eq_some_iff.mp h
    by_cases c1 : l.length ≤ 1000000000
    · rw [if_pos c1] at h
      have hr := Option.some.inj h
      have h0 : 0 < w.heap.size := by
        rcases Nat.lt_or_ge 0 w.heap.size with e | e
        · exact e
        · rw [Array.getElem?_eq_none e] at hx977; cases hx977
      have hB0 : Below w.heap.size w ((w.alloc (.cells #[.int .i8 a0_0, .int .u8 a0_1, .int .u8 a0_2] 40)).alloc (.cells #[.string a1] 9)) := (Below.refl _ _).alloc (Nat.le_refl _) _ |>.alloc (by simp) _
      have hsz : (((w.alloc (.cells #[.int .i8 a0_0, .int .u8 a0_1, .int .u8 a0_2] 40)).alloc (.cells #[.string a1] 9))).heap.size = w.heap.size + 2 := by simp
      have hs1 : (w.alloc (.cells #[.int .i8 a0_0, .int .u8 a0_1, .int .u8 a0_2] 40)).heap.size = w.heap.size + 1 := by simp
      have hb1 : (((w.alloc (.cells #[.int .i8 a0_0, .int .u8 a0_1, .int .u8 a0_2] 40)).alloc (.cells #[.string a1] 9))).heap[w.heap.size]? = some (.cells #[.int .i8 a0_0, .int .u8 a0_1, .int .u8 a0_2] 40 (0, 0)) := (((Below.refl (w.heap.size + 1) (w.alloc (.cells #[.int .i8 a0_0, .int .u8 a0_1, .int .u8 a0_2] 40))).alloc (Nat.le_of_eq hs1.symm) _).block w.heap.size (Nat.lt_succ_self _)).trans (heap_alloc_new w _)
      have hb2 : (((w.alloc (.cells #[.int .i8 a0_0, .int .u8 a0_1, .int .u8 a0_2] 40)).alloc (.cells #[.string a1] 9))).heap[w.heap.size + 1]? = some (.cells #[.string a1] 9 (0, 0)) := by have z_ := heap_alloc_new (w.alloc (.cells #[.int .i8 a0_0, .int .u8 a0_1, .int .u8 a0_2] 40)) (.cells #[.string a1] 9); rw [hs1] at z_; exact z_
      have hg0 : (((w.alloc (.cells #[.int .i8 a0_0, .int .u8 a0_1, .int .u8 a0_2] 40)).alloc (.cells #[.string a1] 9))).heap[0]? = some (.cells #[.int .i64 a977_0] 3 (0, 0)) := (hB0.block _ h0).trans hx977
      have htr := impl_Habit_tries.calls k a0_0 a0_1 a0_2 a1 ts ((w.alloc (.cells #[.int .i8 a0_0, .int .u8 a0_1, .int .u8 a0_2] 40)).alloc (.cells #[.string a1] 9)) hts
      have hcl : ∀ W x q, Below (w.heap.size + 2) ((w.alloc (.cells #[.int .i8 a0_0, .int .u8 a0_1, .int .u8 a0_2] 40)).alloc (.cells #[.string a1] 9)) W → impl_Habit_pasts_1.f k x a0_0 a0_1 a0_2 a1 a977_0 = some q → Calls Tryz.prog 68 (#[.string x] ++ #[.pointer (some ⟨w.heap.size, 0, none⟩), .pointer (some ⟨w.heap.size + 1, 0, none⟩)]) W fun e w' => e = .returned (.bool q) ∧ Below W.heap.size W w' := fun W x q hb hq =>
        impl_Habit_pasts_1.calls k x w.heap.size a0_0 a0_1 a0_2 (w.heap.size + 1) a1 a977_0 q W ((hb.block _ (by omega)).trans hb1) ((hb.block _ (by omega)).trans hb2) ((hb.block _ (by omega)).trans hg0) hq
      have hdel : ∀ (v0 : Value) (w1 : World), Kd.R Kd.string 9 w1 (w.heap.size + 2) (fun _ => True) v0 ts → Below (w.heap.size + 2) ((w.alloc (.cells #[.int .i8 a0_0, .int .u8 a0_1, .int .u8 a0_2] 40)).alloc (.cells #[.string a1] 9)) w1 → Calls Tryz.prog 66 #[v0, .func (.func 68) #[] #[.pointer (some ⟨w.heap.size, 0, none⟩), .pointer (some ⟨w.heap.size + 1, 0, none⟩)]] w1 fun e w' => ∃ g cap, e = .returned (.slice (some ⟨g, 0, none⟩) l.length cap) ∧ w.heap.size ≤ g ∧ Below w.heap.size w w' ∧ Go.Proofs.YtobickehjnogjaaGreatDoor.H.RowS w' g cap l := by
        intro v0 w1 hR hB
        obtain ⟨g, cap, rfl, hg, hrow, hC, hle⟩ := Go.Proofs.YtobickehjnogjaaGreatDoor.H.rowS_of_R hR c0
        have hi' := slices_IndexFunc_Sstring_string_at_pasts_1.calls k (some ⟨g, 0, none⟩) cap ts w.heap.size (w.heap.size + 1) a0_0 a0_1 a0_2 a1 a977_0 i w1 hC hle ((hB.block _ (by omega)).trans hb1) ((hB.block _ (by omega)).trans hb2) ((hB.block _ (by omega)).trans hg0) hi
        refine (Go.Proofs.YtobickehjnogjaaGreatDoor.H.delstr_calls (fun s => impl_Habit_pasts_1.f k s a0_0 a0_1 a0_2 a1 a977_0) _ (w.heap.size + 2) g cap _ w1 hB hg ts hrow hcl i hi' l hl).mono ?_
        rintro e w' ⟨rfl, h2, h3⟩
        exact ⟨g, cap, rfl, by omega, hB0.trans (h2.mono (by omega)), h3⟩
      rw [hsz] at htr
      have HR : Aside _ := hr
      clear hcl hb1 hb2 hg0 hs1 hsz hl hi hts h hr c0 hB0
      go_enter Tryz.func45, Tryz.ntmps45
      go_wp2_with (first
        | (go_at_call 67; refine htr.mono ?_; rintro e w1 ⟨v0, rfl, hR, hB⟩; have hd := hdel v0 w1 hR hB; clear hR hB htr hdel)
        | (go_at_call 66; refine hd.mono ?_; rintro e w2 ⟨g, cap, rfl, hg, hB2, hrow⟩; have hs := Go.Proofs.YtobickehjnogjaaGreatDoor.H.sort_row hB2 hg hrow (by omega); have HG : Aside (w.heap.size ≤ g) := hg; clear hd hB2 hrow hg)
        | (go_at_call 49; refine hs.mono ?_; rintro e w3 ⟨rfl, hB3, hrow3⟩; have hc := Go.Proofs.YtobickehjnogjaaGreatDoor.H.compact_row hB3 HG.out hrow3; rw [Go.Proofs.YtobickehjnogjaaGreatDoor.H.sortB_length] at hc; clear hs hB3 hrow3)
        | (go_at_call 50; refine hc.mono ?_; rintro e w4 ⟨rfl, hB4, hrow4⟩; have HB4 : Aside (Below w.heap.size w w4) := hB4; have HR4 : Aside _ := hrow4; clear hc hB4 hrow4))
      go_ret
      rw [← HR.out]
      exact ⟨_, _, rfl, HG.out, HR4.out, HB4.out⟩
    · rw [if_neg c1] at h; cases h
  · rw [if_neg c0] at h; cases h
theorem impl_Habit_pasts.calls (k : Nat) (a0_0 : Int) (a0_1 : Int) (a0_2 : Int) (a1 : ByteArray) (a977_0 : Int) (r : List ByteArray) (w : World) (hx977 : w.heap[0]? = some (.cells #[.int .i64 a977_0] 3 (0, 0))) (h : impl_Habit_pasts.f k a0_0 a0_1 a0_2 a1 a977_0 = some r) :
    Calls Tryz.prog 45 #[.agg #[.int .i8 a0_0, .int .u8 a0_1, .int .u8 a0_2], .string a1] w fun e w' => ∃ v0_ : Value, e = .returned (v0_) ∧ Kd.R Kd.string 9 w' w.heap.size (fun _ => True) v0_ r ∧ Below w.heap.size w w' := by
 refine (impl_Habit_pasts.calls2 k a0_0 a0_1 a0_2 a1 a977_0 r w hx977 h).mono ?_
 rintro e w' ⟨g, cap, rfl, h1, h2, h3⟩
 exact ⟨_, rfl, Go.Proofs.YtobickehjnogjaaGreatDoor.H.R_of_rowS h2 h1, h3⟩
/-! ### impl_PastsOf: function 19 -/
def impl_PastsOf.j0 : Nat → ByteArray → Bool → Int → Int → Int → Int → Option (List ByteArray × Int)
  | 0, _, _, _, _, _, _ => none
  | k + 1, x1, x14, x357000, x357001, x357002, x978000 => if x14 = true then (some (([] : List ByteArray), 1)) else ((impl_Habit_pasts.f k x357000 x357001 x357002 x1 x978000).bind fun t359 => (if (t359.length : Int) > 300 then (some (([] : List ByteArray), 3)) else (some (t359, 0))))
def impl_PastsOf.f (k : Nat) (a0_0 : Int) (a0_1 : Int) (a0_2 : Int) (a1 : ByteArray) (a977_0 : Int) : Option (List ByteArray × Int) := (impl_ValidHabit.f a0_0 a0_1 a0_2).bind fun t357 => (if t357 = true then ((impl_IsWord.f k a1).bind fun t358 => (impl_PastsOf.j0 k a1 (!t358) a0_0 a0_1 a0_2 a977_0)) else (impl_PastsOf.j0 k a1 true a0_0 a0_1 a0_2 a977_0))
set_option maxHeartbeats 8000000 in
set_option maxRecDepth 100000 in
theorem impl_PastsOf.calls (k : Nat) (a0_0 : Int) (a0_1 : Int) (a0_2 : Int) (a1 : ByteArray) (a977_0 : Int) (r1 : List ByteArray) (r2 : Int) (w : World) (hx977 : w.heap[0]? = some (.cells #[.int .i64 a977_0] 3 (0, 0))) (h : impl_PastsOf.f k a0_0 a0_1 a0_2 a1 a977_0 = some (r1, r2)) :
    Calls Tryz.prog 19 #[.agg #[.int .i8 a0_0, .int .u8 a0_1, .int .u8 a0_2], .string a1] w fun e w' => ∃ v0_ : Value, e = .returned (.tuple #[v0_, .int .i64 r2]) ∧ Kd.R Kd.string 9 w' w.heap.size (fun _ => True) v0_ r1 ∧ Below w.heap.size w w' := by
 have hu40 := Tryz.underlying40
 have BK977 := ak hx977
 clear hx977
 have HB := ak (Below.refl w.heap.size w)
 have H := h
 unfold impl_PastsOf.f at H
 clear h
 have HC4 := ak H
 clear H
 go_enter Tryz.func19, Tryz.ntmps19
 go_upto_region 1 with (first | ((with_reducible refine gate_dst (N := 2) rfl ?_); refine box_event ?hg (N := 2) ?hd (cs := #[.int .i8 a0_0, .int .u8 a0_1, .int .u8 a0_2]) (t := 40) ?hr ?_; (case hd => rfl); (case hg => rfl); (case hr => first | (go_simp; done) | (go_simp; rfl)); intro gb356 hg w5 hbox hb; have BK356 := ak (hbox); have GW356 := gS HB hg; have GE356 := gS HB hg; have NB977_356 := nL BK977 hg; have NB356_977 := nG BK977 hg; replace BK977 := kK BK977 hb; replace HB := kB HB hb; clear hb hbox hg))
 (try simp only [Act.put, zs, zz, zk])
 go_cut [14] (fun v14 wc => ∃ (kq : Nat) (x14_3 : Bool), v14 = .bool x14_3 ∧ Aside0 (impl_PastsOf.j0 kq a1 x14_3 a0_0 a0_1 a0_2 a977_0 = some (r1, r2)) ∧ Aside0 (kq ≤ k) ∧ Aside0 (wc.heap[0]? = some (.cells #[.int .i64 a977_0] 3 (0, 0))) ∧ Aside0 (wc.heap[gb356]? = some (.cells #[.int .i8 a0_0, .int .u8 a0_1, .int .u8 a0_2] 40 (0, 0))) ∧ Aside0 (Below w.heap.size w wc))
 case first => (
 have H := HC4.out
 clear HC4
 replace H := Option.bind_eq_some_iff.mp H
 obtain ⟨t357, A60, H⟩ := H
 have A6 := ak A60
 clear A60
 by_cases c7 : t357 = true
 {
 subst c7
 rw [if_pos rfl] at H
 replace H := Option.bind_eq_some_iff.mp H
 obtain ⟨t358, A80, H⟩ := H
 have A8 := ak A80
 clear A80
 have H' := ak H
 clear H
 have hnb9 := NB356_977.out
 have hnc9 := NB977_356.out
 have hcz10_0 : w5.cell? ⟨gb356, 0, none⟩ = some (.int .i8 a0_0) := (blk_cell BK356.out 0).trans rfl
 have hcz10_1 : w5.cell? ⟨gb356, 1, none⟩ = some (.int .u8 a0_1) := (blk_cell BK356.out 1).trans rfl
 have hcz10_2 : w5.cell? ⟨gb356, 2, none⟩ = some (.int .u8 a0_2) := (blk_cell BK356.out 2).trans rfl
 have hfz10_0 := blk_frozen BK356.out 0
 have hfz10_1 := blk_frozen BK356.out 1
 have hfz10_2 := blk_frozen BK356.out 2
 go_wp2_with (first | ((with_reducible refine gate_callee (f := 21) rfl ?_); refine goesL_ (some 8) rfl rfl Tryz.func21 (by kernel_rfl) rfl #[.agg #[.int .i8 a0_0, .int .u8 a0_1, .int .u8 a0_2]] rfl gl_ ?_; (with_reducible refine (impl_ValidHabit.calls a0_0 a0_1 a0_2 true _ A6.out).mono ?_); rintro e w11 ⟨rfl, hb⟩; refine ⟨_, rfl, ?_⟩; replace BK977 := kK BK977 hb; replace BK356 := kK BK356 hb; replace HB := kB1 HB GE356 hb; (try clear hb)) | (go_at_call 13; (with_reducible refine (impl_IsWord.calls k a1 t358 _ A8.out).mono ?_); rintro e w' ⟨rfl, ⟨nd, rfl⟩⟩))
 go_meet
 case rel => exact ⟨_, (!t358), (by first | rfl | (simp; done) | (simp [*]; done)), H', ⟨by first | omega | exact Nat.le_refl _⟩, ⟨(zK BK977.out)⟩, ⟨(zK BK356.out)⟩, ⟨zBG HB.out GE356.out⟩⟩
 }
 {
 replace c7 := Bool.eq_false_iff.mpr c7
 subst c7
 rw [if_neg (show ¬ (false = true) by decide)] at H
 have H' := ak H
 clear H
 have hnb12 := NB356_977.out
 have hnc12 := NB977_356.out
 have hcz13_0 : w5.cell? ⟨gb356, 0, none⟩ = some (.int .i8 a0_0) := (blk_cell BK356.out 0).trans rfl
 have hcz13_1 : w5.cell? ⟨gb356, 1, none⟩ = some (.int .u8 a0_1) := (blk_cell BK356.out 1).trans rfl
 have hcz13_2 : w5.cell? ⟨gb356, 2, none⟩ = some (.int .u8 a0_2) := (blk_cell BK356.out 2).trans rfl
 have hfz13_0 := blk_frozen BK356.out 0
 have hfz13_1 := blk_frozen BK356.out 1
 have hfz13_2 := blk_frozen BK356.out 2
 go_wp2_with (first | ((with_reducible refine gate_callee (f := 21) rfl ?_); refine goesL_ (some 8) rfl rfl Tryz.func21 (by kernel_rfl) rfl #[.agg #[.int .i8 a0_0, .int .u8 a0_1, .int .u8 a0_2]] rfl gl_ ?_; (with_reducible refine (impl_ValidHabit.calls a0_0 a0_1 a0_2 false _ A6.out).mono ?_); rintro e w14 ⟨rfl, hb⟩; refine ⟨_, rfl, ?_⟩; replace BK977 := kK BK977 hb; replace BK356 := kK BK356 hb; replace HB := kB1 HB GE356 hb; (try clear hb)))
 go_meet
 case rel => exact ⟨_, (true), (by first | rfl | (simp; done) | (simp [*]; done)), H', ⟨by first | omega | exact Nat.le_refl _⟩, ⟨(zK BK977.out)⟩, ⟨(zK BK356.out)⟩, ⟨zBG HB.out GE356.out⟩⟩
 }
 )
 case rest => (
 clear HC4
 obtain ⟨kq, x14_3, rfl, HA, HJ3, BK977, BK356, HB⟩ := hcut
 cases kq with
 | zero => exact absurd HA.out (by simp [impl_PastsOf.j0])
 | succ kj3 => (
 have H := HA.out
 clear HA
 simp only [impl_PastsOf.j0] at H
 by_cases c15 : x14_3 = true
 {
 subst c15
 rw [if_pos rfl] at H
 simp only [Option.some.injEq, Prod.mk.injEq] at H
 obtain ⟨rfl, rfl⟩ := H
 go_wp2
 go_ret2
 exact ⟨_, by first | rfl | (simp [errW_none, errW_some] <;> rfl) | (simp [*, errW_none, errW_some] <;> rfl), by first | exact Kd.R_nil _ _ _ _ _ | exact Kd.N_nil _ _ _ _ _ | exact Kd.V_nil _ _ _ _ _ | exact Kd.Q_nil _ _ _ _ _ | exact Kd.S_nil _ _ _ _ _, zBG HB.out GE356.out⟩
 }
 {
 replace c15 := Bool.eq_false_iff.mpr c15
 subst c15
 rw [if_neg (show ¬ (false = true) by decide)] at H
 replace H := Option.bind_eq_some_iff.mp H
 obtain ⟨t359, A160, H⟩ := H
 have A16 := ak A160
 clear A160
 by_cases c17 : (t359.length : Int) > 300
 {
 rw [if_pos c17] at H
 have c17b0 : decide (300 < (t359.length : Int)) = true := decide_eq_true c17
 have c17b1 : decide (300 < t359.length) = true := decide_eq_true (by omega)
 clear c17
 simp only [Option.some.injEq, Prod.mk.injEq] at H
 obtain ⟨rfl, rfl⟩ := H
 have hnb18 := NB356_977.out
 have hnc18 := NB977_356.out
 have hcz19_0 : wc.cell? ⟨gb356, 0, none⟩ = some (.int .i8 a0_0) := (blk_cell BK356.out 0).trans rfl
 have hcz19_1 : wc.cell? ⟨gb356, 1, none⟩ = some (.int .u8 a0_1) := (blk_cell BK356.out 1).trans rfl
 have hcz19_2 : wc.cell? ⟨gb356, 2, none⟩ = some (.int .u8 a0_2) := (blk_cell BK356.out 2).trans rfl
 have hfz19_0 := blk_frozen BK356.out 0
 have hfz19_1 := blk_frozen BK356.out 1
 have hfz19_2 := blk_frozen BK356.out 2
 go_wp2_with (first | ((with_reducible refine gate_callee (f := 45) rfl ?_); refine goesL_ (some 17) rfl rfl Tryz.func45 (by kernel_rfl) rfl #[.agg #[.int .i8 a0_0, .int .u8 a0_1, .int .u8 a0_2], .string a1] rfl gl_ ?_; (with_reducible refine (impl_Habit_pasts.calls kj3 a0_0 a0_1 a0_2 a1 a977_0 t359 _ ?side1 A16.out).mono ?_); (case side1 => exact (zK BK977.out)); rintro e w20 ⟨v360, rfl, ho0, hb⟩; refine ⟨_, rfl, ?_⟩; have HO361 := ak (Kd.R_lower ho0 (below_size (zBG HB.out GE356.out))); replace BK977 := kK BK977 hb; replace BK356 := kK BK356 hb; replace HB := kB1 HB GE356 hb; (try clear hb); (try clear ho0); obtain ⟨Ao21, co21, eo21⟩ := Kd.R_slice HO361.out; subst eo21))
 go_ret2
 exact ⟨_, by first | rfl | (simp [errW_none, errW_some] <;> rfl) | (simp [*, errW_none, errW_some] <;> rfl), by first | exact Kd.R_nil _ _ _ _ _ | exact Kd.N_nil _ _ _ _ _ | exact Kd.V_nil _ _ _ _ _ | exact Kd.Q_nil _ _ _ _ _ | exact Kd.S_nil _ _ _ _ _, zBG HB.out GE356.out⟩
 }
 {
 rw [if_neg c17] at H
 have c17b0 : decide (300 < (t359.length : Int)) = false := decide_eq_false c17
 have c17b1 : decide (300 < t359.length) = false := decide_eq_false (by omega)
 clear c17
 simp only [Option.some.injEq, Prod.mk.injEq] at H
 obtain ⟨rfl, rfl⟩ := H
 have hnb22 := NB356_977.out
 have hnc22 := NB977_356.out
 have hcz23_0 : wc.cell? ⟨gb356, 0, none⟩ = some (.int .i8 a0_0) := (blk_cell BK356.out 0).trans rfl
 have hcz23_1 : wc.cell? ⟨gb356, 1, none⟩ = some (.int .u8 a0_1) := (blk_cell BK356.out 1).trans rfl
 have hcz23_2 : wc.cell? ⟨gb356, 2, none⟩ = some (.int .u8 a0_2) := (blk_cell BK356.out 2).trans rfl
 have hfz23_0 := blk_frozen BK356.out 0
 have hfz23_1 := blk_frozen BK356.out 1
 have hfz23_2 := blk_frozen BK356.out 2
 go_wp2_with (first | ((with_reducible refine gate_callee (f := 45) rfl ?_); refine goesL_ (some 17) rfl rfl Tryz.func45 (by kernel_rfl) rfl #[.agg #[.int .i8 a0_0, .int .u8 a0_1, .int .u8 a0_2], .string a1] rfl gl_ ?_; (with_reducible refine (impl_Habit_pasts.calls kj3 a0_0 a0_1 a0_2 a1 a977_0 t359 _ ?side1 A16.out).mono ?_); (case side1 => exact (zK BK977.out)); rintro e w24 ⟨v360, rfl, ho0, hb⟩; refine ⟨_, rfl, ?_⟩; have HO361 := ak (Kd.R_lower ho0 (below_size (zBG HB.out GE356.out))); replace BK977 := kK BK977 hb; replace BK356 := kK BK356 hb; replace HB := kB1 HB GE356 hb; (try clear hb); (try clear ho0); obtain ⟨Ao25, co25, eo25⟩ := Kd.R_slice HO361.out; subst eo25))
 go_ret2
 exact ⟨_, by first | rfl | (simp [errW_none, errW_some] <;> rfl) | (simp [*, errW_none, errW_some] <;> rfl), by (with_reducible repeat (first | apply Kd.R_alloc | apply Kd.R_drewN | apply Kd.R_drew)); exact HO361.out, zBG HB.out GE356.out⟩
 }
 }
 )
 )
end Go.Proofs.YtobickehjnogjaaGreatDoor.P
