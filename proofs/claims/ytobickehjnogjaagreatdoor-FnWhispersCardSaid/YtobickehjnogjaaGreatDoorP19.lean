-- Printed by wip/print (my turned copy of the kit's print) out of the translation; Lean checks it.
import Derived.Test.YtobickehjnogjaaGreatDoorP0
import Derived.Test.YtobickehjnogjaaGreatDoorP1
import Derived.Test.YtobickehjnogjaaGreatDoorP2
import Derived.Test.YtobickehjnogjaaGreatDoorP3
import Derived.Test.YtobickehjnogjaaGreatDoorP4
import Derived.Test.YtobickehjnogjaaGreatDoorP6
import Derived.Test.YtobickehjnogjaaGreatDoorP7
import Derived.Test.YtobickehjnogjaaGreatDoorP9
import Derived.Test.YtobickehjnogjaaGreatDoorP10
import Derived.Test.YtobickehjnogjaaGreatDoorP12
import Derived.Test.YtobickehjnogjaaGreatDoorP15
import Derived.Test.YtobickehjnogjaaGreatDoorP16
import Derived.Test.YtobickehjnogjaaGreatDoorP17
import Derived.Test.YtobickehjnogjaaGreatDoorP18
namespace Go.Proofs.YtobickehjnogjaaGreatDoor.P
open Go.RowKit Go.Proofs.YtobickehjnogjaaGreatDoorW.PrintWords Go.Proofs.YtobickehjnogjaaGreatDoorW.PrintLast Go.Proofs.YtobickehjnogjaaGreatDoorW.PrintMore
attribute [local go_sem] max2_int min2_int max_two min_two max_three min_three max_four min_four   -- for this text's walks alone
set_option linter.unusedVariables false
set_option linter.unusedSimpArgs false

attribute [local go_sem high] eqA40

/-! cuts and loops that forget slots by one function (cutu.py) -/
def frU (u : Nat → Value) : Nat → List Value → Nat → List Value
  | _, [], _ => []
  | i, v :: r, M => cond (M % 2 == 1) (u i) v :: frU u (i + 1) r (M / 2)
theorem frU_self (L : List Value) (r : List Value) : ∀ (i M : Nat), (∀ j, r[j]? = L[i + j]?) → frU (fun i => L.getD i undef) i r M = r := by
  induction r with
  | nil => intro i M _; rfl
  | cons v r ih =>
    intro i M h
    have h0 : L[i]? = some v := by have := h 0; simpa using this.symm
    have hr : frU (fun i => L.getD i undef) (i + 1) r (M / 2) = r := ih (i + 1) (M / 2) (fun j => by
      have := h (j + 1)
      rw [List.getElem?_cons_succ] at this
      rw [this]; congr 1; omega)
    rw [frU, hr]
    cases M % 2 == 1
    · rfl
    · show L.getD i undef :: r = v :: r
      rw [List.getD_eq_getElem?_getD, h0]; rfl
theorem wp_cutM {P : Program} {s : Code} {K : Act → World → Prop} {Q' : Exit → Act → World → Prop} {L0 : List Value} {D : List Deferred} {w : World} (M : Nat) (R : (Nat → Value) → World → Prop)
    (first : ∀ (J K' : Act → World → Prop), (∀ u w', R u w' → J ⟨(frU u 0 L0 M).toArray, D⟩ w') → (∀ a' w', Met J a' w' → K' a' w') → s.wp P (Exit.then K' Q') ⟨L0.toArray, D⟩ w)
    (rest : ∀ u w', R u w' → K ⟨(frU u 0 L0 M).toArray, D⟩ w') : s.wp P (Exit.then K Q') ⟨L0.toArray, D⟩ w :=
  wp_cut (fun a' w' => ∃ u, R u w' ∧ a' = ⟨(frU u 0 L0 M).toArray, D⟩) (fun a' w' ⟨u, h, e⟩ => by subst e; exact rest u w' h)
    (fun J K' hJ hK => first J K' (fun u w' h => hJ _ _ ⟨u, h, rfl⟩) hK)
theorem meetM {J : Act → World → Prop} {R : (Nat → Value) → World → Prop} {L0 L1 : List Value} {D : List Deferred} {M : Nat} {w : World} (hJ : ∀ u w', R u w' → J ⟨(frU u 0 L0 M).toArray, D⟩ w') (hL : L1 = frU (fun i => L1.getD i undef) 0 L0 M) (hR : R (fun i => L1.getD i undef) w) : Met J ⟨L1.toArray, D⟩ w := by
  have h := hJ _ w hR
  rw [← hL] at h
  exact Met.intro h
theorem wp_loopM {P : Program} {c : Code} {Q : Exit → Act → World → Prop} {L0 : List Value} {D : List Deferred} {w : World} (M n0 : Nat) (R : Nat → (Nat → Value) → World → Prop) (atStart : R n0 (fun i => L0.getD i undef) w)
    (round : ∀ gk u wr, R gk u wr → ∀ (J : Nat → Act → World → Prop) (K : Act → World → Prop), (∀ k u' w', R k u' w' → J k ⟨(frU u' 0 L0 M).toArray, D⟩ w') → (∀ a' w', Handed J gk a' w' → K a' w') → c.wp P (Exit.then K Q) ⟨(frU u 0 L0 M).toArray, D⟩ wr) : (Code.loop c).wp P Q ⟨L0.toArray, D⟩ w :=
  wp_loop_ghost_k (fun k a' w' => ∃ u, R k u w' ∧ a' = ⟨(frU u 0 L0 M).toArray, D⟩) n0 ⟨_, atStart, by rw [frU_self L0 L0 0 M (fun j => by rw [Nat.zero_add])]⟩
    (fun n a w ⟨u, h, e⟩ J K hJ hK => by subst e; exact round n u w h J K (fun k u' w' h => hJ k _ _ ⟨u', h, rfl⟩) hK)
theorem handM {J : Nat → Act → World → Prop} {R : Nat → (Nat → Value) → World → Prop} {L0 L1 : List Value} {D : List Deferred} {M n : Nat} {w : World} (k : Nat) (hJ : ∀ k u' w', R k u' w' → J k ⟨(frU u' 0 L0 M).toArray, D⟩ w') (measure : k < n) (hL : L1 = frU (fun i => L1.getD i undef) 0 L0 M) (rel : R k (fun i => L1.getD i undef) w) : Handed J n ⟨L1.toArray, D⟩ w := by
  have h := hJ k _ w rel
  rw [← hL] at h
  exact Handed.intro k measure h
theorem leqS (t : TypeId) (a b : ByteArray) : binOp .leq t (.string a) (.string b) = pure (.bool (!(Op.bytesLess b.toList a.toList))) := by
  have h : (Op.bytesLess a.toList b.toList || a.toList == b.toList) = !(Op.bytesLess b.toList a.toList) := by
    rw [Go.Proofs.bytesLess_eq, Go.Proofs.bytesLess_eq]
    generalize a.toList = x
    generalize b.toList = y
    by_cases c : y < x
    · rw [decide_eq_true c, decide_eq_false (fun h => absurd (List.lt_trans c h) (List.lt_irrefl _)), beq_eq_false_iff_ne.2 (fun e => by subst e; exact absurd c (List.lt_irrefl _))]
      rfl
    · rw [decide_eq_false c]
      rcases List.le_iff_lt_or_eq.1 (show x ≤ y from c) with g | g
      · rw [decide_eq_true g]; rfl
      · rw [beq_iff_eq.2 g, Bool.or_true]; rfl
  simp [binOp, Op.stringOp, h]
attribute [local go_sem] leqS
set_option maxHeartbeats 80000000 in
set_option maxRecDepth 100000 in
theorem laws_FnWhispers.calls (k : Nat) (A0 : Option Addr) (c0 : Nat) (l0 : List Int) (A1 : Option Addr) (c1 : Nat) (l1 : List Int) (a977_0 : Int) (r : Bool) (w : World) (hr0 : Kd.C (Kd.int .u8) w A0 l0.length l0) (hc0 : l0.length ≤ c0) (hr1 : Kd.C (Kd.int .u8) w A1 l1.length l1) (hc1 : l1.length ≤ c1) (hx977 : w.heap[0]? = some (.cells #[.int .i64 a977_0] 3 (0, 0))) (hT : r = true) (h : laws_FnWhispers.f k l0 l1 a977_0 = some r) :
    Calls Tryz.prog 3 #[.slice A0 l0.length c0, .slice A1 l1.length c1] w fun e w' => e = .returned (.bool r) ∧ Below w.heap.size w w' := by
 have hu40 := Tryz.underlying40
 have HR0 := ak hr0
 have HC0 := ak hc0
 clear hr0 hc0
 have HR1 := ak hr1
 have HC1 := ak hc1
 clear hr1 hc1
 have HT := ak hT
 clear hT
 have BK977 := ak hx977
 clear hx977
 have HB := ak (Below.refl w.heap.size w)
 have H := h
 unfold laws_FnWhispers.f at H
 clear h
 have HC4 := ak H
 clear H
 go_enter Tryz.func3, Tryz.ntmps3
 go_upto_region 1 with (fail)
 refine wp_cutM 97554642197374757230674913431036447054643691958280348464348654988292866838117675628759565720734124098744591597543956965482749238851859008978944 (fun (u : Nat → Value) wc => ∃ (kq : Nat) (x55_3 : Bool), u 55 = .bool x55_3 ∧ Aside0 (laws_FnWhispers.j0 kq l0 l1 x55_3 a977_0 = some r) ∧ Aside0 (kq ≤ k) ∧ Aside0 (wc.heap[0]? = some (.cells #[.int .i64 a977_0] 3 (0, 0))) ∧ Aside0 (Below w.heap.size w wc)) ?first ?rest
 case first => (
 as_aux_lemma =>
 intro J_ K_ hJ1_ hK_
 have H := HC4.out
 clear HC4
 replace H := Option.bind_eq_some_iff.mp H
 obtain ⟨t472, A50, H⟩ := H
 have A5 := ak A50
 clear A50
 by_cases c6 : t472 = true
 {
 subst c6
 rw [if_pos rfl] at H
 have H' := ak H
 clear H
 go_wp2_with (first | ((with_reducible refine gate_callee (f := 4) rfl ?_); refine goesL_ (some 51) rfl rfl Tryz.func4 (by kernel_rfl) rfl #[.slice A0 l0.length c0] rfl gl_ ?_; (with_reducible refine (laws_f6big.calls _ _ l0 true _ ?side1 ?side2 A5.out).mono ?_); (case side1 => exact sQ (Kd.C_below HR0.out HB.out)); (case side2 => exact HC0.out); rintro e w' ⟨rfl, ⟨nd, rfl⟩⟩; refine ⟨_, rfl, ?_⟩))
 refine meetM hJ1_ (by kernel_rfl) ?rel
 case rel => dsimp only [List.getD_cons_succ, List.getD_cons_zero]; exact ⟨_, (true), (by first | rfl | (simp; done) | (simp [*]; done)), H', ⟨by first | omega | exact Nat.le_refl _⟩, ⟨(zK BK977.out)⟩, ⟨zB HB.out⟩⟩
 }
 {
 replace c6 := Bool.eq_false_iff.mpr c6
 subst c6
 rw [if_neg (show ¬ (false = true) by decide)] at H
 replace H := Option.bind_eq_some_iff.mp H
 obtain ⟨t473, A70, H⟩ := H
 have A7 := ak A70
 clear A70
 have H' := ak H
 clear H
 go_wp2_with (first | ((with_reducible refine gate_callee (f := 4) rfl ?_); refine goesL_ (some 51) rfl rfl Tryz.func4 (by kernel_rfl) rfl #[.slice A0 l0.length c0] rfl gl_ ?_; (with_reducible refine (laws_f6big.calls _ _ l0 false _ ?side1 ?side2 A5.out).mono ?_); (case side1 => exact sQ (Kd.C_below HR0.out HB.out)); (case side2 => exact HC0.out); rintro e w' ⟨rfl, ⟨nd, rfl⟩⟩; refine ⟨_, rfl, ?_⟩) | (go_at_call 4; (with_reducible refine (laws_f6big.calls _ _ l1 t473 _ ?side1 ?side2 A7.out).mono ?_); (case side1 => exact sQ (Kd.C_below HR1.out (zB HB.out))); (case side2 => exact HC1.out); rintro e w' ⟨rfl, ⟨nd, rfl⟩⟩))
 refine meetM hJ1_ (by kernel_rfl) ?rel
 case rel => dsimp only [List.getD_cons_succ, List.getD_cons_zero]; exact ⟨_, (t473), (by first | rfl | (simp; done) | (simp [*]; done)), H', ⟨by first | omega | exact Nat.le_refl _⟩, ⟨(zK BK977.out)⟩, ⟨zB HB.out⟩⟩
 }
 )
 case rest => (
 as_aux_lemma =>
 intro u1_ wc hcut
 dsimp only [frU, cond, Nat.reduceMod, Nat.reduceDiv, Nat.reduceAdd, Nat.reduceBEq, Nat.reduceEqDiff, beq_self_eq_true]
 clear HC4
 try clear c1
 obtain ⟨kq, x55_3, eu1_55, HA, HJ3, BK977, HB⟩ := hcut
 rw [eu1_55]
 clear eu1_55
 cases kq with
 | zero => exact absurd HA.out (by simp [laws_FnWhispers.j0])
 | succ kj3 => (
 have H := HA.out
 clear HA
 simp only [laws_FnWhispers.j0] at H
 by_cases c8 : x55_3 = true
 {
 subst c8
 rw [if_pos rfl] at H
 obtain rfl := Option.some.inj H
 go_wp2
 go_ret
 exact ⟨by first | rfl | (simp [errW_none, errW_some] <;> rfl) | (simp [*, errW_none, errW_some] <;> rfl), zB HB.out⟩
 }
 {
 replace c8 := Bool.eq_false_iff.mpr c8
 subst c8
 rw [if_neg (show ¬ (false = true) by decide)] at H
 replace H := Option.bind_eq_some_iff.mp H
 obtain ⟨t474, A90, H⟩ := H
 have A9 := ak A90
 clear A90
 replace H := Option.bind_eq_some_iff.mp H
 obtain ⟨t477, A100, H⟩ := H
 have A10 := ak A100
 clear A100
 replace H := Option.bind_eq_some_iff.mp H
 obtain ⟨⟨t478, t479⟩, A110, H⟩ := H
 have A11 := ak A110
 clear A110
 replace H := Option.bind_eq_some_iff.mp H
 obtain ⟨⟨t480, t481⟩, A120, H⟩ := H
 have A12 := ak A120
 clear A120
 replace H := Option.bind_eq_some_iff.mp H
 obtain ⟨⟨t482, t485⟩, A130, H⟩ := H
 have A13 := ak A130
 clear A130
 replace H := Option.bind_eq_some_iff.mp H
 obtain ⟨⟨t486, t487⟩, A140, H⟩ := H
 have A14 := ak A140
 clear A140
 replace H := Option.bind_eq_some_iff.mp H
 obtain ⟨⟨t490, t493⟩, A150, H⟩ := H
 have A15 := ak A150
 clear A150
 replace H := Option.bind_eq_some_iff.mp H
 obtain ⟨⟨t494, t495⟩, A160, H⟩ := H
 have A16 := ak A160
 clear A160
 have HC17 := ak H
 clear H
 go_upto_region 11 with (first | ((with_reducible refine gate_callee (f := 5) rfl ?_); refine goesL_ (some 57) rfl rfl Tryz.func5 (by kernel_rfl) rfl #[.slice A0 l0.length c0] rfl gl_ ?_; (with_reducible refine (spec_P6Habits.calls kj3 _ _ l0 t474 _ ?side1 ?side2 A9.out).mono ?_); (case side1 => exact sQ (Kd.C_below HR0.out HB.out)); (case side2 => exact HC0.out); rintro e w18 ⟨v475, rfl, ho0, hb⟩; refine ⟨_, rfl, ?_⟩; have HO476 := ak (Kd.R_lower ho0 (below_size (zB HB.out))); replace BK977 := kK BK977 hb; replace HB := kB HB hb; (try clear hb); (try clear ho0)) | ((with_reducible refine gate_callee (f := 6) rfl ?_); refine goesL_ (some 59) rfl rfl Tryz.func6 (by kernel_rfl) rfl #[.slice A1 l1.length c1] rfl gl_ ?_; (with_reducible refine (spec_P6Word.calls kj3 _ _ l1 t477 _ ?side1 ?side2 A10.out).mono ?_); (case side1 => exact sQ (Kd.C_below HR1.out HB.out)); (case side2 => exact HC1.out); rintro e w19 ⟨rfl, hb⟩; refine ⟨_, rfl, ?_⟩; replace HO476 := kR HO476 hb; replace BK977 := kK BK977 hb; replace HB := kB HB hb; (try clear hb); obtain ⟨Ao20, co20, eo20⟩ := Kd.R_slice HO476.out; subst eo20) | ((with_reducible refine gate_callee (f := 7) rfl ?_); refine goesL_ (some 63) rfl rfl Tryz.func7 (by kernel_rfl) rfl #[.slice Ao20 t474.length co20, .string t477] rfl gl_ ?_; (with_reducible refine (impl_PassOn.calls kj3 _ _ t474 t477 a977_0 t478 t479 _ ?side1 ?side2 ?side3 A11.out).mono ?_); (case side1 => exact sC HO476); (case side2 => exact sL HO476); (case side3 => exact (zK BK977.out)); rintro e w21 ⟨rfl, hb⟩; refine ⟨_, rfl, ?_⟩; replace HO476 := kR HO476 hb; replace BK977 := kK BK977 hb; replace HB := kB HB hb; (try clear hb)) | ((with_reducible refine gate_callee (f := 8) rfl ?_); refine goesL_ (some 69) rfl rfl Tryz.func8 (by kernel_rfl) rfl #[.slice Ao20 t474.length co20, .string t477] rfl gl_ ?_; (with_reducible refine (spec_PassOn.calls kj3 _ _ t474 t477 t480 t481 _ ?side1 ?side2 A12.out).mono ?_); (case side1 => exact sC HO476); (case side2 => exact sL HO476); rintro e w22 ⟨rfl, hb⟩; refine ⟨_, rfl, ?_⟩; replace HO476 := kR HO476 hb; replace BK977 := kK BK977 hb; replace HB := kB HB hb; (try clear hb)) | ((with_reducible refine gate_callee (f := 9) rfl ?_); refine goesL_ (some 75) rfl rfl Tryz.func9 (by kernel_rfl) rfl #[.slice Ao20 t474.length co20, .string t477] rfl gl_ ?_; (with_reducible refine (impl_HeardAll.calls kj3 _ _ t474 t477 a977_0 t482 t485 _ ?side1 ?side2 ?side3 A13.out).mono ?_); (case side1 => exact sC HO476); (case side2 => exact sL HO476); (case side3 => exact (zK BK977.out)); rintro e w23 ⟨v483, rfl, ho0, hb⟩; refine ⟨_, rfl, ?_⟩; have HO484 := ak (Kd.R_lower ho0 (below_size (zB HB.out))); replace HO476 := kR HO476 hb; replace BK977 := kK BK977 hb; replace HB := kB HB hb; (try clear hb); (try clear ho0)) | ((with_reducible refine gate_callee (f := 10) rfl ?_); refine goesL_ (some 81) rfl rfl Tryz.func10 (by kernel_rfl) rfl #[.slice Ao20 t474.length co20, .string t477] rfl gl_ ?_; (with_reducible refine (spec_HeardAll.calls kj3 _ _ t474 t477 t486 t487 _ ?side1 ?side2 A14.out).mono ?_); (case side1 => exact sC HO476); (case side2 => exact sL HO476); rintro e w24 ⟨v488, rfl, ho0, hb⟩; refine ⟨_, rfl, ?_⟩; have HO489 := ak (Kd.R_lower (Kd.R_new' ho0 (Kd.R_lt (zR HO484.out))) (below_size (zB HB.out))); replace HO476 := kR HO476 hb; replace HO484 := kE HO484 ho0 hb; replace BK977 := kK BK977 hb; replace HB := kB HB hb; (try clear hb); (try clear ho0)) | ((with_reducible refine gate_callee (f := 11) rfl ?_); refine goesL_ (some 87) rfl rfl Tryz.func11 (by kernel_rfl) rfl #[.slice Ao20 t474.length co20, .string t477] rfl gl_ ?_; (with_reducible refine (impl_ChangedBy.calls kj3 _ _ t474 t477 a977_0 t490 t493 _ ?side1 ?side2 ?side3 A15.out).mono ?_); (case side1 => exact sC HO476); (case side2 => exact sL HO476); (case side3 => exact (zK BK977.out)); rintro e w25 ⟨v491, rfl, ho0, hb⟩; refine ⟨_, rfl, ?_⟩; have HO492 := ak (Kd.R_lower ho0 (below_size (zB HB.out))); replace HO476 := kR HO476 hb; replace HO484 := kR HO484 hb; replace HO489 := kR HO489 hb; replace BK977 := kK BK977 hb; replace HB := kB HB hb; (try clear hb); (try clear ho0)) | ((with_reducible refine gate_callee (f := 12) rfl ?_); refine goesL_ (some 93) rfl rfl Tryz.func12 (by kernel_rfl) rfl #[.slice Ao20 t474.length co20, .string t477] rfl gl_ ?_; (with_reducible refine (spec_ChangedBy.calls kj3 _ _ t474 t477 t494 t495 _ ?side1 ?side2 A16.out).mono ?_); (case side1 => exact sC HO476); (case side2 => exact sL HO476); rintro e w26 ⟨v496, rfl, ho0, hb⟩; refine ⟨_, rfl, ?_⟩; have HO497 := ak (Kd.R_lower (Kd.R_new' ho0 (Kd.R_lt (zR HO492.out))) (below_size (zB HB.out))); replace HO476 := kR HO476 hb; replace HO484 := kR HO484 hb; replace HO489 := kR HO489 hb; replace HO492 := kE HO492 ho0 hb; replace BK977 := kK BK977 hb; replace HB := kB HB hb; (try clear hb); (try clear ho0)))
 (try simp only [Act.put, zs, zz, zk])
 refine wp_cutM 97554642197374757230674913431036447054643691958280348464348654988292866838117675628759565720734124098744591597543956965482749238851859008978944 (fun (u : Nat → Value) wc => ∃ (kq : Nat) (x176_16 : Bool), u 176 = .bool x176_16 ∧ Aside0 (laws_FnWhispers.j1 kq t474 t477 t480 t486 t494 x176_16 a977_0 = some r) ∧ Aside0 (kq ≤ kj3) ∧ Aside0 (Kd.R k40 40 wc w.heap.size (fun _ => True) (.slice Ao20 t474.length co20) t474) ∧ Aside0 (Kd.R Kd.string 9 wc w.heap.size (fun _ => True) v488 t486) ∧ Aside0 (Kd.R (Kd.int .i64) 2 wc w.heap.size (fun _ => True) v496 t494) ∧ Aside0 (wc.heap[0]? = some (.cells #[.int .i64 a977_0] 3 (0, 0))) ∧ Aside0 (Below w.heap.size w wc)) ?first ?rest
 case first => (
 as_aux_lemma =>
 intro J_ K_ hJ2_ hK_
 have H := HC17.out
 clear HC17
 by_cases c27 : t479 = t481
 {
 rw [if_pos c27] at H
 have c27b0 : (t479 == t481) = true := beq_iff_eq.mpr c27
 have c27b1 : (t479 != t481) = false := bne_eq_false_iff_eq.mpr c27
 clear c27
 (first | rw [c27b0] | (simp only [i64_w, i32_w]; rw [c27b0]) | skip)
 by_cases c28 : t479 = 0
 {
 rw [if_pos c28] at H
 have c28b0 : (t479 == 0) = true := beq_iff_eq.mpr c28
 have c28b1 : (t479 != 0) = false := bne_eq_false_iff_eq.mpr c28
 clear c28
 by_cases c29 : t478.toList = t480.toList
 {
 rw [if_pos c29] at H
 have c29b0 : (t478.toList == t480.toList) = true := beq_iff_eq.mpr c29
 have c29b1 : (t478.toList != t480.toList) = false := bne_eq_false_iff_eq.mpr c29
 clear c29
 replace H := Option.bind_eq_some_iff.mp H
 obtain ⟨t498, A300, H⟩ := H
 have A30 := ak A300
 clear A300
 by_cases c31 : t498 = true
 {
 subst c31
 rw [if_pos rfl] at H
 by_cases c32 : t485 = t487
 {
 rw [if_pos c32] at H
 have c32b0 : (t485 == t487) = true := beq_iff_eq.mpr c32
 have c32b1 : (t485 != t487) = false := bne_eq_false_iff_eq.mpr c32
 clear c32
 by_cases c33 : t485 = 0
 {
 rw [if_pos c33] at H
 have c33b0 : (t485 == 0) = true := beq_iff_eq.mpr c33
 have c33b1 : (t485 != 0) = false := bne_eq_false_iff_eq.mpr c33
 clear c33
 replace H := Option.bind_eq_some_iff.mp H
 obtain ⟨t499, A340, H⟩ := H
 have A34 := ak A340
 clear A340
 by_cases c35 : t499 = true
 {
 subst c35
 rw [if_pos rfl] at H
 by_cases c36 : (t486.length : Int) = (wrap64 ((t474.length : Int) + 1))
 {
 rw [if_pos c36] at H
 have c36b0 : ((t486.length : Int) == (wrap64 ((t474.length : Int) + 1))) = true := beq_iff_eq.mpr c36
 have c36b1 : ((t486.length : Int) != (wrap64 ((t474.length : Int) + 1))) = false := bne_eq_false_iff_eq.mpr c36
 (try (have c36b2 : ((t486.length : Int) == (IntKind.i64.wrap ((t474.length : Int) + 1))) = true := by first | simpa only [i64_w, i32_w] using (show ((t486.length : Int) == (wrap64 ((t474.length : Int) + 1))) = true from beq_iff_eq.mpr c36) | simpa only [i64_w] using (show ((t486.length : Int) == (wrap64 ((t474.length : Int) + 1))) = true from beq_iff_eq.mpr c36)))
 (try (have c36b3 : ((t486.length : Int) != (IntKind.i64.wrap ((t474.length : Int) + 1))) = false := by first | simpa only [i64_w, i32_w] using (show ((t486.length : Int) != (wrap64 ((t474.length : Int) + 1))) = false from bne_eq_false_iff_eq.mpr c36) | simpa only [i64_w] using (show ((t486.length : Int) != (wrap64 ((t474.length : Int) + 1))) = false from bne_eq_false_iff_eq.mpr c36)))
 clear c36
 by_cases c37 : 0 < (t486.length : Int)
 {
 rw [if_pos c37] at H
 have c37b0 : decide (0 < (t486.length : Int)) = true := decide_eq_true c37
 have c37b1 : decide (0 < t486.length) = true := decide_eq_true (by omega)
 clear c37
 by_cases c38 : (rdOf ByteArray.empty t486 0).toList = t477.toList
 {
 rw [if_pos c38] at H
 have c38b0 : ((rdOf ByteArray.empty t486 0).toList == t477.toList) = true := beq_iff_eq.mpr c38
 have c38b1 : ((rdOf ByteArray.empty t486 0).toList != t477.toList) = false := bne_eq_false_iff_eq.mpr c38
 clear c38
 by_cases c39 : 0 ≤ (t474.length : Int)
 {
 rw [if_pos c39] at H
 have c39b0 : decide (0 ≤ (t474.length : Int)) = true := decide_eq_true c39
 have c39b1 : decide (0 ≤ t474.length) = true := decide_eq_true (by omega)
 clear c39
 by_cases c40 : (t474.length : Int) < (t486.length : Int)
 {
 rw [if_pos c40] at H
 have c40b0 : decide ((t474.length : Int) < (t486.length : Int)) = true := decide_eq_true c40
 have c40b1 : decide (t474.length < t486.length) = true := decide_eq_true (Int.ofNat_lt.mp c40)
 clear c40
 by_cases c41 : (rdOf ByteArray.empty t486 (t474.length : Int)).toList = t480.toList
 {
 rw [if_pos c41] at H
 have c41b0 : ((rdOf ByteArray.empty t486 (t474.length : Int)).toList == t480.toList) = true := beq_iff_eq.mpr c41
 have c41b1 : ((rdOf ByteArray.empty t486 (t474.length : Int)).toList != t480.toList) = false := bne_eq_false_iff_eq.mpr c41
 clear c41
 by_cases c42 : t493 = t495
 {
 rw [if_pos c42] at H
 have c42b0 : (t493 == t495) = true := beq_iff_eq.mpr c42
 have c42b1 : (t493 != t495) = false := bne_eq_false_iff_eq.mpr c42
 clear c42
 by_cases c43 : t493 = 0
 {
 rw [if_pos c43] at H
 have c43b0 : (t493 == 0) = true := beq_iff_eq.mpr c43
 have c43b1 : (t493 != 0) = false := bne_eq_false_iff_eq.mpr c43
 clear c43
 replace H := Option.bind_eq_some_iff.mp H
 obtain ⟨t502, A440, H⟩ := H
 have A44 := ak A440
 clear A440
 by_cases c45 : t502 = true
 {
 subst c45
 rw [if_pos rfl] at H
 by_cases c46 : (t494.length : Int) = 0
 {
 rw [if_pos c46] at H
 have c46b0 : ((t494.length : Int) == 0) = true := beq_iff_eq.mpr c46
 have c46b1 : ((t494.length : Int) != 0) = false := bne_eq_false_iff_eq.mpr c46
 clear c46
 have H' := ak H
 clear H
 go_wp2_with (first | (go_at_call 13; (with_reducible refine (impl_IsWord.calls kj3 t480 true _ A30.out).mono ?_); rintro e w' ⟨rfl, ⟨nd, rfl⟩⟩; obtain ⟨Ao47, co47, eo47⟩ := Kd.R_slice HO484.out; subst eo47; obtain ⟨Ao48, co48, eo48⟩ := Kd.R_slice HO489.out; subst eo48) | (go_at_call 14; (with_reducible refine (spec_SameWords.calls kj3 _ _ t482 _ _ t486 true _ ?side1 ?side2 ?side3 ?side4 A34.out).mono ?_); (case side1 => exact sC HO484); (case side2 => exact sL HO484); (case side3 => exact sC HO489); (case side4 => exact sL HO489); rintro e w' ⟨rfl, ⟨nd, rfl⟩⟩; have p500 : 0 ≤ (0 : Int) := (by omega); have q500 : 0 < (t486.length : Int) := of_decide_eq_true (by first | (with_reducible assumption) | assumption); obtain ⟨ad500, e500, hx500_0⟩ := Kd.at_string (Kd.R_reads' HO489.out).2.2 0 p500 q500; cases e500; have qi500 : (0 < t486.length) = True := eq_true (by omega); (try rw [show ((0 : Int)).toNat = 0 from rfl] at hx500_0); (try rw [Addr.add_zero'] at hx500_0); replace p500 := eq_true p500; replace q500 := eq_true q500; have p501 : 0 ≤ ((t474.length : Int) : Int) := of_decide_eq_true (by first | (with_reducible assumption) | assumption); have q501 : (t474.length : Int) < (t486.length : Int) := of_decide_eq_true (by first | (with_reducible assumption) | assumption); obtain ⟨ad501, e501, hx501_0⟩ := Kd.at_string (Kd.R_reads' HO489.out).2.2 (t474.length : Int) p501 q501; obtain rfl : ad500 = ad501 := (by injection e501); (try simp only [Go.IntWalk.toNatUp] at hx501_0); replace p501 := eq_true p501; replace q501 := eq_true q501; obtain ⟨Ao49, co49, eo49⟩ := Kd.R_slice HO492.out; subst eo49; obtain ⟨Ao50, co50, eo50⟩ := Kd.R_slice HO497.out; subst eo50) | (go_at_call 15; (with_reducible refine (spec_SameNumbers.calls kj3 _ _ t490 _ _ t494 true _ ?side1 ?side2 ?side3 ?side4 A44.out).mono ?_); (case side1 => exact sC HO492); (case side2 => exact sL HO492); (case side3 => exact sC HO497); (case side4 => exact sL HO497); rintro e w' ⟨rfl, ⟨nd, rfl⟩⟩))
 refine meetM hJ2_ (by kernel_rfl) ?rel
 case rel => dsimp only [List.getD_cons_succ, List.getD_cons_zero]; exact ⟨_, ((t480.toList != t477.toList)), (by first | rfl | (simp; done) | (simp [*]; done)), H', ⟨by have := HJ3.out; first | omega | exact Nat.le_refl _⟩, ⟨(zR HO476.out)⟩, ⟨by (with_reducible repeat (first | apply Kd.R_alloc | apply Kd.R_drewN | apply Kd.R_drew)); exact Kd.R_mono HO489.out (fun _ hk => trivial)⟩, ⟨by (with_reducible repeat (first | apply Kd.R_alloc | apply Kd.R_drewN | apply Kd.R_drew)); exact Kd.R_mono HO497.out (fun _ hk => trivial)⟩, ⟨(zK BK977.out)⟩, ⟨zB HB.out⟩⟩
 }
 {
 rw [if_neg c46] at H
 have c46b0 : ((t494.length : Int) == 0) = false := beq_eq_false_iff_ne.mpr c46
 have c46b1 : ((t494.length : Int) != 0) = true := bne_iff_ne.mpr c46
 have c46b2 : ¬ (t494 = []) := fun h_ => c46 (by rw [h_]; rfl)
 have H' := ak H
 clear H
 go_wp2_with (first | (go_at_call 13; (with_reducible refine (impl_IsWord.calls kj3 t480 true _ A30.out).mono ?_); rintro e w' ⟨rfl, ⟨nd, rfl⟩⟩; obtain ⟨Ao51, co51, eo51⟩ := Kd.R_slice HO484.out; subst eo51; obtain ⟨Ao52, co52, eo52⟩ := Kd.R_slice HO489.out; subst eo52) | (go_at_call 14; (with_reducible refine (spec_SameWords.calls kj3 _ _ t482 _ _ t486 true _ ?side1 ?side2 ?side3 ?side4 A34.out).mono ?_); (case side1 => exact sC HO484); (case side2 => exact sL HO484); (case side3 => exact sC HO489); (case side4 => exact sL HO489); rintro e w' ⟨rfl, ⟨nd, rfl⟩⟩; have p500 : 0 ≤ (0 : Int) := (by omega); have q500 : 0 < (t486.length : Int) := of_decide_eq_true (by first | (with_reducible assumption) | assumption); obtain ⟨ad500, e500, hx500_0⟩ := Kd.at_string (Kd.R_reads' HO489.out).2.2 0 p500 q500; cases e500; have qi500 : (0 < t486.length) = True := eq_true (by omega); (try rw [show ((0 : Int)).toNat = 0 from rfl] at hx500_0); (try rw [Addr.add_zero'] at hx500_0); replace p500 := eq_true p500; replace q500 := eq_true q500; have p501 : 0 ≤ ((t474.length : Int) : Int) := of_decide_eq_true (by first | (with_reducible assumption) | assumption); have q501 : (t474.length : Int) < (t486.length : Int) := of_decide_eq_true (by first | (with_reducible assumption) | assumption); obtain ⟨ad501, e501, hx501_0⟩ := Kd.at_string (Kd.R_reads' HO489.out).2.2 (t474.length : Int) p501 q501; obtain rfl : ad500 = ad501 := (by injection e501); (try simp only [Go.IntWalk.toNatUp] at hx501_0); replace p501 := eq_true p501; replace q501 := eq_true q501; obtain ⟨Ao53, co53, eo53⟩ := Kd.R_slice HO492.out; subst eo53; obtain ⟨Ao54, co54, eo54⟩ := Kd.R_slice HO497.out; subst eo54) | (go_at_call 15; (with_reducible refine (spec_SameNumbers.calls kj3 _ _ t490 _ _ t494 true _ ?side1 ?side2 ?side3 ?side4 A44.out).mono ?_); (case side1 => exact sC HO492); (case side2 => exact sL HO492); (case side3 => exact sC HO497); (case side4 => exact sL HO497); rintro e w' ⟨rfl, ⟨nd, rfl⟩⟩))
 refine meetM hJ2_ (by kernel_rfl) ?rel
 case rel => dsimp only [List.getD_cons_succ, List.getD_cons_zero]; exact ⟨_, (false), (by first | rfl | (simp; done) | (simp [*]; done)), H', ⟨by have := HJ3.out; first | omega | exact Nat.le_refl _⟩, ⟨(zR HO476.out)⟩, ⟨by (with_reducible repeat (first | apply Kd.R_alloc | apply Kd.R_drewN | apply Kd.R_drew)); exact Kd.R_mono HO489.out (fun _ hk => trivial)⟩, ⟨by (with_reducible repeat (first | apply Kd.R_alloc | apply Kd.R_drewN | apply Kd.R_drew)); exact Kd.R_mono HO497.out (fun _ hk => trivial)⟩, ⟨(zK BK977.out)⟩, ⟨zB HB.out⟩⟩
 }
 }
 {
 replace c45 := Bool.eq_false_iff.mpr c45
 subst c45
 rw [if_neg (show ¬ (false = true) by decide)] at H
 exact (laws_FnWhispers.n1 H HT).elim
 }
 }
 {
 rw [if_neg c43] at H
 have c43b0 : (t493 == 0) = false := beq_eq_false_iff_ne.mpr c43
 have c43b1 : (t493 != 0) = true := bne_iff_ne.mpr c43
 exact (laws_FnWhispers.n1 H HT).elim
 }
 }
 {
 rw [if_neg c42] at H
 have c42b0 : (t493 == t495) = false := beq_eq_false_iff_ne.mpr c42
 have c42b1 : (t493 != t495) = true := bne_iff_ne.mpr c42
 exact (laws_FnWhispers.n1 H HT).elim
 }
 }
 {
 rw [if_neg c41] at H
 have c41b0 : ((rdOf ByteArray.empty t486 (t474.length : Int)).toList == t480.toList) = false := beq_eq_false_iff_ne.mpr c41
 have c41b1 : ((rdOf ByteArray.empty t486 (t474.length : Int)).toList != t480.toList) = true := bne_iff_ne.mpr c41
 exact (laws_FnWhispers.n1 H HT).elim
 }
 }
 · rw [if_neg c40] at H; exact absurd H (by simp)
 }
 · rw [if_neg c39] at H; exact absurd H (by simp)
 }
 {
 rw [if_neg c38] at H
 have c38b0 : ((rdOf ByteArray.empty t486 0).toList == t477.toList) = false := beq_eq_false_iff_ne.mpr c38
 have c38b1 : ((rdOf ByteArray.empty t486 0).toList != t477.toList) = true := bne_iff_ne.mpr c38
 exact (laws_FnWhispers.n1 H HT).elim
 }
 }
 · rw [if_neg c37] at H; exact absurd H (by simp)
 }
 {
 rw [if_neg c36] at H
 have c36b0 : ((t486.length : Int) == (wrap64 ((t474.length : Int) + 1))) = false := beq_eq_false_iff_ne.mpr c36
 have c36b1 : ((t486.length : Int) != (wrap64 ((t474.length : Int) + 1))) = true := bne_iff_ne.mpr c36
 (try (have c36b2 : ((t486.length : Int) == (IntKind.i64.wrap ((t474.length : Int) + 1))) = false := by first | simpa only [i64_w, i32_w] using (show ((t486.length : Int) == (wrap64 ((t474.length : Int) + 1))) = false from beq_eq_false_iff_ne.mpr c36) | simpa only [i64_w] using (show ((t486.length : Int) == (wrap64 ((t474.length : Int) + 1))) = false from beq_eq_false_iff_ne.mpr c36)))
 (try (have c36b3 : ((t486.length : Int) != (IntKind.i64.wrap ((t474.length : Int) + 1))) = true := by first | simpa only [i64_w, i32_w] using (show ((t486.length : Int) != (wrap64 ((t474.length : Int) + 1))) = true from bne_iff_ne.mpr c36) | simpa only [i64_w] using (show ((t486.length : Int) != (wrap64 ((t474.length : Int) + 1))) = true from bne_iff_ne.mpr c36)))
 exact (laws_FnWhispers.n1 H HT).elim
 }
 }
 {
 replace c35 := Bool.eq_false_iff.mpr c35
 subst c35
 rw [if_neg (show ¬ (false = true) by decide)] at H
 exact (laws_FnWhispers.n1 H HT).elim
 }
 }
 {
 rw [if_neg c33] at H
 have c33b0 : (t485 == 0) = false := beq_eq_false_iff_ne.mpr c33
 have c33b1 : (t485 != 0) = true := bne_iff_ne.mpr c33
 exact (laws_FnWhispers.n1 H HT).elim
 }
 }
 {
 rw [if_neg c32] at H
 have c32b0 : (t485 == t487) = false := beq_eq_false_iff_ne.mpr c32
 have c32b1 : (t485 != t487) = true := bne_iff_ne.mpr c32
 exact (laws_FnWhispers.n1 H HT).elim
 }
 }
 {
 replace c31 := Bool.eq_false_iff.mpr c31
 subst c31
 rw [if_neg (show ¬ (false = true) by decide)] at H
 exact (laws_FnWhispers.n1 H HT).elim
 }
 }
 {
 rw [if_neg c29] at H
 have c29b0 : (t478.toList == t480.toList) = false := beq_eq_false_iff_ne.mpr c29
 have c29b1 : (t478.toList != t480.toList) = true := bne_iff_ne.mpr c29
 exact (laws_FnWhispers.n1 H HT).elim
 }
 }
 {
 rw [if_neg c28] at H
 have c28b0 : (t479 == 0) = false := beq_eq_false_iff_ne.mpr c28
 have c28b1 : (t479 != 0) = true := bne_iff_ne.mpr c28
 exact (laws_FnWhispers.n1 H HT).elim
 }
 }
 {
 rw [if_neg c27] at H
 have c27b0 : (t479 == t481) = false := beq_eq_false_iff_ne.mpr c27
 have c27b1 : (t479 != t481) = true := bne_iff_ne.mpr c27
 (first | rw [c27b0] | (simp only [i64_w, i32_w]; rw [c27b0]) | skip)
 exact (laws_FnWhispers.n1 H HT).elim
 }
 )
 case rest => (
 as_aux_lemma =>
 intro u2_ wc hcut
 dsimp only [frU, cond, Nat.reduceMod, Nat.reduceDiv, Nat.reduceAdd, Nat.reduceBEq, Nat.reduceEqDiff, beq_self_eq_true]
 clear HC17
 try clear c1
 try clear c8
 obtain ⟨kq, x176_16, eu2_176, HA, HJ16, HO_5, HO_13, HO_17, BK977, HB⟩ := hcut
 rw [eu2_176]
 clear eu2_176
 cases kq with
 | zero => exact absurd HA.out (by simp [laws_FnWhispers.j1])
 | succ kj16 => (
 have H := HA.out
 clear HA
 simp only [laws_FnWhispers.j1] at H
 by_cases c71 : x176_16 = true
 {
 subst c71
 rw [if_pos rfl] at H
 exact absurd ((Option.some.inj H).trans HT.out) (by decide)
 }
 {
 replace c71 := Bool.eq_false_iff.mpr c71
 subst c71
 rw [if_neg (show ¬ (false = true) by decide)] at H
 have H' := ak H
 clear H
 go_wp2
 refine wp_loopM 17498005798264095394980017816940970922825355446954137548797928743984830615201218737835763030205923344 kj16 (fun kq (u : Nat → Value) w' => ∃ (x19_3 : Int), u 19 = .int .i64 x19_3 ∧ Aside0 (laws_FnWhispers.l0 kq t474 t477 t480 t486 t494 x19_3 a977_0 = some r) ∧ Aside0 (kq ≤ kj16) ∧ Aside0 (Kd.R k40 40 w' w.heap.size (fun _ => True) (.slice Ao20 t474.length co20) t474) ∧ Aside0 (Kd.R Kd.string 9 w' w.heap.size (fun _ => True) v488 t486) ∧ Aside0 (Kd.R (Kd.int .i64) 2 w' w.heap.size (fun _ => True) v496 t494) ∧ Aside0 (w'.heap[0]? = some (.cells #[.int .i64 a977_0] 3 (0, 0))) ∧ Aside0 (Below w.heap.size w w')) ?atStart ?round
 case atStart => dsimp only [List.getD_cons_succ, List.getD_cons_zero]; exact ⟨(0), (by first | rfl | (simp; done) | (simp [*]; done)), H', ⟨Nat.le_refl _⟩, ⟨(zR HO_5.out)⟩, ⟨(zR HO_13.out)⟩, ⟨(zR HO_17.out)⟩, ⟨(zK BK977.out)⟩, ⟨zB HB.out⟩⟩
 case round => (
 as_aux_lemma =>
 intro gk u3_ wr hrel J_ K_ hJ3_ hK_
 dsimp only [frU, cond, Nat.reduceMod, Nat.reduceDiv, Nat.reduceAdd, Nat.reduceBEq, Nat.reduceEqDiff, beq_self_eq_true]
 clear H'
 try clear c1
 try clear c8
 try clear c71
 obtain ⟨x19_3, eu3_19, HA, HK3, HO_5, HO_13, HO_17, BK977, HB⟩ := hrel
 rw [eu3_19]
 clear eu3_19
 cases gk with
 | zero => exact absurd HA.out (by simp [laws_FnWhispers.l0])
 | succ k3 => (
 have H := HA.out
 clear HA
 simp only [laws_FnWhispers.l0] at H
 by_cases c72 : x19_3 < (t474.length : Int)
 {
 rw [if_pos c72] at H
 have c72b0 : decide (x19_3 < (t474.length : Int)) = true := decide_eq_true c72
 clear c72
 by_cases c73 : 0 ≤ x19_3
 {
 rw [if_pos c73] at H
 have c73b0 : decide (0 ≤ x19_3) = true := decide_eq_true c73
 clear c73
 replace H := Option.bind_eq_some_iff.mp H
 obtain ⟨t505, A740, H⟩ := H
 have A74 := ak A740
 clear A740
 replace H := Option.bind_eq_some_iff.mp H
 obtain ⟨⟨t506, t507, t508, t509⟩, A750, H⟩ := H
 have A75 := ak A750
 clear A750
 by_cases c76 : x19_3 < (t486.length : Int)
 {
 rw [if_pos c76] at H
 have c76b0 : decide (x19_3 < (t486.length : Int)) = true := decide_eq_true c76
 clear c76
 replace H := Option.bind_eq_some_iff.mp H
 obtain ⟨⟨t512, t513⟩, A770, H⟩ := H
 have A77 := ak A770
 clear A770
 obtain ⟨ji78, hji78⟩ : ∃ j_ : Int, (wrap64 (x19_3 + 1)) = j_ := ⟨_, rfl⟩
 first | rw [hji78] at H | simp only [hji78] at H
 (try rw [hji78] at A74)
 (try rw [hji78] at A75)
 (try rw [hji78] at A77)
 have hji78w : (IntKind.i64.wrap (x19_3 + 1)) = ji78 := (i64_w _).trans hji78
 by_cases c79 : 0 ≤ (ji78)
 {
 rw [if_pos c79] at H
 have c79b0 : decide (0 ≤ (ji78)) = true := decide_eq_true c79
 clear c79
 by_cases c80 : (ji78) < (t486.length : Int)
 {
 rw [if_pos c80] at H
 have c80b0 : decide ((ji78) < (t486.length : Int)) = true := decide_eq_true c80
 clear c80
 replace H := Option.bind_eq_some_iff.mp H
 obtain ⟨⟨t515, t518⟩, A810, H⟩ := H
 have A81 := ak A810
 clear A810
 replace H := Option.bind_eq_some_iff.mp H
 obtain ⟨⟨t520, t523⟩, A820, H⟩ := H
 have A82 := ak A820
 clear A820
 have HC83 := ak H
 clear H
 have p503 : 0 ≤ (x19_3 : Int) := of_decide_eq_true (by first | (with_reducible assumption) | assumption)
 have q503 : x19_3 < (t474.length : Int) := of_decide_eq_true (by first | (with_reducible assumption) | assumption)
 obtain ⟨ad503, e503, hx503_0, hx503_1, hx503_2⟩ := at_T40 (Kd.R_reads' HO_5.out).2.2 x19_3 p503 q503
 cases e503
 replace p503 := eq_true p503
 replace q503 := eq_true q503
 try go_wp2_with (first | ((with_reducible refine gate_dst (N := 20) rfl ?_); (try (refine gate_guard (by rfl) ?_; dsimp only)); refine box_event ?hg (N := 20) ?hd (cs := #[.int .i8 0, .int .u8 0, .int .u8 0]) (t := 40) ?hr ?_; (case hd => rfl); (case hg => rfl); (case hr => first | (go_simp; done) | (go_simp; rfl)); intro gb504 hg w84 hbox hb; have n0_ := ak (Kd.R_below (Kd.R_elderB (zR HO_5.out) gb504 (Nat.le_of_eq hg.symm)) hb); have n1_ := ak (Kd.R_below (zR HO_13.out) hb); have n2_ := ak (Kd.R_below (zR HO_17.out) hb); have n3_ := ak (blk_below (g := 0) (o := .cells #[.int .i64 a977_0] 3 (0, 0)) (zK BK977.out) hb); have n4_ := ak (below_step (zB HB.out) hb); have n5_ := ak (hbox); have n6_ := gS HB hg; have n7_ := gS HB hg; have n8_ := nL BK977 hg; have n9_ := nG BK977 hg; clear HO_5 HO_13 HO_17 BK977 HB; have HO_5 := n0_; have HO_13 := n1_; have HO_17 := n2_; have BK977 := n3_; have HB := n4_; have BK504 := n5_; have GW504 := n6_; have GE504 := n7_; have NB977_504 := n8_; have NB504_977 := n9_; clear n0_ n1_ n2_ n3_ n4_ n5_ n6_ n7_ n8_ n9_; clear hb hbox hg; have hnb85 := NB504_977.out; have hnc85 := NB977_504.out; have hcz86_0 : w84.cell? ⟨gb504, 0, none⟩ = some (.int .i8 0) := (blk_cell BK504.out 0).trans rfl; have hcz86_1 : w84.cell? ⟨gb504, 1, none⟩ = some (.int .u8 0) := (blk_cell BK504.out 1).trans rfl; have hcz86_2 : w84.cell? ⟨gb504, 2, none⟩ = some (.int .u8 0) := (blk_cell BK504.out 2).trans rfl; have hfz86_0 := blk_frozen BK504.out 0; have hfz86_1 := blk_frozen BK504.out 1; have hfz86_2 := blk_frozen BK504.out 2) | ((with_reducible refine gate_callee (f := 17) rfl ?_); refine goesL_ (some 189) rfl rfl Tryz.func17 (by kernel_rfl) rfl #[.agg #[.int .i8 ((rd_T40 t474 x19_3).f0), .int .u8 ((rd_T40 t474 x19_3).f1), .int .u8 ((rd_T40 t474 x19_3).f2)]] rfl gl_ ?_; (with_reducible refine (impl_HabitText.calls ((rd_T40 t474 x19_3).f0) ((rd_T40 t474 x19_3).f1) ((rd_T40 t474 x19_3).f2) t505 _ A74.out).mono ?_); rintro e w87 ⟨rfl, hb⟩; refine ⟨_, rfl, ?_⟩; have n0_ := ak (Kd.R_below (by (with_reducible repeat (first | apply Kd.R_alloc | apply Kd.R_drewN | apply Kd.R_drew)); exact (Kd.R_mono (Kd.R_far (p := ⟨gb504, 2, none⟩) (Kd.R_far (p := ⟨gb504, 1, none⟩) (Kd.R_far (p := ⟨gb504, 0, none⟩) (Kd.R_mono HO_5.out (fun k_ hk => (⟨hk, hk.2⟩ : _ ∧ k_ ≠ gb504))) (fun _ hk => hk.2) (.int .i8 ((rd_T40 t474 x19_3).f0))) (fun _ hk => hk.2) (.int .u8 ((rd_T40 t474 x19_3).f1))) (fun _ hk => hk.2) (.int .u8 ((rd_T40 t474 x19_3).f2))) (fun _ h_ => h_.1))) hb); have n1_ := ak (Kd.R_below (by (with_reducible repeat (first | apply Kd.R_alloc | apply Kd.R_drewN | apply Kd.R_drew)); exact (Kd.R_mono (Kd.R_far (p := ⟨gb504, 2, none⟩) (Kd.R_far (p := ⟨gb504, 1, none⟩) (Kd.R_far (p := ⟨gb504, 0, none⟩) (Kd.R_types HO_13.out BK504.out (by decide)) (fun _ hk => hk.2) (.int .i8 ((rd_T40 t474 x19_3).f0))) (fun _ hk => hk.2) (.int .u8 ((rd_T40 t474 x19_3).f1))) (fun _ hk => hk.2) (.int .u8 ((rd_T40 t474 x19_3).f2))) (fun _ h_ => h_.1))) hb); have n2_ := ak (Kd.R_below (by (with_reducible repeat (first | apply Kd.R_alloc | apply Kd.R_drewN | apply Kd.R_drew)); exact (Kd.R_mono (Kd.R_far (p := ⟨gb504, 2, none⟩) (Kd.R_far (p := ⟨gb504, 1, none⟩) (Kd.R_far (p := ⟨gb504, 0, none⟩) (Kd.R_types HO_17.out BK504.out (by decide)) (fun _ hk => hk.2) (.int .i8 ((rd_T40 t474 x19_3).f0))) (fun _ hk => hk.2) (.int .u8 ((rd_T40 t474 x19_3).f1))) (fun _ hk => hk.2) (.int .u8 ((rd_T40 t474 x19_3).f2))) (fun _ h_ => h_.1))) hb); have n3_ := ak (blk_below (g := 0) (o := .cells #[.int .i64 a977_0] 3 (0, 0)) (by (with_reducible repeat (first | refine blk_drewN ?_ _ | refine blk_drew ?_ | refine blk_alloc ?_ _)); refine blk_far ?_ NB977_504.out _; (with_reducible repeat (first | refine blk_drewN ?_ _ | refine blk_drew ?_ | refine blk_alloc ?_ _)); refine blk_far ?_ NB977_504.out _; (with_reducible repeat (first | refine blk_drewN ?_ _ | refine blk_drew ?_ | refine blk_alloc ?_ _)); refine blk_far ?_ NB977_504.out _; (with_reducible repeat (first | refine blk_drewN ?_ _ | refine blk_drew ?_ | refine blk_alloc ?_ _)); exact BK977.out) hb); have n4_ := ak (blk_below (g := gb504) (o := .cells #[.int .i8 ((rd_T40 t474 x19_3).f0), .int .u8 ((rd_T40 t474 x19_3).f1), .int .u8 ((rd_T40 t474 x19_3).f2)] 40 (0, 0)) (by (with_reducible repeat (first | refine blk_drewN ?_ _ | refine blk_drew ?_ | refine blk_alloc ?_ _)); refine blk_put (cs := #[.int .i8 ((rd_T40 t474 x19_3).f0), .int .u8 ((rd_T40 t474 x19_3).f1), .int .u8 0]) ?_ 2 _ rfl; (with_reducible repeat (first | refine blk_drewN ?_ _ | refine blk_drew ?_ | refine blk_alloc ?_ _)); refine blk_put (cs := #[.int .i8 ((rd_T40 t474 x19_3).f0), .int .u8 0, .int .u8 0]) ?_ 1 _ rfl; (with_reducible repeat (first | refine blk_drewN ?_ _ | refine blk_drew ?_ | refine blk_alloc ?_ _)); refine blk_put (cs := #[.int .i8 0, .int .u8 0, .int .u8 0]) ?_ 0 _ rfl; (with_reducible repeat (first | refine blk_drewN ?_ _ | refine blk_drew ?_ | refine blk_alloc ?_ _)); exact BK504.out) hb); have n5_ := ak (below_step (zBG HB.out GE504.out) hb); clear HO_5 HO_13 HO_17 BK977 BK504 HB; have HO_5 := n0_; have HO_13 := n1_; have HO_17 := n2_; have BK977 := n3_; have BK504 := n4_; have HB := n5_; clear n0_ n1_ n2_ n3_ n4_ n5_; (try clear hb); (try clear hb2); (try clear hk); (try clear hi)) | ((with_reducible refine gate_callee (f := 16) rfl ?_); refine goesL_ (some 190) rfl rfl Tryz.func16 (by kernel_rfl) rfl #[.string t505] rfl gl_ ?_; (with_reducible refine (impl_ReadHabit.calls k3 t505 a977_0 t506 t507 t508 t509 _ ?side1 A75.out).mono ?_); (case side1 => exact (zK BK977.out)); rintro e w88 ⟨rfl, hb⟩; refine ⟨_, rfl, ?_⟩; have n0_ := ak (Kd.R_below (zR HO_5.out) hb); have n1_ := ak (Kd.R_below (zR HO_13.out) hb); have n2_ := ak (Kd.R_below (zR HO_17.out) hb); have n3_ := ak (blk_below (g := 0) (o := .cells #[.int .i64 a977_0] 3 (0, 0)) (zK BK977.out) hb); have n4_ := ak (blk_below (g := gb504) (o := .cells #[.int .i8 ((rd_T40 t474 x19_3).f0), .int .u8 ((rd_T40 t474 x19_3).f1), .int .u8 ((rd_T40 t474 x19_3).f2)] 40 (0, 0)) (zK BK504.out) hb); have n5_ := ak (below_step (zBG HB.out GE504.out) hb); clear HO_5 HO_13 HO_17 BK977 BK504 HB; have HO_5 := n0_; have HO_13 := n1_; have HO_17 := n2_; have BK977 := n3_; have BK504 := n4_; have HB := n5_; clear n0_ n1_ n2_ n3_ n4_ n5_; (try clear hb); (try clear hb2); (try clear hk); (try clear hi)) | ((with_reducible refine gate_dst (N := 21) rfl ?_); (try (refine gate_guard (by rfl) ?_; dsimp only)); refine box_event ?hg (N := 21) ?hd (cs := #[.int .i8 0, .int .u8 0, .int .u8 0]) (t := 40) ?hr ?_; (case hd => rfl); (case hg => rfl); (case hr => first | (go_simp; done) | (go_simp; rfl)); intro gb510 hg w89 hbox hb; have n0_ := ak (Kd.R_below (Kd.R_elderB (zR HO_5.out) gb510 (Nat.le_of_eq hg.symm)) hb); have n1_ := ak (Kd.R_below (zR HO_13.out) hb); have n2_ := ak (Kd.R_below (zR HO_17.out) hb); have n3_ := ak (blk_below (g := 0) (o := .cells #[.int .i64 a977_0] 3 (0, 0)) (zK BK977.out) hb); have n4_ := ak (blk_below (g := gb504) (o := .cells #[.int .i8 ((rd_T40 t474 x19_3).f0), .int .u8 ((rd_T40 t474 x19_3).f1), .int .u8 ((rd_T40 t474 x19_3).f2)] 40 (0, 0)) (zK BK504.out) hb); have n5_ := ak (below_step (zBG HB.out GE504.out) hb); have n6_ := ak (hbox); have n7_ := gS1 HB GE504 hg; have n8_ := gS1 HB GE504 hg; have n9_ := nL BK977 hg; have n10_ := nG BK977 hg; have n11_ := nL BK504 hg; have n12_ := nG BK504 hg; clear HO_5 HO_13 HO_17 BK977 BK504 HB; have HO_5 := n0_; have HO_13 := n1_; have HO_17 := n2_; have BK977 := n3_; have BK504 := n4_; have HB := n5_; have BK510 := n6_; have GW510 := n7_; have GE510 := n8_; have NB977_510 := n9_; have NB510_977 := n10_; have NB504_510 := n11_; have NB510_504 := n12_; clear n0_ n1_ n2_ n3_ n4_ n5_ n6_ n7_ n8_ n9_ n10_ n11_ n12_; clear hb hbox hg; have hnb90 := NB510_977.out; have hnc90 := NB977_510.out; have hnb91 := NB510_504.out; have hnc91 := NB504_510.out; have hcz92_0 : w89.cell? ⟨gb510, 0, none⟩ = some (.int .i8 0) := (blk_cell BK510.out 0).trans rfl; have hcz92_1 : w89.cell? ⟨gb510, 1, none⟩ = some (.int .u8 0) := (blk_cell BK510.out 1).trans rfl; have hcz92_2 : w89.cell? ⟨gb510, 2, none⟩ = some (.int .u8 0) := (blk_cell BK510.out 2).trans rfl; have hfz92_0 := blk_frozen BK510.out 0; have hfz92_1 := blk_frozen BK510.out 1; have hfz92_2 := blk_frozen BK510.out 2))
 have n0_ : Aside0 (Kd.R k40 40 (((w89.setCell ⟨gb510, 0, none⟩ (.int .i8 t506)).setCell ⟨gb510, 1, none⟩ (.int .u8 t507)).setCell ⟨gb510, 2, none⟩ (.int .u8 t508)) w.heap.size (fun k_ => k_ ≠ gb504 ∧ k_ ≠ gb510) (.slice (some ad503) t474.length co20) t474) := ⟨by (with_reducible repeat (first | apply Kd.R_alloc | apply Kd.R_drewN | apply Kd.R_drew)); exact Kd.R_mono (Kd.R_far (p := ⟨gb510, 2, none⟩) (Kd.R_far (p := ⟨gb510, 1, none⟩) (Kd.R_far (p := ⟨gb510, 0, none⟩) (Kd.R_mono HO_5.out (fun k_ hk => (⟨hk, hk.2⟩ : _ ∧ k_ ≠ gb510))) (fun _ hk => hk.2) (.int .i8 t506)) (fun _ hk => hk.2) (.int .u8 t507)) (fun _ hk => hk.2) (.int .u8 t508)) (fun _ hk => ⟨hk.1.1.2, hk.1.2⟩)⟩
 have n1_ : Aside0 (Kd.R Kd.string 9 (((w89.setCell ⟨gb510, 0, none⟩ (.int .i8 t506)).setCell ⟨gb510, 1, none⟩ (.int .u8 t507)).setCell ⟨gb510, 2, none⟩ (.int .u8 t508)) w.heap.size (fun _ => True) v488 t486) := ⟨by (with_reducible repeat (first | apply Kd.R_alloc | apply Kd.R_drewN | apply Kd.R_drew)); exact Kd.R_mono (Kd.R_far (p := ⟨gb510, 2, none⟩) (Kd.R_far (p := ⟨gb510, 1, none⟩) (Kd.R_far (p := ⟨gb510, 0, none⟩) (Kd.R_types HO_13.out BK510.out (by decide)) (fun _ hk => hk.2) (.int .i8 t506)) (fun _ hk => hk.2) (.int .u8 t507)) (fun _ hk => hk.2) (.int .u8 t508)) (fun _ hk => trivial)⟩
 have n2_ : Aside0 (Kd.R (Kd.int .i64) 2 (((w89.setCell ⟨gb510, 0, none⟩ (.int .i8 t506)).setCell ⟨gb510, 1, none⟩ (.int .u8 t507)).setCell ⟨gb510, 2, none⟩ (.int .u8 t508)) w.heap.size (fun _ => True) v496 t494) := ⟨by (with_reducible repeat (first | apply Kd.R_alloc | apply Kd.R_drewN | apply Kd.R_drew)); exact Kd.R_mono (Kd.R_far (p := ⟨gb510, 2, none⟩) (Kd.R_far (p := ⟨gb510, 1, none⟩) (Kd.R_far (p := ⟨gb510, 0, none⟩) (Kd.R_types HO_17.out BK510.out (by decide)) (fun _ hk => hk.2) (.int .i8 t506)) (fun _ hk => hk.2) (.int .u8 t507)) (fun _ hk => hk.2) (.int .u8 t508)) (fun _ hk => trivial)⟩
 have n3_ : Aside0 ((((w89.setCell ⟨gb510, 0, none⟩ (.int .i8 t506)).setCell ⟨gb510, 1, none⟩ (.int .u8 t507)).setCell ⟨gb510, 2, none⟩ (.int .u8 t508)).heap[0]? = some (.cells #[.int .i64 a977_0] 3 (0, 0))) := ⟨by (with_reducible repeat (first | refine blk_drewN ?_ _ | refine blk_drew ?_ | refine blk_alloc ?_ _)); refine blk_far ?_ NB977_510.out _; (with_reducible repeat (first | refine blk_drewN ?_ _ | refine blk_drew ?_ | refine blk_alloc ?_ _)); refine blk_far ?_ NB977_510.out _; (with_reducible repeat (first | refine blk_drewN ?_ _ | refine blk_drew ?_ | refine blk_alloc ?_ _)); refine blk_far ?_ NB977_510.out _; (with_reducible repeat (first | refine blk_drewN ?_ _ | refine blk_drew ?_ | refine blk_alloc ?_ _)); exact BK977.out⟩
 have n4_ : Aside0 ((((w89.setCell ⟨gb510, 0, none⟩ (.int .i8 t506)).setCell ⟨gb510, 1, none⟩ (.int .u8 t507)).setCell ⟨gb510, 2, none⟩ (.int .u8 t508)).heap[gb504]? = some (.cells #[.int .i8 ((rd_T40 t474 x19_3).f0), .int .u8 ((rd_T40 t474 x19_3).f1), .int .u8 ((rd_T40 t474 x19_3).f2)] 40 (0, 0))) := ⟨by (with_reducible repeat (first | refine blk_drewN ?_ _ | refine blk_drew ?_ | refine blk_alloc ?_ _)); refine blk_far ?_ NB504_510.out _; (with_reducible repeat (first | refine blk_drewN ?_ _ | refine blk_drew ?_ | refine blk_alloc ?_ _)); refine blk_far ?_ NB504_510.out _; (with_reducible repeat (first | refine blk_drewN ?_ _ | refine blk_drew ?_ | refine blk_alloc ?_ _)); refine blk_far ?_ NB504_510.out _; (with_reducible repeat (first | refine blk_drewN ?_ _ | refine blk_drew ?_ | refine blk_alloc ?_ _)); exact BK504.out⟩
 have n5_ : Aside0 ((((w89.setCell ⟨gb510, 0, none⟩ (.int .i8 t506)).setCell ⟨gb510, 1, none⟩ (.int .u8 t507)).setCell ⟨gb510, 2, none⟩ (.int .u8 t508)).heap[gb510]? = some (.cells #[.int .i8 t506, .int .u8 t507, .int .u8 t508] 40 (0, 0))) := ⟨by (with_reducible repeat (first | refine blk_drewN ?_ _ | refine blk_drew ?_ | refine blk_alloc ?_ _)); refine blk_put (cs := #[.int .i8 t506, .int .u8 t507, .int .u8 0]) ?_ 2 _ rfl; (with_reducible repeat (first | refine blk_drewN ?_ _ | refine blk_drew ?_ | refine blk_alloc ?_ _)); refine blk_put (cs := #[.int .i8 t506, .int .u8 0, .int .u8 0]) ?_ 1 _ rfl; (with_reducible repeat (first | refine blk_drewN ?_ _ | refine blk_drew ?_ | refine blk_alloc ?_ _)); refine blk_put (cs := #[.int .i8 0, .int .u8 0, .int .u8 0]) ?_ 0 _ rfl; (with_reducible repeat (first | refine blk_drewN ?_ _ | refine blk_drew ?_ | refine blk_alloc ?_ _)); exact BK510.out⟩
 have n6_ : Aside0 (Below w.heap.size w (((w89.setCell ⟨gb510, 0, none⟩ (.int .i8 t506)).setCell ⟨gb510, 1, none⟩ (.int .u8 t507)).setCell ⟨gb510, 2, none⟩ (.int .u8 t508))) := ⟨zH2 HB GE504 GE510⟩
 (try clear HO_5)
 (try clear HO_13)
 (try clear HO_17)
 (try clear BK977)
 (try clear BK504)
 (try clear BK510)
 (try clear HB)
 generalize (((w89.setCell ⟨gb510, 0, none⟩ (.int .i8 t506)).setCell ⟨gb510, 1, none⟩ (.int .u8 t507)).setCell ⟨gb510, 2, none⟩ (.int .u8 t508)) = w93 at n0_ n1_ n2_ n3_ n4_ n5_ n6_ ⊢
 have HO_5 := n0_
 have HO_13 := n1_
 have HO_17 := n2_
 have BK977 := n3_
 have BK504 := n4_
 have BK510 := n5_
 have HB := n6_
 clear n0_ n1_ n2_ n3_ n4_ n5_ n6_
 replace HO_5 := ak (Kd.R_drew HO_5.out)
 replace HO_13 := ak (Kd.R_drew HO_13.out)
 replace HO_17 := ak (Kd.R_drew HO_17.out)
 replace BK977 := ak (blk_drew BK977.out)
 replace BK504 := ak (blk_drew BK504.out)
 replace BK510 := ak (blk_drew BK510.out)
 replace HB := ak (below_drew1 HB.out)
 obtain ⟨Ao95, co95, eo95⟩ := Kd.R_slice HO_13.out
 (first | subst eo95 | (injection eo95 with f1_ f2_ f3_; have f4_ := f1_.symm; have f5_ := f3_.symm; clear f1_ f2_ f3_; subst f4_; subst f5_))
 have p511 : 0 ≤ (x19_3 : Int) := of_decide_eq_true (by first | (with_reducible assumption) | assumption)
 have q511 : x19_3 < (t486.length : Int) := of_decide_eq_true (by first | (with_reducible assumption) | assumption)
 obtain ⟨ad511, e511, hx511_0⟩ := Kd.at_string (Kd.R_reads' HO_13.out).2.2 x19_3 p511 q511
 cases e511
 replace p511 := eq_true p511
 replace q511 := eq_true q511
 refine start_ (n := 11) (S := fun w' => w'.cell? ⟨gb504, 0, none⟩ = some (.int .i8 ((rd_T40 t474 x19_3).f0)) ∧ w'.cell? ⟨gb504, 1, none⟩ = some (.int .u8 ((rd_T40 t474 x19_3).f1)) ∧ w'.cell? ⟨gb504, 2, none⟩ = some (.int .u8 ((rd_T40 t474 x19_3).f2)) ∧ w'.cell? (ad511.add (x19_3).toNat) = some (.string (rdOf ByteArray.empty t486 x19_3))) (ds := []) (bA 11 0) (by kernel_rfl) rfl rfl ⟨(blk_cell BK504.out 0).trans rfl, (blk_cell BK504.out 1).trans rfl, (blk_cell BK504.out 2).trans rfl, hx511_0⟩ (fun hHeld => ?_); refine with_tabW laws_FnWhispers.tab18 laws_FnWhispers.bits18 (fun HT_ HW_ => ?_)
 generalize w93.drew = w94 at HO_5 HO_13 HO_17 BK977 BK504 BK510 HB hx511_0 hHeld ⊢
 refine pU 1 195 (bA 11 2) HT_ ?_
 refine pU 2 196 (bA 11 6) HT_ ?_
 refine pU 3 197 (bA 11 14) HT_ ?_
 refine tK 0 194 (bA 11 15) HT_ HW_ hHeld ?_
 refine tK 4 198 (bA 11 31) HT_ HW_ hHeld ?_
 refine one_ (i := 5) (N := some 199) (bA 11 63) rfl rfl (one_of HT_.out (by kernel_rfl)) (by decide) (fun K hK => ?_)
 refine goes_ Tryz.func18 (by kernel_rfl) rfl #[.agg #[.int .i8 ((rd_T40 t474 x19_3).f0), .int .u8 ((rd_T40 t474 x19_3).f1), .int .u8 ((rd_T40 t474 x19_3).f2)], .string (rdOf ByteArray.empty t486 x19_3)] (by rfl) rfl rfl gl_ ?_
 with_reducible refine (impl_Hear.calls k3 ((rd_T40 t474 x19_3).f0) ((rd_T40 t474 x19_3).f1) ((rd_T40 t474 x19_3).f2) (rdOf ByteArray.empty t486 x19_3) a977_0 t512 t513 _ ?side1 A77.out).mono ?_
 (case side1 => exact (zK BK977.out))
 rintro e w96 ⟨rfl, hb⟩
 have HS3_ := (hb.cell (World.block_lt_of_cell? _ _ (hHeld.2.2.2))).trans (hHeld.2.2.2)
 refine ⟨_, rfl, ?_⟩
 replace HO_5 := kR HO_5 hb
 replace HO_13 := kR HO_13 hb
 replace HO_17 := kR HO_17 hb
 replace BK977 := kK BK977 hb
 replace BK504 := kK BK504 hb
 replace BK510 := kK BK510 hb
 replace HB := kB2 HB GE504 GE510 hb
 (try clear hb)
 refine hK.out _ _ ⟨(blk_cell BK504.out 0).trans rfl, (blk_cell BK504.out 1).trans rfl, (blk_cell BK504.out 2).trans rfl, HS3_⟩ (fun hHeld => ?_)
 clear hK K
 refine norm_ (a' := ?_) ?_ ?_
 rotate_left
 {
 show Act.put _ (some 199) _ = _
 simp only [Act.put, zs, zz, zk, i64_w, i32_w]
 rfl
 }
 refine pU 6 193 (bA 11 127) HT_ ?_
 refine pU 7 200 (bA 11 255) HT_ ?_
 refine pU 8 201 (bA 11 511) HT_ ?_
 refine pU 9 23 (bA 11 1023) HT_ ?_
 refine pU 10 24 (bA 11 2047) HT_ ?_
 refine done_ (done_of HT_.out (by kernel_rfl)) ?_
 try go_wp2
 replace HO_5 := ak (Kd.R_drew HO_5.out)
 replace HO_13 := ak (Kd.R_drew HO_13.out)
 replace HO_17 := ak (Kd.R_drew HO_17.out)
 replace BK977 := ak (blk_drew BK977.out)
 replace BK504 := ak (blk_drew BK504.out)
 replace BK510 := ak (blk_drew BK510.out)
 replace HB := ak (below_drew1 HB.out)
 have p514 : 0 ≤ ((ji78) : Int) := of_decide_eq_true (by first | (with_reducible assumption) | assumption)
 have q514 : (ji78) < (t486.length : Int) := of_decide_eq_true (by first | (with_reducible assumption) | assumption)
 obtain ⟨ad514, e514, hx514_0⟩ := Kd.at_string (Kd.R_reads' HO_13.out).2.2 (ji78) p514 q514
 obtain rfl : ad511 = ad514 := (by injection e514)
 replace p514 := eq_true p514
 replace q514 := eq_true q514
 refine start_ (n := 12) (S := fun w' => w'.cell? ⟨gb504, 0, none⟩ = some (.int .i8 ((rd_T40 t474 x19_3).f0)) ∧ w'.cell? ⟨gb504, 1, none⟩ = some (.int .u8 ((rd_T40 t474 x19_3).f1)) ∧ w'.cell? ⟨gb504, 2, none⟩ = some (.int .u8 ((rd_T40 t474 x19_3).f2)) ∧ w'.cell? (ad511.add ((ji78)).toNat) = some (.string (rdOf ByteArray.empty t486 (ji78)))) (ds := []) (bA 12 0) (by kernel_rfl) rfl rfl ⟨(blk_cell BK504.out 0).trans rfl, (blk_cell BK504.out 1).trans rfl, (blk_cell BK504.out 2).trans rfl, hx514_0⟩ (fun hHeld => ?_); refine with_tabW laws_FnWhispers.tab19 laws_FnWhispers.bits19 (fun HT_ HW_ => ?_)
 generalize w96.drew = w97 at HO_5 HO_13 HO_17 BK977 BK504 BK510 HB hx514_0 hHeld ⊢
 refine pU 1 204 (bA 12 2) HT_ ?_
 refine pU 2 205 (bA 12 6) HT_ ?_
 refine pU 3 206 (bA 12 14) HT_ ?_
 refine pU 4 207 (bA 12 30) HT_ ?_
 refine tK 0 203 (bA 12 31) HT_ HW_ hHeld ?_
 refine tK 5 208 (bA 12 63) HT_ HW_ hHeld ?_
 refine one_ (i := 6) (N := some 209) (bA 12 127) rfl rfl (one_of HT_.out (by kernel_rfl)) (by decide) (fun K hK => ?_)
 refine goes_ Tryz.func19 (by kernel_rfl) rfl #[.agg #[.int .i8 ((rd_T40 t474 x19_3).f0), .int .u8 ((rd_T40 t474 x19_3).f1), .int .u8 ((rd_T40 t474 x19_3).f2)], .string (rdOf ByteArray.empty t486 (ji78))] (by rfl) rfl rfl (by (try simp only [List.map_toArray, List.map_cons, List.map_nil]); first | done | (simp only [hji78]; rfl) | rfl | (simp only [List.length_drop, List.length_take]; rfl)) ?_
 with_reducible refine (impl_PastsOf.calls k3 ((rd_T40 t474 x19_3).f0) ((rd_T40 t474 x19_3).f1) ((rd_T40 t474 x19_3).f2) (rdOf ByteArray.empty t486 (ji78)) a977_0 t515 t518 _ ?side1 A81.out).mono ?_
 (case side1 => exact (zK BK977.out))
 rintro e w98 ⟨v516, rfl, ho0, hb⟩
 have HS3_ := (hb.cell (World.block_lt_of_cell? _ _ (hHeld.2.2.2))).trans (hHeld.2.2.2)
 refine ⟨_, rfl, ?_⟩
 have HO517 := ak (Kd.R_lower (Kd.R_new' ho0 (Kd.R_lt (zR HO_13.out))) (below_size (zH2 HB GE504 GE510)))
 replace HO_5 := kR HO_5 hb
 replace HO_13 := kE HO_13 ho0 hb
 replace HO_17 := kR HO_17 hb
 replace BK977 := kK BK977 hb
 replace BK504 := kK BK504 hb
 replace BK510 := kK BK510 hb
 replace HB := kB2 HB GE504 GE510 hb
 (try clear hb)
 (try clear ho0)
 refine hK.out _ _ ⟨(blk_cell BK504.out 0).trans rfl, (blk_cell BK504.out 1).trans rfl, (blk_cell BK504.out 2).trans rfl, HS3_⟩ (fun hHeld => ?_)
 clear hK K
 refine norm_ (a' := ?_) ?_ ?_
 rotate_left
 {
 show Act.put _ (some 209) _ = _
 simp only [Act.put, zs, zz, zk, i64_w, i32_w]
 rfl
 }
 refine pU 7 202 (bA 12 255) HT_ ?_
 refine pU 8 210 (bA 12 511) HT_ ?_
 refine pU 9 211 (bA 12 1023) HT_ ?_
 refine pU 10 25 (bA 12 2047) HT_ ?_
 refine pU 11 26 (bA 12 4095) HT_ ?_
 refine done_ (done_of HT_.out (by kernel_rfl)) ?_
 try go_wp2
 replace HO_5 := ak (Kd.R_drew HO_5.out)
 replace HO_13 := ak (Kd.R_drew HO_13.out)
 replace HO_17 := ak (Kd.R_drew HO_17.out)
 replace HO517 := ak (Kd.R_drew HO517.out)
 replace BK977 := ak (blk_drew BK977.out)
 replace BK504 := ak (blk_drew BK504.out)
 replace BK510 := ak (blk_drew BK510.out)
 replace HB := ak (below_drew1 HB.out)
 have p519 : 0 ≤ ((ji78) : Int) := of_decide_eq_true (by first | (with_reducible assumption) | assumption)
 have q519 : (ji78) < (t486.length : Int) := of_decide_eq_true (by first | (with_reducible assumption) | assumption)
 obtain ⟨ad519, e519, hx519_0⟩ := Kd.at_string (Kd.R_reads' HO_13.out).2.2 (ji78) p519 q519
 obtain rfl : ad511 = ad519 := (by injection e519)
 replace p519 := eq_true p519
 replace q519 := eq_true q519
 refine start_ (n := 12) (S := fun w' => w'.cell? ⟨gb504, 0, none⟩ = some (.int .i8 ((rd_T40 t474 x19_3).f0)) ∧ w'.cell? ⟨gb504, 1, none⟩ = some (.int .u8 ((rd_T40 t474 x19_3).f1)) ∧ w'.cell? ⟨gb504, 2, none⟩ = some (.int .u8 ((rd_T40 t474 x19_3).f2)) ∧ w'.cell? (ad511.add ((ji78)).toNat) = some (.string (rdOf ByteArray.empty t486 (ji78)))) (ds := []) (bA 12 0) (by kernel_rfl) rfl rfl ⟨(blk_cell BK504.out 0).trans rfl, (blk_cell BK504.out 1).trans rfl, (blk_cell BK504.out 2).trans rfl, hx519_0⟩ (fun hHeld => ?_); refine with_tabW laws_FnWhispers.tab20 laws_FnWhispers.bits20 (fun HT_ HW_ => ?_)
 generalize w98.drew = w99 at HO_5 HO_13 HO_17 HO517 BK977 BK504 BK510 HB hx519_0 hHeld ⊢
 refine pU 1 214 (bA 12 2) HT_ ?_
 refine pU 2 215 (bA 12 6) HT_ ?_
 refine pU 3 216 (bA 12 14) HT_ ?_
 refine pU 4 217 (bA 12 30) HT_ ?_
 refine tK 0 213 (bA 12 31) HT_ HW_ hHeld ?_
 refine tK 5 218 (bA 12 63) HT_ HW_ hHeld ?_
 refine one_ (i := 6) (N := some 219) (bA 12 127) rfl rfl (one_of HT_.out (by kernel_rfl)) (by decide) (fun K hK => ?_)
 refine goes_ Tryz.func20 (by kernel_rfl) rfl #[.agg #[.int .i8 ((rd_T40 t474 x19_3).f0), .int .u8 ((rd_T40 t474 x19_3).f1), .int .u8 ((rd_T40 t474 x19_3).f2)], .string (rdOf ByteArray.empty t486 (ji78))] (by rfl) rfl rfl (by (try simp only [List.map_toArray, List.map_cons, List.map_nil]); first | done | (simp only [hji78]; rfl) | rfl | (simp only [List.length_drop, List.length_take]; rfl)) ?_
 with_reducible refine (spec_PastsOf.calls k3 ((rd_T40 t474 x19_3).f0) ((rd_T40 t474 x19_3).f1) ((rd_T40 t474 x19_3).f2) (rdOf ByteArray.empty t486 (ji78)) t520 t523 _ A82.out).mono ?_
 rintro e w100 ⟨v521, rfl, ho0, hb⟩
 have HS3_ := (hb.cell (World.block_lt_of_cell? _ _ (hHeld.2.2.2))).trans (hHeld.2.2.2)
 refine ⟨_, rfl, ?_⟩
 have HO522 := ak (Kd.R_lower (Kd.R_new' (Kd.R_new' ho0 (Kd.R_lt (zR HO_13.out))) (Kd.R_lt (zR HO517.out))) (below_size (zH2 HB GE504 GE510)))
 replace HO_5 := kR HO_5 hb
 replace HO_13 := kE HO_13 ho0 hb
 replace HO_17 := kR HO_17 hb
 replace HO517 := kE HO517 ho0 hb
 replace BK977 := kK BK977 hb
 replace BK504 := kK BK504 hb
 replace BK510 := kK BK510 hb
 replace HB := kB2 HB GE504 GE510 hb
 (try clear hb)
 (try clear ho0)
 refine hK.out _ _ ⟨(blk_cell BK504.out 0).trans rfl, (blk_cell BK504.out 1).trans rfl, (blk_cell BK504.out 2).trans rfl, HS3_⟩ (fun hHeld => ?_)
 clear hK K
 refine norm_ (a' := ?_) ?_ ?_
 rotate_left
 {
 show Act.put _ (some 219) _ = _
 simp only [Act.put, zs, zz, zk, i64_w, i32_w]
 rfl
 }
 refine pU 7 212 (bA 12 255) HT_ ?_
 refine pU 8 220 (bA 12 511) HT_ ?_
 refine pU 9 221 (bA 12 1023) HT_ ?_
 refine pU 10 27 (bA 12 2047) HT_ ?_
 refine pU 11 28 (bA 12 4095) HT_ ?_
 refine done_ (done_of HT_.out (by kernel_rfl)) ?_
 go_upto_region 21 with (fail)
 refine wp_cutM 17498005798264095394980017816940970922825355446954137548797928743984830615201218737835763025911480320 (fun (u : Nat → Value) wc => ∃ (kq : Nat) (x281_82 : Bool), u 281 = .bool x281_82 ∧ Aside0 (laws_FnWhispers.j3 kq t474 t477 t480 t486 t494 x19_3 t518 t520 x281_82 ((rd_T40 t474 x19_3).f0) ((rd_T40 t474 x19_3).f1) ((rd_T40 t474 x19_3).f2) a977_0 = some r) ∧ Aside0 (kq ≤ k3) ∧ Aside0 (Kd.R k40 40 wc w.heap.size (fun k_ => k_ ≠ gb504 ∧ k_ ≠ gb510) (.slice (some ad503) t474.length co20) t474) ∧ Aside0 (Kd.R Kd.string 9 wc w.heap.size (fun k_ => some k_ ≠ (v521 : Value).ownBlock) (.slice (some ad511) t486.length co95) t486) ∧ Aside0 (Kd.R (Kd.int .i64) 2 wc w.heap.size (fun _ => True) v496 t494) ∧ Aside0 (Kd.R Kd.string 9 wc w.heap.size (fun k_ => some k_ ≠ ((.slice (some ad511) t486.length co95) : Value).ownBlock) v521 t520) ∧ Aside0 (wc.heap[0]? = some (.cells #[.int .i64 a977_0] 3 (0, 0))) ∧ Aside0 (wc.heap[gb504]? = some (.cells #[.int .i8 ((rd_T40 t474 x19_3).f0), .int .u8 ((rd_T40 t474 x19_3).f1), .int .u8 ((rd_T40 t474 x19_3).f2)] 40 (0, 0))) ∧ Aside0 (wc.heap[gb510]? = some (.cells #[.int .i8 t506, .int .u8 t507, .int .u8 t508] 40 (0, 0))) ∧ Aside0 (Below w.heap.size w wc)) ?first ?rest
 case first => (
 as_aux_lemma =>
 intro J_ K_ hJ4_ hK_
 have H := HC83.out
 clear HC83
 by_cases c101 : t509 = 0
 {
 rw [if_pos c101] at H
 have c101b0 : (t509 == 0) = true := beq_iff_eq.mpr c101
 have c101b1 : (t509 != 0) = false := bne_eq_false_iff_eq.mpr c101
 clear c101
 (first | rw [c101b0] | (simp only [i64_w, i32_w]; rw [c101b0]) | skip)
 by_cases c102 : (!(t506 == ((rd_T40 t474 x19_3).f0)) || (!(t507 == ((rd_T40 t474 x19_3).f1)) || (!(t508 == ((rd_T40 t474 x19_3).f2))))) = true
 {
 rw [if_pos c102] at H
 have c102b0 : (!(t506 == ((rd_T40 t474 x19_3).f0)) || (!(t507 == ((rd_T40 t474 x19_3).f1)) || (!(t508 == ((rd_T40 t474 x19_3).f2))))) = true := c102
 clear c102
 exact (laws_FnWhispers.n3 H HT).elim
 }
 {
 rw [if_neg c102] at H
 have c102b0 : (!(t506 == ((rd_T40 t474 x19_3).f0)) || (!(t507 == ((rd_T40 t474 x19_3).f1)) || (!(t508 == ((rd_T40 t474 x19_3).f2))))) = false := by simpa using c102
 clear c102
 replace H := Option.bind_eq_some_iff.mp H
 obtain ⟨t524, A1040, H⟩ := H
 have A104 := ak A1040
 clear A1040
 by_cases c105 : t524 = true
 {
 subst c105
 rw [if_pos rfl] at H
 by_cases c106 : t513 = 0
 {
 rw [if_pos c106] at H
 have c106b0 : (t513 == 0) = true := beq_iff_eq.mpr c106
 have c106b1 : (t513 != 0) = false := bne_eq_false_iff_eq.mpr c106
 clear c106
 by_cases c107 : t512.toList = (rdOf ByteArray.empty t486 (ji78)).toList
 {
 rw [if_pos c107] at H
 have c107b0 : (t512.toList == (rdOf ByteArray.empty t486 (ji78)).toList) = true := beq_iff_eq.mpr c107
 have c107b1 : (t512.toList != (rdOf ByteArray.empty t486 (ji78)).toList) = false := bne_eq_false_iff_eq.mpr c107
 clear c107
 replace H := Option.bind_eq_some_iff.mp H
 obtain ⟨t526, A1080, H⟩ := H
 have A108 := ak A1080
 clear A1080
 by_cases c109 : (t526 != ((rdOf ByteArray.empty t486 x19_3).toList != (rdOf ByteArray.empty t486 (ji78)).toList)) = true
 {
 rw [if_pos c109] at H
 have c109b0 : (t526 != ((rdOf ByteArray.empty t486 x19_3).toList != (rdOf ByteArray.empty t486 (ji78)).toList)) = true := c109
 (try (have c109b1 : decide (t526 = ((rdOf ByteArray.empty t486 x19_3).toList != (rdOf ByteArray.empty t486 (ji78)).toList)) = false := by simpa using c109))
 (try (have c109b2 : (t526 == ((rdOf ByteArray.empty t486 x19_3).toList != (rdOf ByteArray.empty t486 (ji78)).toList)) = false := by simpa using c109))
 (try (have c109b3 : ¬ (t526 = ((rdOf ByteArray.empty t486 x19_3).toList != (rdOf ByteArray.empty t486 (ji78)).toList)) := by simpa using c109))
 clear c109
 exact (laws_FnWhispers.n3 H HT).elim
 }
 {
 rw [if_neg c109] at H
 have c109b0 : (t526 != ((rdOf ByteArray.empty t486 x19_3).toList != (rdOf ByteArray.empty t486 (ji78)).toList)) = false := by simpa using c109
 (try (have c109b1 : decide (t526 = ((rdOf ByteArray.empty t486 x19_3).toList != (rdOf ByteArray.empty t486 (ji78)).toList)) = true := by simpa using c109))
 (try (have c109b2 : (t526 == ((rdOf ByteArray.empty t486 x19_3).toList != (rdOf ByteArray.empty t486 (ji78)).toList)) = true := by simpa using c109))
 have c109b4 : (t526 == !((rdOf ByteArray.empty t486 x19_3).toList == (rdOf ByteArray.empty t486 (ji78)).toList)) = true := c109b2
 clear c109
 by_cases c113 : t518 = t523
 {
 rw [if_pos c113] at H
 have c113b0 : (t518 == t523) = true := beq_iff_eq.mpr c113
 have c113b1 : (t518 != t523) = false := bne_eq_false_iff_eq.mpr c113
 clear c113
 replace H := Option.bind_eq_some_iff.mp H
 obtain ⟨t529, A1140, H⟩ := H
 have A114 := ak A1140
 clear A1140
 by_cases c115 : t529 = true
 {
 subst c115
 rw [if_pos rfl] at H
 by_cases c116 : t518 = 0
 {
 rw [if_pos c116] at H
 have c116b0 : (t518 == 0) = true := beq_iff_eq.mpr c116
 have c116b1 : (t518 != 0) = false := bne_eq_false_iff_eq.mpr c116
 clear c116
 have H' := ak H
 clear H
 try go_wp2
 replace HO_5 := ak (Kd.R_drew HO_5.out)
 replace HO_13 := ak (Kd.R_drew HO_13.out)
 replace HO_17 := ak (Kd.R_drew HO_17.out)
 replace HO517 := ak (Kd.R_drew HO517.out)
 replace HO522 := ak (Kd.R_drew HO522.out)
 replace BK977 := ak (blk_drew BK977.out)
 replace BK504 := ak (blk_drew BK504.out)
 replace BK510 := ak (blk_drew BK510.out)
 replace HB := ak (below_drew1 HB.out)
 have p525 : 0 ≤ ((ji78) : Int) := of_decide_eq_true (by first | (with_reducible assumption) | assumption)
 have q525 : (ji78) < (t486.length : Int) := of_decide_eq_true (by first | (with_reducible assumption) | assumption)
 obtain ⟨ad525, e525, hx525_0⟩ := Kd.at_string (Kd.R_reads' HO_13.out).2.2 (ji78) p525 q525
 obtain rfl : ad511 = ad525 := (by injection e525)
 replace p525 := eq_true p525
 replace q525 := eq_true q525
 have p527 : 0 ≤ (x19_3 : Int) := of_decide_eq_true (by first | (with_reducible assumption) | assumption)
 have q527 : x19_3 < (t486.length : Int) := of_decide_eq_true (by first | (with_reducible assumption) | assumption)
 obtain ⟨ad527, e527, hx527_0⟩ := Kd.at_string (Kd.R_reads' HO_13.out).2.2 x19_3 p527 q527
 obtain rfl : ad511 = ad527 := (by injection e527)
 replace p527 := eq_true p527
 replace q527 := eq_true q527
 have p528 : 0 ≤ ((ji78) : Int) := of_decide_eq_true (by first | (with_reducible assumption) | assumption)
 have q528 : (ji78) < (t486.length : Int) := of_decide_eq_true (by first | (with_reducible assumption) | assumption)
 obtain ⟨ad528, e528, hx528_0⟩ := Kd.at_string (Kd.R_reads' HO_13.out).2.2 (ji78) p528 q528
 obtain rfl : ad511 = ad528 := (by injection e528)
 replace p528 := eq_true p528
 replace q528 := eq_true q528
 refine start_ (n := 60) (S := fun w' => w'.cell? ⟨gb510, 0, none⟩ = some (.int .i8 t506) ∧ w'.cell? ⟨gb510, 1, none⟩ = some (.int .u8 t507) ∧ w'.cell? ⟨gb510, 2, none⟩ = some (.int .u8 t508) ∧ w'.cell? ⟨gb504, 0, none⟩ = some (.int .i8 ((rd_T40 t474 x19_3).f0)) ∧ w'.cell? ⟨gb504, 1, none⟩ = some (.int .u8 ((rd_T40 t474 x19_3).f1)) ∧ w'.cell? ⟨gb504, 2, none⟩ = some (.int .u8 ((rd_T40 t474 x19_3).f2)) ∧ w'.cell? (ad511.add ((ji78)).toNat) = some (.string (rdOf ByteArray.empty t486 (ji78))) ∧ w'.cell? (ad511.add (x19_3).toNat) = some (.string (rdOf ByteArray.empty t486 x19_3)) ∧ w'.cell? (ad511.add ((ji78)).toNat) = some (.string (rdOf ByteArray.empty t486 (ji78)))) (ds := []) (bA 60 0) (by kernel_rfl) rfl rfl ⟨(blk_cell BK510.out 0).trans rfl, (blk_cell BK510.out 1).trans rfl, (blk_cell BK510.out 2).trans rfl, (blk_cell BK504.out 0).trans rfl, (blk_cell BK504.out 1).trans rfl, (blk_cell BK504.out 2).trans rfl, hx525_0, hx527_0, hx528_0⟩ (fun hHeld => ?_); refine with_tabW laws_FnWhispers.tab21 laws_FnWhispers.bits21 (fun HT_ HW_ => ?_)
 generalize w100.drew = w117 at HO_5 HO_13 HO_17 HO517 HO522 BK977 BK504 BK510 HB hx525_0 hx527_0 hx528_0 hHeld ⊢
 refine pU 0 222 (bA 60 1) HT_ ?_
 refine pU 1 223 (bA 60 3) HT_ ?_
 refine pU 2 224 (bA 60 7) HT_ ?_
 refine tK 3 225 (bA 60 15) HT_ HW_ hHeld ?_
 refine tK 4 226 (bA 60 31) HT_ HW_ hHeld ?_
 refine pU 5 227 (bA 60 63) HT_ ?_
 refine pU 6 228 (bA 60 127) HT_ ?_
 refine pU 7 229 (bA 60 255) HT_ ?_
 refine tK 8 230 (bA 60 511) HT_ HW_ hHeld ?_
 refine one_ (i := 9) (N := some 231) (bA 60 1023) rfl rfl (one_of HT_.out (by kernel_rfl)) (by decide) (fun K hK => ?_)
 refine goes_ Tryz.func21 (by kernel_rfl) rfl #[.agg #[.int .i8 ((rd_T40 t474 x19_3).f0), .int .u8 ((rd_T40 t474 x19_3).f1), .int .u8 ((rd_T40 t474 x19_3).f2)]] (by rfl) rfl rfl gl_ ?_
 with_reducible refine (impl_ValidHabit.calls ((rd_T40 t474 x19_3).f0) ((rd_T40 t474 x19_3).f1) ((rd_T40 t474 x19_3).f2) true _ A104.out).mono ?_
 rintro e w118 ⟨rfl, hb⟩
 have HS6_ := (hb.cell (World.block_lt_of_cell? _ _ (hHeld.2.2.2.2.2.2.1))).trans (hHeld.2.2.2.2.2.2.1)
 have HS7_ := (hb.cell (World.block_lt_of_cell? _ _ (hHeld.2.2.2.2.2.2.2.1))).trans (hHeld.2.2.2.2.2.2.2.1)
 have HS8_ := (hb.cell (World.block_lt_of_cell? _ _ (hHeld.2.2.2.2.2.2.2.2))).trans (hHeld.2.2.2.2.2.2.2.2)
 refine ⟨_, rfl, ?_⟩
 replace HO_5 := kR HO_5 hb
 replace HO_13 := kR HO_13 hb
 replace HO_17 := kR HO_17 hb
 replace HO517 := kR HO517 hb
 replace HO522 := kR HO522 hb
 replace BK977 := kK BK977 hb
 replace BK504 := kK BK504 hb
 replace BK510 := kK BK510 hb
 replace HB := kB2 HB GE504 GE510 hb
 (try clear hb)
 obtain ⟨Ao119, co119, eo119⟩ := Kd.R_slice HO_17.out
 (first | subst eo119 | (injection eo119 with f1_ f2_ f3_; have f4_ := f1_.symm; have f5_ := f3_.symm; clear f1_ f2_ f3_; subst f4_; subst f5_))
 refine hK.out _ _ ⟨(blk_cell BK510.out 0).trans rfl, (blk_cell BK510.out 1).trans rfl, (blk_cell BK510.out 2).trans rfl, (blk_cell BK504.out 0).trans rfl, (blk_cell BK504.out 1).trans rfl, (blk_cell BK504.out 2).trans rfl, HS6_, HS7_, HS8_⟩ (fun hHeld => ?_)
 clear hK K
 refine norm_ (a' := ?_) ?_ ?_
 rotate_left
 {
 show Act.put _ (some 231) _ = _
 simp only [Act.put, zs, zz, zk, i64_w, i32_w]
 rfl
 }
 refine pU 10 232 (bA 60 2047) HT_ ?_
 refine pU 11 233 (bA 60 4095) HT_ ?_
 refine pU 12 234 (bA 60 8191) HT_ ?_
 refine pU 13 235 (bA 60 16383) HT_ ?_
 refine pU 14 236 (bA 60 32767) HT_ ?_
 refine pU 15 237 (bA 60 65535) HT_ ?_
 refine pU 16 238 (bA 60 131071) HT_ ?_
 refine pU 17 239 (bA 60 262143) HT_ ?_
 refine pU 18 240 (bA 60 524287) HT_ ?_
 refine pU 19 241 (bA 60 1048575) HT_ ?_
 refine pU 20 242 (bA 60 2097151) HT_ ?_
 refine pU 21 243 (bA 60 4194303) HT_ ?_
 refine tK 22 244 (bA 60 8388607) HT_ HW_ hHeld ?_
 refine pU 23 245 (bA 60 16777215) HT_ ?_
 refine pU 24 246 (bA 60 33554431) HT_ ?_
 refine pU 25 247 (bA 60 67108863) HT_ ?_
 refine pU 26 248 (bA 60 134217727) HT_ ?_
 refine pU 27 249 (bA 60 268435455) HT_ ?_
 refine pU 29 251 (bA 60 805306367) HT_ ?_
 refine pU 30 252 (bA 60 1879048191) HT_ ?_
 refine pU 31 253 (bA 60 4026531839) HT_ ?_
 refine pU 33 255 (bA 60 12616466431) HT_ ?_
 refine pU 34 256 (bA 60 29796335615) HT_ ?_
 refine pU 35 257 (bA 60 64156073983) HT_ ?_
 refine pU 36 258 (bA 60 132875550719) HT_ ?_
 refine tK 32 254 (bA 60 137170518015) HT_ HW_ hHeld ?_
 refine tK 37 259 (bA 60 274609471487) HT_ HW_ hHeld ?_
 refine pU 38 260 (bA 60 549487378431) HT_ ?_
 refine one_ (i := 28) (N := some 250) (bA 60 549755813887) rfl rfl (one_of HT_.out (by kernel_rfl)) (by decide) (fun K hK => ?_)
 refine goes_ Tryz.func22 (by kernel_rfl) rfl #[.slice Ao119 t494.length co119, .int .i64 x19_3] (by rfl) rfl rfl gl_ ?_
 with_reducible refine (spec_HasNumber.calls k3 _ _ t494 x19_3 t526 _ ?side1 ?side2 A108.out).mono ?_
 (case side1 => exact zC (Kd.R_reads' HO_17.out).2.2)
 (case side2 => exact (Kd.R_reads' HO_17.out).2.1)
 rintro e w' ⟨rfl, ⟨nd, rfl⟩⟩
 refine ⟨_, rfl, ?_⟩
 obtain ⟨Ao120, co120, eo120⟩ := Kd.R_slice HO517.out
 (first | subst eo120 | (injection eo120 with f1_ f2_ f3_; have f4_ := f1_.symm; have f5_ := f3_.symm; clear f1_ f2_ f3_; subst f4_; subst f5_))
 obtain ⟨Ao121, co121, eo121⟩ := Kd.R_slice HO522.out
 (first | subst eo121 | (injection eo121 with f1_ f2_ f3_; have f4_ := f1_.symm; have f5_ := f3_.symm; clear f1_ f2_ f3_; subst f4_; subst f5_))
 refine hK.out _ _ ⟨(blk_cell BK510.out 0).trans rfl, (blk_cell BK510.out 1).trans rfl, (blk_cell BK510.out 2).trans rfl, (blk_cell BK504.out 0).trans rfl, (blk_cell BK504.out 1).trans rfl, (blk_cell BK504.out 2).trans rfl, hHeld.2.2.2.2.2.2.1, hHeld.2.2.2.2.2.2.2.1, hHeld.2.2.2.2.2.2.2.2⟩ (fun hHeld => ?_)
 clear hK K
 refine norm_ (a' := ?_) ?_ ?_
 rotate_left
 {
 show Act.put _ (some 250) _ = _
 simp only [Act.put, zs, zz, zk, i64_w, i32_w]
 rfl
 }
 refine pU 39 261 (bA 60 1099511627775) HT_ ?_
 refine pU 40 262 (bA 60 2199023255551) HT_ ?_
 refine pU 41 263 (bA 60 4398046511103) HT_ ?_
 refine pU 42 264 (bA 60 8796093022207) HT_ ?_
 refine pU 43 265 (bA 60 17592186044415) HT_ ?_
 refine pU 44 266 (bA 60 35184372088831) HT_ ?_
 refine pU 45 267 (bA 60 70368744177663) HT_ ?_
 refine pU 46 268 (bA 60 140737488355327) HT_ ?_
 refine pU 47 269 (bA 60 281474976710655) HT_ ?_
 refine pU 48 270 (bA 60 562949953421311) HT_ ?_
 refine one_ (i := 49) (N := some 271) (bA 60 1125899906842623) rfl rfl (one_of HT_.out (by kernel_rfl)) (by decide) (fun K hK => ?_)
 refine goes_ Tryz.func14 (by kernel_rfl) rfl #[.slice Ao120 t515.length co120, .slice Ao121 t520.length co121] (by rfl) rfl rfl gl_ ?_
 with_reducible refine (spec_SameWords.calls k3 _ _ t515 _ _ t520 true _ ?side1 ?side2 ?side3 ?side4 A114.out).mono ?_
 (case side1 => exact zC (Kd.R_reads' HO517.out).2.2)
 (case side2 => exact (Kd.R_reads' HO517.out).2.1)
 (case side3 => exact zC (Kd.R_reads' HO522.out).2.2)
 (case side4 => exact (Kd.R_reads' HO522.out).2.1)
 rintro e w' ⟨rfl, ⟨nd, rfl⟩⟩
 refine ⟨_, rfl, ?_⟩
 refine hK.out _ _ ⟨(blk_cell BK510.out 0).trans rfl, (blk_cell BK510.out 1).trans rfl, (blk_cell BK510.out 2).trans rfl, (blk_cell BK504.out 0).trans rfl, (blk_cell BK504.out 1).trans rfl, (blk_cell BK504.out 2).trans rfl, hHeld.2.2.2.2.2.2.1, hHeld.2.2.2.2.2.2.2.1, hHeld.2.2.2.2.2.2.2.2⟩ (fun hHeld => ?_)
 clear hK K
 refine norm_ (a' := ?_) ?_ ?_
 rotate_left
 {
 show Act.put _ (some 271) _ = _
 simp only [Act.put, zs, zz, zk, i64_w, i32_w]
 rfl
 }
 refine pU 50 272 (bA 60 2251799813685247) HT_ ?_
 refine pU 51 273 (bA 60 4503599627370495) HT_ ?_
 refine pU 52 274 (bA 60 9007199254740991) HT_ ?_
 refine pU 53 275 (bA 60 18014398509481983) HT_ ?_
 refine pU 54 276 (bA 60 36028797018963967) HT_ ?_
 refine pU 55 277 (bA 60 72057594037927935) HT_ ?_
 refine pN 56 278 (bA 60 144115188075855871) HT_ ?_
 refine pN 57 279 (bA 60 288230376151711743) HT_ ?_
 refine pU 58 280 (bA 60 576460752303423487) HT_ ?_
 refine pU 59 281 (bA 60 1152921504606846975) HT_ ?_
 refine done_ (done_of HT_.out (by kernel_rfl)) ?_
 try go_wp2
 refine meetM hJ4_ (by kernel_rfl) ?rel
 case rel => dsimp only [List.getD_cons_succ, List.getD_cons_zero]; exact ⟨_, (false), (by first | rfl | (simp; done) | (simp [*]; done)), H', ⟨by have := HJ3.out; have := HJ16.out; have := HK3.out; first | omega | exact Nat.le_refl _⟩, ⟨(zR HO_5.out)⟩, ⟨by (with_reducible repeat (first | apply Kd.R_alloc | apply Kd.R_drewN | apply Kd.R_drew)); exact Kd.R_mono HO_13.out (fun _ hk => hk.2)⟩, ⟨(zR HO_17.out)⟩, ⟨by (with_reducible repeat (first | apply Kd.R_alloc | apply Kd.R_drewN | apply Kd.R_drew)); exact Kd.R_mono HO522.out (fun _ hk => hk.1.2)⟩, ⟨(zK BK977.out)⟩, ⟨(zK BK504.out)⟩, ⟨(zK BK510.out)⟩, ⟨zH2 HB GE504 GE510⟩⟩
 }
 {
 rw [if_neg c116] at H
 have c116b0 : (t518 == 0) = false := beq_eq_false_iff_ne.mpr c116
 have c116b1 : (t518 != 0) = true := bne_iff_ne.mpr c116
 have H' := ak H
 clear H
 try go_wp2
 replace HO_5 := ak (Kd.R_drew HO_5.out)
 replace HO_13 := ak (Kd.R_drew HO_13.out)
 replace HO_17 := ak (Kd.R_drew HO_17.out)
 replace HO517 := ak (Kd.R_drew HO517.out)
 replace HO522 := ak (Kd.R_drew HO522.out)
 replace BK977 := ak (blk_drew BK977.out)
 replace BK504 := ak (blk_drew BK504.out)
 replace BK510 := ak (blk_drew BK510.out)
 replace HB := ak (below_drew1 HB.out)
 have p525 : 0 ≤ ((ji78) : Int) := of_decide_eq_true (by first | (with_reducible assumption) | assumption)
 have q525 : (ji78) < (t486.length : Int) := of_decide_eq_true (by first | (with_reducible assumption) | assumption)
 obtain ⟨ad525, e525, hx525_0⟩ := Kd.at_string (Kd.R_reads' HO_13.out).2.2 (ji78) p525 q525
 obtain rfl : ad511 = ad525 := (by injection e525)
 replace p525 := eq_true p525
 replace q525 := eq_true q525
 have p527 : 0 ≤ (x19_3 : Int) := of_decide_eq_true (by first | (with_reducible assumption) | assumption)
 have q527 : x19_3 < (t486.length : Int) := of_decide_eq_true (by first | (with_reducible assumption) | assumption)
 obtain ⟨ad527, e527, hx527_0⟩ := Kd.at_string (Kd.R_reads' HO_13.out).2.2 x19_3 p527 q527
 obtain rfl : ad511 = ad527 := (by injection e527)
 replace p527 := eq_true p527
 replace q527 := eq_true q527
 have p528 : 0 ≤ ((ji78) : Int) := of_decide_eq_true (by first | (with_reducible assumption) | assumption)
 have q528 : (ji78) < (t486.length : Int) := of_decide_eq_true (by first | (with_reducible assumption) | assumption)
 obtain ⟨ad528, e528, hx528_0⟩ := Kd.at_string (Kd.R_reads' HO_13.out).2.2 (ji78) p528 q528
 obtain rfl : ad511 = ad528 := (by injection e528)
 replace p528 := eq_true p528
 replace q528 := eq_true q528
 refine start_ (n := 60) (S := fun w' => w'.cell? ⟨gb510, 0, none⟩ = some (.int .i8 t506) ∧ w'.cell? ⟨gb510, 1, none⟩ = some (.int .u8 t507) ∧ w'.cell? ⟨gb510, 2, none⟩ = some (.int .u8 t508) ∧ w'.cell? ⟨gb504, 0, none⟩ = some (.int .i8 ((rd_T40 t474 x19_3).f0)) ∧ w'.cell? ⟨gb504, 1, none⟩ = some (.int .u8 ((rd_T40 t474 x19_3).f1)) ∧ w'.cell? ⟨gb504, 2, none⟩ = some (.int .u8 ((rd_T40 t474 x19_3).f2)) ∧ w'.cell? (ad511.add ((ji78)).toNat) = some (.string (rdOf ByteArray.empty t486 (ji78))) ∧ w'.cell? (ad511.add (x19_3).toNat) = some (.string (rdOf ByteArray.empty t486 x19_3)) ∧ w'.cell? (ad511.add ((ji78)).toNat) = some (.string (rdOf ByteArray.empty t486 (ji78)))) (ds := []) (bA 60 0) (by kernel_rfl) rfl rfl ⟨(blk_cell BK510.out 0).trans rfl, (blk_cell BK510.out 1).trans rfl, (blk_cell BK510.out 2).trans rfl, (blk_cell BK504.out 0).trans rfl, (blk_cell BK504.out 1).trans rfl, (blk_cell BK504.out 2).trans rfl, hx525_0, hx527_0, hx528_0⟩ (fun hHeld => ?_); refine with_tabW laws_FnWhispers.tab21 laws_FnWhispers.bits21 (fun HT_ HW_ => ?_)
 generalize w100.drew = w122 at HO_5 HO_13 HO_17 HO517 HO522 BK977 BK504 BK510 HB hx525_0 hx527_0 hx528_0 hHeld ⊢
 refine pU 0 222 (bA 60 1) HT_ ?_
 refine pU 1 223 (bA 60 3) HT_ ?_
 refine pU 2 224 (bA 60 7) HT_ ?_
 refine tK 3 225 (bA 60 15) HT_ HW_ hHeld ?_
 refine tK 4 226 (bA 60 31) HT_ HW_ hHeld ?_
 refine pU 5 227 (bA 60 63) HT_ ?_
 refine pU 6 228 (bA 60 127) HT_ ?_
 refine pU 7 229 (bA 60 255) HT_ ?_
 refine tK 8 230 (bA 60 511) HT_ HW_ hHeld ?_
 refine one_ (i := 9) (N := some 231) (bA 60 1023) rfl rfl (one_of HT_.out (by kernel_rfl)) (by decide) (fun K hK => ?_)
 refine goes_ Tryz.func21 (by kernel_rfl) rfl #[.agg #[.int .i8 ((rd_T40 t474 x19_3).f0), .int .u8 ((rd_T40 t474 x19_3).f1), .int .u8 ((rd_T40 t474 x19_3).f2)]] (by rfl) rfl rfl gl_ ?_
 with_reducible refine (impl_ValidHabit.calls ((rd_T40 t474 x19_3).f0) ((rd_T40 t474 x19_3).f1) ((rd_T40 t474 x19_3).f2) true _ A104.out).mono ?_
 rintro e w123 ⟨rfl, hb⟩
 have HS6_ := (hb.cell (World.block_lt_of_cell? _ _ (hHeld.2.2.2.2.2.2.1))).trans (hHeld.2.2.2.2.2.2.1)
 have HS7_ := (hb.cell (World.block_lt_of_cell? _ _ (hHeld.2.2.2.2.2.2.2.1))).trans (hHeld.2.2.2.2.2.2.2.1)
 have HS8_ := (hb.cell (World.block_lt_of_cell? _ _ (hHeld.2.2.2.2.2.2.2.2))).trans (hHeld.2.2.2.2.2.2.2.2)
 refine ⟨_, rfl, ?_⟩
 replace HO_5 := kR HO_5 hb
 replace HO_13 := kR HO_13 hb
 replace HO_17 := kR HO_17 hb
 replace HO517 := kR HO517 hb
 replace HO522 := kR HO522 hb
 replace BK977 := kK BK977 hb
 replace BK504 := kK BK504 hb
 replace BK510 := kK BK510 hb
 replace HB := kB2 HB GE504 GE510 hb
 (try clear hb)
 obtain ⟨Ao124, co124, eo124⟩ := Kd.R_slice HO_17.out
 (first | subst eo124 | (injection eo124 with f1_ f2_ f3_; have f4_ := f1_.symm; have f5_ := f3_.symm; clear f1_ f2_ f3_; subst f4_; subst f5_))
 refine hK.out _ _ ⟨(blk_cell BK510.out 0).trans rfl, (blk_cell BK510.out 1).trans rfl, (blk_cell BK510.out 2).trans rfl, (blk_cell BK504.out 0).trans rfl, (blk_cell BK504.out 1).trans rfl, (blk_cell BK504.out 2).trans rfl, HS6_, HS7_, HS8_⟩ (fun hHeld => ?_)
 clear hK K
 refine norm_ (a' := ?_) ?_ ?_
 rotate_left
 {
 show Act.put _ (some 231) _ = _
 simp only [Act.put, zs, zz, zk, i64_w, i32_w]
 rfl
 }
 refine pU 10 232 (bA 60 2047) HT_ ?_
 refine pU 11 233 (bA 60 4095) HT_ ?_
 refine pU 12 234 (bA 60 8191) HT_ ?_
 refine pU 13 235 (bA 60 16383) HT_ ?_
 refine pU 14 236 (bA 60 32767) HT_ ?_
 refine pU 15 237 (bA 60 65535) HT_ ?_
 refine pU 16 238 (bA 60 131071) HT_ ?_
 refine pU 17 239 (bA 60 262143) HT_ ?_
 refine pU 18 240 (bA 60 524287) HT_ ?_
 refine pU 19 241 (bA 60 1048575) HT_ ?_
 refine pU 20 242 (bA 60 2097151) HT_ ?_
 refine pU 21 243 (bA 60 4194303) HT_ ?_
 refine tK 22 244 (bA 60 8388607) HT_ HW_ hHeld ?_
 refine pU 23 245 (bA 60 16777215) HT_ ?_
 refine pU 24 246 (bA 60 33554431) HT_ ?_
 refine pU 25 247 (bA 60 67108863) HT_ ?_
 refine pU 26 248 (bA 60 134217727) HT_ ?_
 refine pU 27 249 (bA 60 268435455) HT_ ?_
 refine pU 29 251 (bA 60 805306367) HT_ ?_
 refine pU 30 252 (bA 60 1879048191) HT_ ?_
 refine pU 31 253 (bA 60 4026531839) HT_ ?_
 refine pU 33 255 (bA 60 12616466431) HT_ ?_
 refine pU 34 256 (bA 60 29796335615) HT_ ?_
 refine pU 35 257 (bA 60 64156073983) HT_ ?_
 refine pU 36 258 (bA 60 132875550719) HT_ ?_
 refine tK 32 254 (bA 60 137170518015) HT_ HW_ hHeld ?_
 refine tK 37 259 (bA 60 274609471487) HT_ HW_ hHeld ?_
 refine pU 38 260 (bA 60 549487378431) HT_ ?_
 refine one_ (i := 28) (N := some 250) (bA 60 549755813887) rfl rfl (one_of HT_.out (by kernel_rfl)) (by decide) (fun K hK => ?_)
 refine goes_ Tryz.func22 (by kernel_rfl) rfl #[.slice Ao124 t494.length co124, .int .i64 x19_3] (by rfl) rfl rfl gl_ ?_
 with_reducible refine (spec_HasNumber.calls k3 _ _ t494 x19_3 t526 _ ?side1 ?side2 A108.out).mono ?_
 (case side1 => exact zC (Kd.R_reads' HO_17.out).2.2)
 (case side2 => exact (Kd.R_reads' HO_17.out).2.1)
 rintro e w' ⟨rfl, ⟨nd, rfl⟩⟩
 refine ⟨_, rfl, ?_⟩
 obtain ⟨Ao125, co125, eo125⟩ := Kd.R_slice HO517.out
 (first | subst eo125 | (injection eo125 with f1_ f2_ f3_; have f4_ := f1_.symm; have f5_ := f3_.symm; clear f1_ f2_ f3_; subst f4_; subst f5_))
 obtain ⟨Ao126, co126, eo126⟩ := Kd.R_slice HO522.out
 (first | subst eo126 | (injection eo126 with f1_ f2_ f3_; have f4_ := f1_.symm; have f5_ := f3_.symm; clear f1_ f2_ f3_; subst f4_; subst f5_))
 refine hK.out _ _ ⟨(blk_cell BK510.out 0).trans rfl, (blk_cell BK510.out 1).trans rfl, (blk_cell BK510.out 2).trans rfl, (blk_cell BK504.out 0).trans rfl, (blk_cell BK504.out 1).trans rfl, (blk_cell BK504.out 2).trans rfl, hHeld.2.2.2.2.2.2.1, hHeld.2.2.2.2.2.2.2.1, hHeld.2.2.2.2.2.2.2.2⟩ (fun hHeld => ?_)
 clear hK K
 refine norm_ (a' := ?_) ?_ ?_
 rotate_left
 {
 show Act.put _ (some 250) _ = _
 simp only [Act.put, zs, zz, zk, i64_w, i32_w]
 rfl
 }
 refine pU 39 261 (bA 60 1099511627775) HT_ ?_
 refine pU 40 262 (bA 60 2199023255551) HT_ ?_
 refine pU 41 263 (bA 60 4398046511103) HT_ ?_
 refine pU 42 264 (bA 60 8796093022207) HT_ ?_
 refine pU 43 265 (bA 60 17592186044415) HT_ ?_
 refine pU 44 266 (bA 60 35184372088831) HT_ ?_
 refine pU 45 267 (bA 60 70368744177663) HT_ ?_
 refine pU 46 268 (bA 60 140737488355327) HT_ ?_
 refine pU 47 269 (bA 60 281474976710655) HT_ ?_
 refine pU 48 270 (bA 60 562949953421311) HT_ ?_
 refine one_ (i := 49) (N := some 271) (bA 60 1125899906842623) rfl rfl (one_of HT_.out (by kernel_rfl)) (by decide) (fun K hK => ?_)
 refine goes_ Tryz.func14 (by kernel_rfl) rfl #[.slice Ao125 t515.length co125, .slice Ao126 t520.length co126] (by rfl) rfl rfl gl_ ?_
 with_reducible refine (spec_SameWords.calls k3 _ _ t515 _ _ t520 true _ ?side1 ?side2 ?side3 ?side4 A114.out).mono ?_
 (case side1 => exact zC (Kd.R_reads' HO517.out).2.2)
 (case side2 => exact (Kd.R_reads' HO517.out).2.1)
 (case side3 => exact zC (Kd.R_reads' HO522.out).2.2)
 (case side4 => exact (Kd.R_reads' HO522.out).2.1)
 rintro e w' ⟨rfl, ⟨nd, rfl⟩⟩
 refine ⟨_, rfl, ?_⟩
 refine hK.out _ _ ⟨(blk_cell BK510.out 0).trans rfl, (blk_cell BK510.out 1).trans rfl, (blk_cell BK510.out 2).trans rfl, (blk_cell BK504.out 0).trans rfl, (blk_cell BK504.out 1).trans rfl, (blk_cell BK504.out 2).trans rfl, hHeld.2.2.2.2.2.2.1, hHeld.2.2.2.2.2.2.2.1, hHeld.2.2.2.2.2.2.2.2⟩ (fun hHeld => ?_)
 clear hK K
 refine norm_ (a' := ?_) ?_ ?_
 rotate_left
 {
 show Act.put _ (some 271) _ = _
 simp only [Act.put, zs, zz, zk, i64_w, i32_w]
 rfl
 }
 refine pU 50 272 (bA 60 2251799813685247) HT_ ?_
 refine pU 51 273 (bA 60 4503599627370495) HT_ ?_
 refine pU 52 274 (bA 60 9007199254740991) HT_ ?_
 refine pU 53 275 (bA 60 18014398509481983) HT_ ?_
 refine pU 54 276 (bA 60 36028797018963967) HT_ ?_
 refine pU 55 277 (bA 60 72057594037927935) HT_ ?_
 refine pU 56 278 (bA 60 144115188075855871) HT_ ?_
 refine pU 57 279 (bA 60 288230376151711743) HT_ ?_
 refine pU 58 280 (bA 60 576460752303423487) HT_ ?_
 refine pU 59 281 (bA 60 1152921504606846975) HT_ ?_
 refine done_ (done_of HT_.out (by kernel_rfl)) ?_
 try go_wp2
 refine meetM hJ4_ (by kernel_rfl) ?rel
 case rel => dsimp only [List.getD_cons_succ, List.getD_cons_zero]; exact ⟨_, ((t518 != 3)), (by first | rfl | (simp; done) | (simp [*]; done)), H', ⟨by have := HJ3.out; have := HJ16.out; have := HK3.out; first | omega | exact Nat.le_refl _⟩, ⟨(zR HO_5.out)⟩, ⟨by (with_reducible repeat (first | apply Kd.R_alloc | apply Kd.R_drewN | apply Kd.R_drew)); exact Kd.R_mono HO_13.out (fun _ hk => hk.2)⟩, ⟨(zR HO_17.out)⟩, ⟨by (with_reducible repeat (first | apply Kd.R_alloc | apply Kd.R_drewN | apply Kd.R_drew)); exact Kd.R_mono HO522.out (fun _ hk => hk.1.2)⟩, ⟨(zK BK977.out)⟩, ⟨(zK BK504.out)⟩, ⟨(zK BK510.out)⟩, ⟨zH2 HB GE504 GE510⟩⟩
 }
 }
 {
 replace c115 := Bool.eq_false_iff.mpr c115
 subst c115
 rw [if_neg (show ¬ (false = true) by decide)] at H
 exact (laws_FnWhispers.n3 H HT).elim
 }
 }
 {
 rw [if_neg c113] at H
 have c113b0 : (t518 == t523) = false := beq_eq_false_iff_ne.mpr c113
 have c113b1 : (t518 != t523) = true := bne_iff_ne.mpr c113
 exact (laws_FnWhispers.n3 H HT).elim
 }
 }
 }
 {
 rw [if_neg c107] at H
 have c107b0 : (t512.toList == (rdOf ByteArray.empty t486 (ji78)).toList) = false := beq_eq_false_iff_ne.mpr c107
 have c107b1 : (t512.toList != (rdOf ByteArray.empty t486 (ji78)).toList) = true := bne_iff_ne.mpr c107
 exact (laws_FnWhispers.n3 H HT).elim
 }
 }
 {
 rw [if_neg c106] at H
 have c106b0 : (t513 == 0) = false := beq_eq_false_iff_ne.mpr c106
 have c106b1 : (t513 != 0) = true := bne_iff_ne.mpr c106
 exact (laws_FnWhispers.n3 H HT).elim
 }
 }
 {
 replace c105 := Bool.eq_false_iff.mpr c105
 subst c105
 rw [if_neg (show ¬ (false = true) by decide)] at H
 exact (laws_FnWhispers.n3 H HT).elim
 }
 }
 }
 {
 rw [if_neg c101] at H
 have c101b0 : (t509 == 0) = false := beq_eq_false_iff_ne.mpr c101
 have c101b1 : (t509 != 0) = true := bne_iff_ne.mpr c101
 (first | rw [c101b0] | (simp only [i64_w, i32_w]; rw [c101b0]) | skip)
 exact (laws_FnWhispers.n3 H HT).elim
 }
 )
 case rest => (
 as_aux_lemma =>
 intro u4_ wc hcut
 dsimp only [frU, cond, Nat.reduceMod, Nat.reduceDiv, Nat.reduceAdd, Nat.reduceBEq, Nat.reduceEqDiff, beq_self_eq_true]
 clear HC83
 try clear c1
 obtain ⟨kq, x281_82, eu4_281, HA, HJ82, HO_5, HO_13, HO_17, HO_27, BK977, BK504, BK510, HB⟩ := hcut
 rw [eu4_281]
 clear eu4_281
 cases kq with
 | zero => exact absurd HA.out (by simp [laws_FnWhispers.j3])
 | succ kj82 => (
 have H := HA.out
 clear HA
 simp only [laws_FnWhispers.j3] at H
 by_cases c142 : x281_82 = true
 {
 subst c142
 rw [if_pos rfl] at H
 exact absurd ((Option.some.inj H).trans HT.out) (by decide)
 }
 {
 replace c142 := Bool.eq_false_iff.mpr c142
 subst c142
 rw [if_neg (show ¬ (false = true) by decide)] at H
 by_cases c143 : t518 = 0
 {
 rw [if_pos c143] at H
 have c143b0 : (t518 == 0) = true := beq_iff_eq.mpr c143
 have c143b1 : (t518 != 0) = false := bne_eq_false_iff_eq.mpr c143
 clear c143
 by_cases c144 : 0 ≤ x19_3
 {
 rw [if_pos c144] at H
 have c144b0 : decide (0 ≤ x19_3) = true := decide_eq_true c144
 clear c144
 by_cases c145 : x19_3 < (t486.length : Int)
 {
 rw [if_pos c145] at H
 have c145b0 : decide (x19_3 < (t486.length : Int)) = true := decide_eq_true c145
 clear c145
 replace H := Option.bind_eq_some_iff.mp H
 obtain ⟨t531, A1460, H⟩ := H
 have A146 := ak A1460
 clear A1460
 by_cases c147 : t531 = true
 {
 subst c147
 rw [if_pos rfl] at H
 have H' := ak H
 clear H
 have p530 : 0 ≤ (x19_3 : Int) := of_decide_eq_true (by first | (with_reducible assumption) | assumption)
 have q530 : x19_3 < (t486.length : Int) := of_decide_eq_true (by first | (with_reducible assumption) | assumption)
 obtain ⟨ad530, e530, hx530_0⟩ := Kd.at_string (Kd.R_reads' HO_13.out).2.2 x19_3 p530 q530
 obtain rfl : ad511 = ad530 := (by injection e530)
 replace p530 := eq_true p530
 replace q530 := eq_true q530
 obtain ⟨Ao148, co148, eo148⟩ := Kd.R_slice HO_27.out
 subst eo148
 go_wp2_with (first | ((with_reducible refine gate_callee (f := 23) rfl ?_); refine goesL_ (some 289) rfl rfl Tryz.func23 (by kernel_rfl) rfl #[.slice Ao148 t520.length co148, .string (rdOf ByteArray.empty t486 x19_3)] rfl gl_ ?_; (with_reducible refine (spec_HasWord.calls kj82 _ _ t520 (rdOf ByteArray.empty t486 x19_3) true _ ?side1 ?side2 A146.out).mono ?_); (case side1 => exact sC HO_27); (case side2 => exact sL HO_27); rintro e w' ⟨rfl, ⟨nd, rfl⟩⟩; refine ⟨_, rfl, ?_⟩))
 refine wp_loopM 17498005798260116809088739523803727864840180880424895842199786069540100281779862109812005152938262544 kj82 (fun kq (u : Nat → Value) w' => ∃ (x29_5 : Int), u 29 = .int .i64 x29_5 ∧ Aside0 (laws_FnWhispers.l1 kq t474 t477 t480 t486 t494 x19_3 t520 x29_5 ((rd_T40 t474 x19_3).f0) ((rd_T40 t474 x19_3).f1) ((rd_T40 t474 x19_3).f2) a977_0 = some r) ∧ Aside0 (kq ≤ kj82) ∧ Aside0 (Kd.R k40 40 w' w.heap.size (fun k_ => k_ ≠ gb504 ∧ k_ ≠ gb510) (.slice (some ad503) t474.length co20) t474) ∧ Aside0 (Kd.R Kd.string 9 w' w.heap.size (fun k_ => some k_ ≠ ((.slice Ao148 t520.length co148) : Value).ownBlock) (.slice (some ad511) t486.length co95) t486) ∧ Aside0 (Kd.R (Kd.int .i64) 2 w' w.heap.size (fun _ => True) v496 t494) ∧ Aside0 (Kd.R Kd.string 9 w' w.heap.size (fun k_ => some k_ ≠ ((.slice (some ad511) t486.length co95) : Value).ownBlock) (.slice Ao148 t520.length co148) t520) ∧ Aside0 (w'.heap[0]? = some (.cells #[.int .i64 a977_0] 3 (0, 0))) ∧ Aside0 (w'.heap[gb504]? = some (.cells #[.int .i8 ((rd_T40 t474 x19_3).f0), .int .u8 ((rd_T40 t474 x19_3).f1), .int .u8 ((rd_T40 t474 x19_3).f2)] 40 (0, 0))) ∧ Aside0 (w'.heap[gb510]? = some (.cells #[.int .i8 t506, .int .u8 t507, .int .u8 t508] 40 (0, 0))) ∧ Aside0 (Below w.heap.size w w')) ?atStart ?round
 case atStart => dsimp only [List.getD_cons_succ, List.getD_cons_zero]; exact ⟨(0), (by first | rfl | (simp; done) | (simp [*]; done)), H', ⟨Nat.le_refl _⟩, ⟨(zR HO_5.out)⟩, ⟨(zR HO_13.out)⟩, ⟨(zR HO_17.out)⟩, ⟨(zR HO_27.out)⟩, ⟨(zK BK977.out)⟩, ⟨(zK BK504.out)⟩, ⟨(zK BK510.out)⟩, ⟨zH2 HB GE504 GE510⟩⟩
 case round => (
 as_aux_lemma =>
 intro gk u5_ wr hrel J_ K_ hJ5_ hK_
 dsimp only [frU, cond, Nat.reduceMod, Nat.reduceDiv, Nat.reduceAdd, Nat.reduceBEq, Nat.reduceEqDiff, beq_self_eq_true]
 clear H'
 try clear c1
 try clear c142
 try clear c143
 try clear c143b0
 try clear c143b1
 try clear c144
 try clear c144b0
 try clear c145
 try clear c145b0
 try clear c147
 try clear hx530_0
 try clear p530
 try clear q530
 obtain ⟨x29_5, eu5_29, HA, HK5, HO_5, HO_13, HO_17, HO_27, BK977, BK504, BK510, HB⟩ := hrel
 rw [eu5_29]
 clear eu5_29
 cases gk with
 | zero => exact absurd HA.out (by simp [laws_FnWhispers.l1])
 | succ k5 => (
 have H := HA.out
 clear HA
 simp only [laws_FnWhispers.l1] at H
 by_cases c149 : x29_5 < (t520.length : Int)
 {
 rw [if_pos c149] at H
 have c149b0 : decide (x29_5 < (t520.length : Int)) = true := decide_eq_true c149
 clear c149
 by_cases c150 : 0 ≤ x29_5
 {
 rw [if_pos c150] at H
 have c150b0 : decide (0 ≤ x29_5) = true := decide_eq_true c150
 clear c150
 replace H := Option.bind_eq_some_iff.mp H
 obtain ⟨⟨t533, t534⟩, A1510, H⟩ := H
 have A151 := ak A1510
 clear A1510
 by_cases c152 : t534 = 0
 {
 rw [if_pos c152] at H
 have c152b0 : (t534 == 0) = true := beq_iff_eq.mpr c152
 have c152b1 : (t534 != 0) = false := bne_eq_false_iff_eq.mpr c152
 clear c152
 obtain ⟨ji153, hji153⟩ : ∃ j_ : Int, (wrap64 (x19_3 + 1)) = j_ := ⟨_, rfl⟩
 obtain rfl : ji153 = ji78 := hji153.symm.trans hji78
 first | rw [hji153] at H | simp only [hji153] at H
 (try rw [hji153] at A151)
 have hji153w : (IntKind.i64.wrap (x19_3 + 1)) = ji153 := (i64_w _).trans hji153
 by_cases c154 : 0 ≤ (ji153)
 {
 rw [if_pos c154] at H
 have c154b0 : decide (0 ≤ (ji153)) = true := decide_eq_true c154
 clear c154
 by_cases c155 : (ji153) < (t486.length : Int)
 {
 rw [if_pos c155] at H
 have c155b0 : decide ((ji153) < (t486.length : Int)) = true := decide_eq_true c155
 clear c155
 by_cases c156 : t533.toList = (rdOf ByteArray.empty t486 (ji153)).toList
 {
 rw [if_pos c156] at H
 have c156b0 : (t533.toList == (rdOf ByteArray.empty t486 (ji153)).toList) = true := beq_iff_eq.mpr c156
 have c156b1 : (t533.toList != (rdOf ByteArray.empty t486 (ji153)).toList) = false := bne_eq_false_iff_eq.mpr c156
 clear c156
 by_cases c157 : x29_5 > 0
 {
 rw [if_pos c157] at H
 have c157b0 : decide (0 < x29_5) = true := decide_eq_true c157
 clear c157
 obtain ⟨ji158, hji158⟩ : ∃ j_ : Int, (wrap64 (x29_5 - 1)) = j_ := ⟨_, rfl⟩
 first | rw [hji158] at H | simp only [hji158] at H
 (try rw [hji158] at A151)
 have hji158w : (IntKind.i64.wrap (x29_5 - 1)) = ji158 := (i64_w _).trans hji158
 by_cases c159 : 0 ≤ (ji158)
 {
 rw [if_pos c159] at H
 have c159b0 : decide (0 ≤ (ji158)) = true := decide_eq_true c159
 clear c159
 by_cases c160 : (ji158) < (t520.length : Int)
 {
 rw [if_pos c160] at H
 have c160b0 : decide ((ji158) < (t520.length : Int)) = true := decide_eq_true c160
 clear c160
 by_cases c161 : ((Op.bytesLess ((rdOf ByteArray.empty t520 (ji158)).toList) ((rdOf ByteArray.empty t520 x29_5).toList)) = true)
 {
 rw [if_pos c161] at H
 have c161b0 : (Op.bytesLess ((rdOf ByteArray.empty t520 (ji158)).toList) ((rdOf ByteArray.empty t520 x29_5).toList)) = true := c161
 clear c161
 have H' := ak H
 clear H
 try go_wp2
 replace HO_5 := ak (Kd.R_drew HO_5.out)
 replace HO_13 := ak (Kd.R_drew HO_13.out)
 replace HO_17 := ak (Kd.R_drew HO_17.out)
 replace HO_27 := ak (Kd.R_drew HO_27.out)
 replace BK977 := ak (blk_drew BK977.out)
 replace BK504 := ak (blk_drew BK504.out)
 replace BK510 := ak (blk_drew BK510.out)
 replace HB := ak (below_drew1 HB.out)
 have p532 : 0 ≤ (x29_5 : Int) := of_decide_eq_true (by first | (with_reducible assumption) | assumption)
 have q532 : x29_5 < (t520.length : Int) := of_decide_eq_true (by first | (with_reducible assumption) | assumption)
 obtain ⟨ad532, e532, hx532_0⟩ := Kd.at_string (Kd.R_reads' HO_27.out).2.2 x29_5 p532 q532
 cases e532
 replace p532 := eq_true p532
 replace q532 := eq_true q532
 refine start_ (n := 11) (S := fun w' => w'.cell? ⟨gb504, 0, none⟩ = some (.int .i8 ((rd_T40 t474 x19_3).f0)) ∧ w'.cell? ⟨gb504, 1, none⟩ = some (.int .u8 ((rd_T40 t474 x19_3).f1)) ∧ w'.cell? ⟨gb504, 2, none⟩ = some (.int .u8 ((rd_T40 t474 x19_3).f2)) ∧ w'.cell? (ad532.add (x29_5).toNat) = some (.string (rdOf ByteArray.empty t520 x29_5))) (ds := []) (bA 11 0) (by kernel_rfl) rfl rfl ⟨(blk_cell BK504.out 0).trans rfl, (blk_cell BK504.out 1).trans rfl, (blk_cell BK504.out 2).trans rfl, hx532_0⟩ (fun hHeld => ?_); refine with_tabW laws_FnWhispers.tab29 laws_FnWhispers.bits29 (fun HT_ HW_ => ?_)
 generalize wr.drew = w162 at HO_5 HO_13 HO_17 HO_27 BK977 BK504 BK510 HB hx532_0 hHeld ⊢
 refine pU 1 299 (bA 11 2) HT_ ?_
 refine pU 2 300 (bA 11 6) HT_ ?_
 refine pU 3 301 (bA 11 14) HT_ ?_
 refine tK 0 298 (bA 11 15) HT_ HW_ hHeld ?_
 refine tK 4 302 (bA 11 31) HT_ HW_ hHeld ?_
 refine one_ (i := 5) (N := some 303) (bA 11 63) rfl rfl (one_of HT_.out (by kernel_rfl)) (by decide) (fun K hK => ?_)
 refine goes_ Tryz.func18 (by kernel_rfl) rfl #[.agg #[.int .i8 ((rd_T40 t474 x19_3).f0), .int .u8 ((rd_T40 t474 x19_3).f1), .int .u8 ((rd_T40 t474 x19_3).f2)], .string (rdOf ByteArray.empty t520 x29_5)] (by rfl) rfl rfl gl_ ?_
 with_reducible refine (impl_Hear.calls k5 ((rd_T40 t474 x19_3).f0) ((rd_T40 t474 x19_3).f1) ((rd_T40 t474 x19_3).f2) (rdOf ByteArray.empty t520 x29_5) a977_0 t533 t534 _ ?side1 A151.out).mono ?_
 (case side1 => exact (zK BK977.out))
 rintro e w163 ⟨rfl, hb⟩
 have HS3_ := (hb.cell (World.block_lt_of_cell? _ _ (hHeld.2.2.2))).trans (hHeld.2.2.2)
 refine ⟨_, rfl, ?_⟩
 replace HO_5 := kR HO_5 hb
 replace HO_13 := kR HO_13 hb
 replace HO_17 := kR HO_17 hb
 replace HO_27 := kR HO_27 hb
 replace BK977 := kK BK977 hb
 replace BK504 := kK BK504 hb
 replace BK510 := kK BK510 hb
 replace HB := kB2 HB GE504 GE510 hb
 (try clear hb)
 refine hK.out _ _ ⟨(blk_cell BK504.out 0).trans rfl, (blk_cell BK504.out 1).trans rfl, (blk_cell BK504.out 2).trans rfl, HS3_⟩ (fun hHeld => ?_)
 clear hK K
 refine norm_ (a' := ?_) ?_ ?_
 rotate_left
 {
 show Act.put _ (some 303) _ = _
 simp only [Act.put, zs, zz, zk, i64_w, i32_w]
 rfl
 }
 refine pU 6 297 (bA 11 127) HT_ ?_
 refine pU 7 304 (bA 11 255) HT_ ?_
 refine pU 8 305 (bA 11 511) HT_ ?_
 refine pU 9 30 (bA 11 1023) HT_ ?_
 refine pU 10 31 (bA 11 2047) HT_ ?_
 refine done_ (done_of HT_.out (by kernel_rfl)) ?_
 try go_wp2
 replace HO_5 := ak (Kd.R_drew HO_5.out)
 replace HO_13 := ak (Kd.R_drew HO_13.out)
 replace HO_17 := ak (Kd.R_drew HO_17.out)
 replace HO_27 := ak (Kd.R_drew HO_27.out)
 replace BK977 := ak (blk_drew BK977.out)
 replace BK504 := ak (blk_drew BK504.out)
 replace BK510 := ak (blk_drew BK510.out)
 replace HB := ak (below_drew1 HB.out)
 have p535 : 0 ≤ ((ji153) : Int) := of_decide_eq_true (by first | (with_reducible assumption) | assumption)
 have q535 : (ji153) < (t486.length : Int) := of_decide_eq_true (by first | (with_reducible assumption) | assumption)
 obtain ⟨ad535, e535, hx535_0⟩ := Kd.at_string (Kd.R_reads' HO_13.out).2.2 (ji153) p535 q535
 obtain rfl : ad511 = ad535 := (by injection e535)
 replace p535 := eq_true p535
 replace q535 := eq_true q535
 have p536 : 0 ≤ (x29_5 : Int) := of_decide_eq_true (by first | (with_reducible assumption) | assumption)
 have q536 : x29_5 < (t520.length : Int) := of_decide_eq_true (by first | (with_reducible assumption) | assumption)
 obtain ⟨ad536, e536, hx536_0⟩ := Kd.at_string (Kd.R_reads' HO_27.out).2.2 x29_5 p536 q536
 obtain rfl : ad532 = ad536 := (by injection e536)
 replace p536 := eq_true p536
 replace q536 := eq_true q536
 have p537 : 0 ≤ ((ji158) : Int) := of_decide_eq_true (by first | (with_reducible assumption) | assumption)
 have q537 : (ji158) < (t520.length : Int) := of_decide_eq_true (by first | (with_reducible assumption) | assumption)
 obtain ⟨ad537, e537, hx537_0⟩ := Kd.at_string (Kd.R_reads' HO_27.out).2.2 (ji158) p537 q537
 obtain rfl : ad532 = ad537 := (by injection e537)
 replace p537 := eq_true p537
 replace q537 := eq_true q537
 refine start_ (n := 27) (S := fun w' => w'.cell? (ad511.add ((ji153)).toNat) = some (.string (rdOf ByteArray.empty t486 (ji153))) ∧ w'.cell? (ad532.add (x29_5).toNat) = some (.string (rdOf ByteArray.empty t520 x29_5)) ∧ w'.cell? (ad532.add ((ji158)).toNat) = some (.string (rdOf ByteArray.empty t520 (ji158)))) (ds := []) (bA 27 0) (by kernel_rfl) rfl rfl ⟨hx535_0, hx536_0, hx537_0⟩ (fun hHeld => ?_); refine with_tabW laws_FnWhispers.tab30 laws_FnWhispers.bits30 (fun HT_ HW_ => ?_)
 generalize w163.drew = w164 at HO_5 HO_13 HO_17 HO_27 BK977 BK504 BK510 HB hx535_0 hx536_0 hx537_0 hHeld ⊢
 refine pU 0 306 (bA 27 1) HT_ ?_
 refine pU 1 307 (bA 27 3) HT_ ?_
 refine pU 2 308 (bA 27 7) HT_ ?_
 refine pU 3 309 (bA 27 15) HT_ ?_
 refine pU 4 310 (bA 27 31) HT_ ?_
 refine pU 5 311 (bA 27 63) HT_ ?_
 refine pU 6 312 (bA 27 127) HT_ ?_
 refine pU 7 313 (bA 27 255) HT_ ?_
 refine tK 8 314 (bA 27 511) HT_ HW_ hHeld ?_
 refine pU 9 315 (bA 27 1023) HT_ ?_
 refine pU 10 316 (bA 27 2047) HT_ ?_
 refine pU 11 317 (bA 27 4095) HT_ ?_
 refine pU 12 318 (bA 27 8191) HT_ ?_
 refine pU 13 319 (bA 27 16383) HT_ ?_
 refine pU 14 320 (bA 27 32767) HT_ ?_
 refine pU 15 321 (bA 27 65535) HT_ ?_
 refine pU 16 322 (bA 27 131071) HT_ ?_
 refine pU 17 323 (bA 27 262143) HT_ ?_
 refine pU 19 325 (bA 27 786431) HT_ ?_
 refine pU 20 326 (bA 27 1835007) HT_ ?_
 refine pU 21 327 (bA 27 3932159) HT_ ?_
 refine pU 22 328 (bA 27 8126463) HT_ ?_
 refine tK 18 324 (bA 27 8388607) HT_ HW_ hHeld ?_
 refine tK 23 329 (bA 27 16777215) HT_ HW_ hHeld ?_
 refine pU 24 330 (bA 27 33554431) HT_ ?_
 refine pU 25 331 (bA 27 67108863) HT_ ?_
 refine pU 26 332 (bA 27 134217727) HT_ ?_
 refine done_ (done_of HT_.out (by kernel_rfl)) ?_
 try go_wp2
 refine handM k5 hJ5_ ?measure (by kernel_rfl) ?rel
 case measure => have := HJ3.out; have := HJ16.out; have := HK3.out; have := HJ82.out; have := HK5.out; omega
 case rel => dsimp only [List.getD_cons_succ, List.getD_cons_zero]; exact ⟨(wrap64 (x29_5 + 1)), (by first | rfl | (simp; done) | (simp [*]; done)), H', ⟨by have := HJ3.out; have := HJ16.out; have := HK3.out; have := HJ82.out; have := HK5.out; omega⟩, ⟨(zR HO_5.out)⟩, ⟨(zR HO_13.out)⟩, ⟨(zR HO_17.out)⟩, ⟨(zR HO_27.out)⟩, ⟨(zK BK977.out)⟩, ⟨(zK BK504.out)⟩, ⟨(zK BK510.out)⟩, ⟨zH2 HB GE504 GE510⟩⟩
 }
 {
 rw [if_neg c161] at H
 have c161b0 : (Op.bytesLess ((rdOf ByteArray.empty t520 (ji158)).toList) ((rdOf ByteArray.empty t520 x29_5).toList)) = false := by simpa using c161
 clear c161
 exact absurd ((Option.some.inj H).trans HT.out) (by decide)
 }
 }
 · rw [if_neg c160] at H; exact absurd H (by simp)
 }
 · rw [if_neg c159] at H; exact absurd H (by simp)
 }
 {
 rw [if_neg c157] at H
 have c157b0 : decide (0 < x29_5) = false := decide_eq_false c157
 clear c157
 have H' := ak H
 clear H
 try go_wp2
 replace HO_5 := ak (Kd.R_drew HO_5.out)
 replace HO_13 := ak (Kd.R_drew HO_13.out)
 replace HO_17 := ak (Kd.R_drew HO_17.out)
 replace HO_27 := ak (Kd.R_drew HO_27.out)
 replace BK977 := ak (blk_drew BK977.out)
 replace BK504 := ak (blk_drew BK504.out)
 replace BK510 := ak (blk_drew BK510.out)
 replace HB := ak (below_drew1 HB.out)
 have p532 : 0 ≤ (x29_5 : Int) := of_decide_eq_true (by first | (with_reducible assumption) | assumption)
 have q532 : x29_5 < (t520.length : Int) := of_decide_eq_true (by first | (with_reducible assumption) | assumption)
 obtain ⟨ad532, e532, hx532_0⟩ := Kd.at_string (Kd.R_reads' HO_27.out).2.2 x29_5 p532 q532
 cases e532
 replace p532 := eq_true p532
 replace q532 := eq_true q532
 refine start_ (n := 11) (S := fun w' => w'.cell? ⟨gb504, 0, none⟩ = some (.int .i8 ((rd_T40 t474 x19_3).f0)) ∧ w'.cell? ⟨gb504, 1, none⟩ = some (.int .u8 ((rd_T40 t474 x19_3).f1)) ∧ w'.cell? ⟨gb504, 2, none⟩ = some (.int .u8 ((rd_T40 t474 x19_3).f2)) ∧ w'.cell? (ad532.add (x29_5).toNat) = some (.string (rdOf ByteArray.empty t520 x29_5))) (ds := []) (bA 11 0) (by kernel_rfl) rfl rfl ⟨(blk_cell BK504.out 0).trans rfl, (blk_cell BK504.out 1).trans rfl, (blk_cell BK504.out 2).trans rfl, hx532_0⟩ (fun hHeld => ?_); refine with_tabW laws_FnWhispers.tab29 laws_FnWhispers.bits29 (fun HT_ HW_ => ?_)
 generalize wr.drew = w165 at HO_5 HO_13 HO_17 HO_27 BK977 BK504 BK510 HB hx532_0 hHeld ⊢
 refine pU 1 299 (bA 11 2) HT_ ?_
 refine pU 2 300 (bA 11 6) HT_ ?_
 refine pU 3 301 (bA 11 14) HT_ ?_
 refine tK 0 298 (bA 11 15) HT_ HW_ hHeld ?_
 refine tK 4 302 (bA 11 31) HT_ HW_ hHeld ?_
 refine one_ (i := 5) (N := some 303) (bA 11 63) rfl rfl (one_of HT_.out (by kernel_rfl)) (by decide) (fun K hK => ?_)
 refine goes_ Tryz.func18 (by kernel_rfl) rfl #[.agg #[.int .i8 ((rd_T40 t474 x19_3).f0), .int .u8 ((rd_T40 t474 x19_3).f1), .int .u8 ((rd_T40 t474 x19_3).f2)], .string (rdOf ByteArray.empty t520 x29_5)] (by rfl) rfl rfl gl_ ?_
 with_reducible refine (impl_Hear.calls k5 ((rd_T40 t474 x19_3).f0) ((rd_T40 t474 x19_3).f1) ((rd_T40 t474 x19_3).f2) (rdOf ByteArray.empty t520 x29_5) a977_0 t533 t534 _ ?side1 A151.out).mono ?_
 (case side1 => exact (zK BK977.out))
 rintro e w166 ⟨rfl, hb⟩
 have HS3_ := (hb.cell (World.block_lt_of_cell? _ _ (hHeld.2.2.2))).trans (hHeld.2.2.2)
 refine ⟨_, rfl, ?_⟩
 replace HO_5 := kR HO_5 hb
 replace HO_13 := kR HO_13 hb
 replace HO_17 := kR HO_17 hb
 replace HO_27 := kR HO_27 hb
 replace BK977 := kK BK977 hb
 replace BK504 := kK BK504 hb
 replace BK510 := kK BK510 hb
 replace HB := kB2 HB GE504 GE510 hb
 (try clear hb)
 refine hK.out _ _ ⟨(blk_cell BK504.out 0).trans rfl, (blk_cell BK504.out 1).trans rfl, (blk_cell BK504.out 2).trans rfl, HS3_⟩ (fun hHeld => ?_)
 clear hK K
 refine norm_ (a' := ?_) ?_ ?_
 rotate_left
 {
 show Act.put _ (some 303) _ = _
 simp only [Act.put, zs, zz, zk, i64_w, i32_w]
 rfl
 }
 refine pU 6 297 (bA 11 127) HT_ ?_
 refine pU 7 304 (bA 11 255) HT_ ?_
 refine pU 8 305 (bA 11 511) HT_ ?_
 refine pU 9 30 (bA 11 1023) HT_ ?_
 refine pU 10 31 (bA 11 2047) HT_ ?_
 refine done_ (done_of HT_.out (by kernel_rfl)) ?_
 try go_wp2
 replace HO_5 := ak (Kd.R_drew HO_5.out)
 replace HO_13 := ak (Kd.R_drew HO_13.out)
 replace HO_17 := ak (Kd.R_drew HO_17.out)
 replace HO_27 := ak (Kd.R_drew HO_27.out)
 replace BK977 := ak (blk_drew BK977.out)
 replace BK504 := ak (blk_drew BK504.out)
 replace BK510 := ak (blk_drew BK510.out)
 replace HB := ak (below_drew1 HB.out)
 have p535 : 0 ≤ ((ji153) : Int) := of_decide_eq_true (by first | (with_reducible assumption) | assumption)
 have q535 : (ji153) < (t486.length : Int) := of_decide_eq_true (by first | (with_reducible assumption) | assumption)
 obtain ⟨ad535, e535, hx535_0⟩ := Kd.at_string (Kd.R_reads' HO_13.out).2.2 (ji153) p535 q535
 obtain rfl : ad511 = ad535 := (by injection e535)
 replace p535 := eq_true p535
 replace q535 := eq_true q535
 refine start_ (n := 27) (S := fun w' => w'.cell? (ad511.add ((ji153)).toNat) = some (.string (rdOf ByteArray.empty t486 (ji153)))) (ds := []) (bA 27 0) (by kernel_rfl) rfl rfl (hx535_0) (fun hHeld => ?_); refine with_tabW laws_FnWhispers.tab30 laws_FnWhispers.bits30 (fun HT_ HW_ => ?_)
 generalize w166.drew = w167 at HO_5 HO_13 HO_17 HO_27 BK977 BK504 BK510 HB hx535_0 hHeld ⊢
 refine pU 0 306 (bA 27 1) HT_ ?_
 refine pU 1 307 (bA 27 3) HT_ ?_
 refine pU 2 308 (bA 27 7) HT_ ?_
 refine pU 3 309 (bA 27 15) HT_ ?_
 refine pU 4 310 (bA 27 31) HT_ ?_
 refine pU 5 311 (bA 27 63) HT_ ?_
 refine pU 6 312 (bA 27 127) HT_ ?_
 refine pU 7 313 (bA 27 255) HT_ ?_
 refine take_ (i := 8) (N := some 314) (v := ?_) (a' := ?_) (bA 27 511) rfl rfl (take_ofW HT_.out HW_.out (by kernel_rfl)) (fun _ _ _ h => h) (Or.inl ⟨by rfl, ?_⟩) hHeld ?_ ?_
 rotate_left
 {
 intro w' s0
 go_simp
 with_reducible rfl
 }
 rotate_left
 · simp only [Act.put, zs, zz, zk, i64_w, i32_w]; rfl
 refine pU 9 315 (bA 27 1023) HT_ ?_
 refine pU 10 316 (bA 27 2047) HT_ ?_
 refine pU 11 317 (bA 27 4095) HT_ ?_
 refine pU 12 318 (bA 27 8191) HT_ ?_
 refine pU 13 319 (bA 27 16383) HT_ ?_
 refine pU 14 320 (bA 27 32767) HT_ ?_
 refine pN 15 321 (bA 27 65535) HT_ ?_
 refine pN 16 322 (bA 27 131071) HT_ ?_
 refine pN 17 323 (bA 27 262143) HT_ ?_
 refine pN 18 324 (bA 27 524287) HT_ ?_
 refine pN 19 325 (bA 27 1048575) HT_ ?_
 refine pN 20 326 (bA 27 2097151) HT_ ?_
 refine pN 21 327 (bA 27 4194303) HT_ ?_
 refine pN 22 328 (bA 27 8388607) HT_ ?_
 refine pN 23 329 (bA 27 16777215) HT_ ?_
 refine pN 24 330 (bA 27 33554431) HT_ ?_
 refine pU 25 331 (bA 27 67108863) HT_ ?_
 refine pU 26 332 (bA 27 134217727) HT_ ?_
 refine done_ (done_of HT_.out (by kernel_rfl)) ?_
 try go_wp2
 refine handM k5 hJ5_ ?measure (by kernel_rfl) ?rel
 case measure => have := HJ3.out; have := HJ16.out; have := HK3.out; have := HJ82.out; have := HK5.out; omega
 case rel => dsimp only [List.getD_cons_succ, List.getD_cons_zero]; exact ⟨(wrap64 (x29_5 + 1)), (by first | rfl | (simp; done) | (simp [*]; done)), H', ⟨by have := HJ3.out; have := HJ16.out; have := HK3.out; have := HJ82.out; have := HK5.out; omega⟩, ⟨(zR HO_5.out)⟩, ⟨(zR HO_13.out)⟩, ⟨(zR HO_17.out)⟩, ⟨(zR HO_27.out)⟩, ⟨(zK BK977.out)⟩, ⟨(zK BK504.out)⟩, ⟨(zK BK510.out)⟩, ⟨zH2 HB GE504 GE510⟩⟩
 }
 }
 · rw [if_neg c156] at H; have c156b0 : (t533.toList == (rdOf ByteArray.empty t486 (ji153)).toList) = false := beq_eq_false_iff_ne.mpr c156; have c156b1 : (t533.toList != (rdOf ByteArray.empty t486 (ji153)).toList) = true := bne_iff_ne.mpr c156; exact absurd ((Option.some.inj H).trans HT.out) (by decide)
 }
 · rw [if_neg c155] at H; exact absurd H (by simp)
 }
 · rw [if_neg c154] at H; exact absurd H (by simp)
 }
 · rw [if_neg c152] at H; have c152b0 : (t534 == 0) = false := beq_eq_false_iff_ne.mpr c152; have c152b1 : (t534 != 0) = true := bne_iff_ne.mpr c152; exact absurd ((Option.some.inj H).trans HT.out) (by decide)
 }
 · rw [if_neg c150] at H; exact absurd H (by simp)
 }
 {
 rw [if_neg c149] at H
 have c149b0 : decide (x29_5 < (t520.length : Int)) = false := decide_eq_false c149
 clear c149
 have H' := ak H
 clear H
 go_wp2
 refine handM k5 hJ3_ ?measure (by kernel_rfl) ?rel
 case measure => have := HJ3.out; have := HJ16.out; have := HK3.out; have := HJ82.out; have := HK5.out; omega
 case rel => dsimp only [List.getD_cons_succ, List.getD_cons_zero]; exact ⟨(wrap64 (x19_3 + 1)), (by first | rfl | (simp; done) | (simp [*]; done)), H', ⟨by have := HJ3.out; have := HJ16.out; have := HK3.out; have := HJ82.out; have := HK5.out; omega⟩, ⟨by (with_reducible repeat (first | apply Kd.R_alloc | apply Kd.R_drewN | apply Kd.R_drew)); exact Kd.R_mono HO_5.out (fun _ hk => trivial)⟩, ⟨by (with_reducible repeat (first | apply Kd.R_alloc | apply Kd.R_drewN | apply Kd.R_drew)); exact Kd.R_mono HO_13.out (fun _ hk => trivial)⟩, ⟨(zR HO_17.out)⟩, ⟨(zK BK977.out)⟩, ⟨zH2 HB GE504 GE510⟩⟩
 }
 )
 )
 }
 {
 replace c147 := Bool.eq_false_iff.mpr c147
 subst c147
 rw [if_neg (show ¬ (false = true) by decide)] at H
 exact absurd ((Option.some.inj H).trans HT.out) (by decide)
 }
 }
 · rw [if_neg c145] at H; exact absurd H (by simp)
 }
 · rw [if_neg c144] at H; exact absurd H (by simp)
 }
 {
 rw [if_neg c143] at H
 have c143b0 : (t518 == 0) = false := beq_eq_false_iff_ne.mpr c143
 have c143b1 : (t518 != 0) = true := bne_iff_ne.mpr c143
 have H' := ak H
 clear H
 go_wp2
 refine handM kj82 hJ3_ ?measure (by kernel_rfl) ?rel
 case measure => have := HJ3.out; have := HJ16.out; have := HK3.out; have := HJ82.out; omega
 case rel => dsimp only [List.getD_cons_succ, List.getD_cons_zero]; exact ⟨(wrap64 (x19_3 + 1)), (by first | rfl | (simp; done) | (simp [*]; done)), H', ⟨by have := HJ3.out; have := HJ16.out; have := HK3.out; have := HJ82.out; omega⟩, ⟨by (with_reducible repeat (first | apply Kd.R_alloc | apply Kd.R_drewN | apply Kd.R_drew)); exact Kd.R_mono HO_5.out (fun _ hk => trivial)⟩, ⟨by (with_reducible repeat (first | apply Kd.R_alloc | apply Kd.R_drewN | apply Kd.R_drew)); exact Kd.R_mono HO_13.out (fun _ hk => trivial)⟩, ⟨(zR HO_17.out)⟩, ⟨(zK BK977.out)⟩, ⟨zH2 HB GE504 GE510⟩⟩
 }
 }
 )
 )
 }
 · rw [if_neg c80] at H; exact absurd H (by simp)
 }
 · rw [if_neg c79] at H; exact absurd H (by simp)
 }
 · rw [if_neg c76] at H; exact absurd H (by simp)
 }
 · rw [if_neg c73] at H; exact absurd H (by simp)
 }
 {
 rw [if_neg c72] at H
 have c72b0 : decide (x19_3 < (t474.length : Int)) = false := decide_eq_false c72
 clear c72
 replace H := Option.bind_eq_some_iff.mp H
 obtain ⟨⟨t538, t541⟩, A1680, H⟩ := H
 have A168 := ak A1680
 clear A1680
 replace H := Option.bind_eq_some_iff.mp H
 obtain ⟨⟨t542, t543⟩, A1690, H⟩ := H
 have A169 := ak A1690
 clear A1690
 have HC170 := ak H
 clear H
 go_upto_region 34 with (first | ((with_reducible refine gate_callee (f := 24) rfl ?_); refine goesL_ (some 336) rfl rfl Tryz.func24 (by kernel_rfl) rfl #[.slice Ao20 t474.length co20, .string t480] rfl gl_ ?_; (with_reducible refine (impl_FirstWords.calls k3 _ _ t474 t480 a977_0 t538 t541 _ ?side1 ?side2 ?side3 A168.out).mono ?_); (case side1 => exact sC HO_5); (case side2 => exact sL HO_5); (case side3 => exact (zK BK977.out)); rintro e w171 ⟨v539, rfl, ho0, hb⟩; refine ⟨_, rfl, ?_⟩; have HO540 := ak (Kd.R_lower (Kd.R_new' ho0 (Kd.R_lt (zR HO_13.out))) (below_size (zB HB.out))); replace HO_5 := kR HO_5 hb; replace HO_13 := kE HO_13 ho0 hb; replace HO_17 := kR HO_17 hb; replace BK977 := kK BK977 hb; replace HB := kB HB hb; (try clear hb); (try clear ho0)) | ((with_reducible refine gate_callee (f := 25) rfl ?_); refine goesL_ (some 342) rfl rfl Tryz.func25 (by kernel_rfl) rfl #[.slice Ao20 t474.length co20, .string t480] rfl gl_ ?_; (with_reducible refine (spec_FirstWords.calls k3 _ _ t474 t480 t542 t543 _ ?side1 ?side2 A169.out).mono ?_); (case side1 => exact sC HO_5); (case side2 => exact sL HO_5); rintro e w172 ⟨v544, rfl, ho0, hb⟩; refine ⟨_, rfl, ?_⟩; have HO545 := ak (Kd.R_lower (Kd.R_new' (Kd.R_new' ho0 (Kd.R_lt (zR HO_13.out))) (Kd.R_lt (zR HO540.out))) (below_size (zB HB.out))); replace HO_5 := kR HO_5 hb; replace HO_13 := kE HO_13 ho0 hb; replace HO_17 := kR HO_17 hb; replace HO540 := kE HO540 ho0 hb; replace BK977 := kK BK977 hb; replace HB := kB HB hb; (try clear hb); (try clear ho0)))
 (try simp only [Act.put, zs, zz, zk])
 refine wp_cutM 97554642197374757230674913431036447054643691958280348464348654988292866838117675628759565720734124098744591597543956965482749238851859008978944 (fun (u : Nat → Value) wc => ∃ (kq : Nat) (x371_169 : Bool), u 371 = .bool x371_169 ∧ Aside0 (laws_FnWhispers.j5 kq t474 t477 t480 t542 x371_169 a977_0 = some r) ∧ Aside0 (kq ≤ k3) ∧ Aside0 (Kd.R k40 40 wc w.heap.size (fun _ => True) (.slice Ao20 t474.length co20) t474) ∧ Aside0 (Kd.R Kd.string 9 wc w.heap.size (fun _ => True) v544 t542) ∧ Aside0 (wc.heap[0]? = some (.cells #[.int .i64 a977_0] 3 (0, 0))) ∧ Aside0 (Below w.heap.size w wc)) ?first ?rest
 case first => (
 as_aux_lemma =>
 intro J_ K_ hJ6_ hK_
 have H := HC170.out
 clear HC170
 by_cases c173 : t541 = t543
 {
 rw [if_pos c173] at H
 have c173b0 : (t541 == t543) = true := beq_iff_eq.mpr c173
 have c173b1 : (t541 != t543) = false := bne_eq_false_iff_eq.mpr c173
 clear c173
 (first | rw [c173b0] | (simp only [i64_w, i32_w]; rw [c173b0]) | skip)
 replace H := Option.bind_eq_some_iff.mp H
 obtain ⟨t546, A1740, H⟩ := H
 have A174 := ak A1740
 clear A1740
 by_cases c175 : t546 = true
 {
 subst c175
 rw [if_pos rfl] at H
 by_cases c176 : t541 = 0
 {
 rw [if_pos c176] at H
 have c176b0 : (t541 == 0) = true := beq_iff_eq.mpr c176
 have c176b1 : (t541 != 0) = false := bne_eq_false_iff_eq.mpr c176
 clear c176
 replace H := Option.bind_eq_some_iff.mp H
 obtain ⟨t547, A1770, H⟩ := H
 have A177 := ak A1770
 clear A1770
 have H' := ak H
 clear H
 obtain ⟨Ao178, co178, eo178⟩ := Kd.R_slice HO540.out
 subst eo178
 obtain ⟨Ao179, co179, eo179⟩ := Kd.R_slice HO545.out
 subst eo179
 go_wp2_with (first | (go_at_call 14; (with_reducible refine (spec_SameWords.calls k3 _ _ t538 _ _ t542 true _ ?side1 ?side2 ?side3 ?side4 A174.out).mono ?_); (case side1 => exact sC HO540); (case side2 => exact sL HO540); (case side3 => exact sC HO545); (case side4 => exact sL HO545); rintro e w' ⟨rfl, ⟨nd, rfl⟩⟩) | (go_at_call 23; (with_reducible refine (spec_HasWord.calls k3 _ _ t542 t477 t547 _ ?side1 ?side2 A177.out).mono ?_); (case side1 => exact sC HO545); (case side2 => exact sL HO545); rintro e w' ⟨rfl, ⟨nd, rfl⟩⟩))
 refine meetM hJ6_ (by kernel_rfl) ?rel
 case rel => dsimp only [List.getD_cons_succ, List.getD_cons_zero]; exact ⟨_, (!t547), (by first | rfl | (simp; done) | (simp [*]; done)), H', ⟨by have := HJ3.out; have := HJ16.out; have := HK3.out; first | omega | exact Nat.le_refl _⟩, ⟨(zR HO_5.out)⟩, ⟨by (with_reducible repeat (first | apply Kd.R_alloc | apply Kd.R_drewN | apply Kd.R_drew)); exact Kd.R_mono HO545.out (fun _ hk => trivial)⟩, ⟨(zK BK977.out)⟩, ⟨zB HB.out⟩⟩
 }
 {
 rw [if_neg c176] at H
 have c176b0 : (t541 == 0) = false := beq_eq_false_iff_ne.mpr c176
 have c176b1 : (t541 != 0) = true := bne_iff_ne.mpr c176
 by_cases c180 : t541 = 3
 {
 rw [if_pos c180] at H
 have c180b0 : (t541 == 3) = true := beq_iff_eq.mpr c180
 have c180b1 : (t541 != 3) = false := bne_eq_false_iff_eq.mpr c180
 clear c180
 have H' := ak H
 clear H
 obtain ⟨Ao181, co181, eo181⟩ := Kd.R_slice HO540.out
 subst eo181
 obtain ⟨Ao182, co182, eo182⟩ := Kd.R_slice HO545.out
 subst eo182
 go_wp2_with (first | (go_at_call 14; (with_reducible refine (spec_SameWords.calls k3 _ _ t538 _ _ t542 true _ ?side1 ?side2 ?side3 ?side4 A174.out).mono ?_); (case side1 => exact sC HO540); (case side2 => exact sL HO540); (case side3 => exact sC HO545); (case side4 => exact sL HO545); rintro e w' ⟨rfl, ⟨nd, rfl⟩⟩))
 refine meetM hJ6_ (by kernel_rfl) ?rel
 case rel => dsimp only [List.getD_cons_succ, List.getD_cons_zero]; exact ⟨_, (false), (by first | rfl | (simp; done) | (simp [*]; done)), H', ⟨by have := HJ3.out; have := HJ16.out; have := HK3.out; first | omega | exact Nat.le_refl _⟩, ⟨(zR HO_5.out)⟩, ⟨by (with_reducible repeat (first | apply Kd.R_alloc | apply Kd.R_drewN | apply Kd.R_drew)); exact Kd.R_mono HO545.out (fun _ hk => trivial)⟩, ⟨(zK BK977.out)⟩, ⟨zB HB.out⟩⟩
 }
 {
 rw [if_neg c180] at H
 have c180b0 : (t541 == 3) = false := beq_eq_false_iff_ne.mpr c180
 have c180b1 : (t541 != 3) = true := bne_iff_ne.mpr c180
 exact (laws_FnWhispers.n5 H HT).elim
 }
 }
 }
 {
 replace c175 := Bool.eq_false_iff.mpr c175
 subst c175
 rw [if_neg (show ¬ (false = true) by decide)] at H
 exact (laws_FnWhispers.n5 H HT).elim
 }
 }
 {
 rw [if_neg c173] at H
 have c173b0 : (t541 == t543) = false := beq_eq_false_iff_ne.mpr c173
 have c173b1 : (t541 != t543) = true := bne_iff_ne.mpr c173
 (first | rw [c173b0] | (simp only [i64_w, i32_w]; rw [c173b0]) | skip)
 exact (laws_FnWhispers.n5 H HT).elim
 }
 )
 case rest => (
 as_aux_lemma =>
 intro u6_ wc hcut
 dsimp only [frU, cond, Nat.reduceMod, Nat.reduceDiv, Nat.reduceAdd, Nat.reduceBEq, Nat.reduceEqDiff, beq_self_eq_true]
 clear HC170
 try clear c1
 try clear c8
 try clear c72
 try clear c72b0
 obtain ⟨kq, x371_169, eu6_371, HA, HJ169, HO_5, HO_34, BK977, HB⟩ := hcut
 rw [eu6_371]
 clear eu6_371
 cases kq with
 | zero => exact absurd HA.out (by simp [laws_FnWhispers.j5])
 | succ kj169 => (
 have H := HA.out
 clear HA
 simp only [laws_FnWhispers.j5] at H
 by_cases c187 : x371_169 = true
 {
 subst c187
 rw [if_pos rfl] at H
 exact absurd ((Option.some.inj H).trans HT.out) (by decide)
 }
 {
 replace c187 := Bool.eq_false_iff.mpr c187
 subst c187
 rw [if_neg (show ¬ (false = true) by decide)] at H
 have H' := ak H
 clear H
 go_wp2
 refine wp_loopM 2644223875151374765388619611229648846789169607392994081418266702907206101125849455133887405574433828292980835492955663892496 kj169 (fun kq (u : Nat → Value) w' => ∃ (x36_5 : Int), u 36 = .int .i64 x36_5 ∧ Aside0 (laws_FnWhispers.l2 kq t474 t477 t480 t542 x36_5 a977_0 = some r) ∧ Aside0 (kq ≤ kj169) ∧ Aside0 (Kd.R k40 40 w' w.heap.size (fun _ => True) (.slice Ao20 t474.length co20) t474) ∧ Aside0 (Kd.R Kd.string 9 w' w.heap.size (fun _ => True) v544 t542) ∧ Aside0 (w'.heap[0]? = some (.cells #[.int .i64 a977_0] 3 (0, 0))) ∧ Aside0 (Below w.heap.size w w')) ?atStart ?round
 case atStart => dsimp only [List.getD_cons_succ, List.getD_cons_zero]; exact ⟨(0), (by first | rfl | (simp; done) | (simp [*]; done)), H', ⟨Nat.le_refl _⟩, ⟨(zR HO_5.out)⟩, ⟨(zR HO_34.out)⟩, ⟨(zK BK977.out)⟩, ⟨zB HB.out⟩⟩
 case round => (
 as_aux_lemma =>
 intro gk u7_ wr hrel J_ K_ hJ7_ hK_
 dsimp only [frU, cond, Nat.reduceMod, Nat.reduceDiv, Nat.reduceAdd, Nat.reduceBEq, Nat.reduceEqDiff, beq_self_eq_true]
 clear H'
 try clear c1
 try clear c8
 try clear c72
 try clear c72b0
 try clear c187
 obtain ⟨x36_5, eu7_36, HA, HK5, HO_5, HO_34, BK977, HB⟩ := hrel
 rw [eu7_36]
 clear eu7_36
 cases gk with
 | zero => exact absurd HA.out (by simp [laws_FnWhispers.l2])
 | succ k5 => (
 have H := HA.out
 clear HA
 simp only [laws_FnWhispers.l2] at H
 by_cases c188 : x36_5 < (t542.length : Int)
 {
 rw [if_pos c188] at H
 have c188b0 : decide (x36_5 < (t542.length : Int)) = true := decide_eq_true c188
 clear c188
 by_cases c189 : 0 ≤ x36_5
 {
 rw [if_pos c189] at H
 have c189b0 : decide (0 ≤ x36_5) = true := decide_eq_true c189
 clear c189
 replace H := Option.bind_eq_some_iff.mp H
 obtain ⟨⟨t549, t550⟩, A1900, H⟩ := H
 have A190 := ak A1900
 clear A1900
 by_cases c191 : t550 = 0
 {
 rw [if_pos c191] at H
 have c191b0 : (t550 == 0) = true := beq_iff_eq.mpr c191
 have c191b1 : (t550 != 0) = false := bne_eq_false_iff_eq.mpr c191
 clear c191
 by_cases c192 : t549.toList = t480.toList
 {
 rw [if_pos c192] at H
 have c192b0 : (t549.toList == t480.toList) = true := beq_iff_eq.mpr c192
 have c192b1 : (t549.toList != t480.toList) = false := bne_eq_false_iff_eq.mpr c192
 clear c192
 by_cases c193 : x36_5 > 0
 {
 rw [if_pos c193] at H
 have c193b0 : decide (0 < x36_5) = true := decide_eq_true c193
 clear c193
 obtain ⟨ji194, hji194⟩ : ∃ j_ : Int, (wrap64 (x36_5 - 1)) = j_ := ⟨_, rfl⟩
 first | rw [hji194] at H | simp only [hji194] at H
 (try rw [hji194] at A190)
 have hji194w : (IntKind.i64.wrap (x36_5 - 1)) = ji194 := (i64_w _).trans hji194
 by_cases c195 : 0 ≤ (ji194)
 {
 rw [if_pos c195] at H
 have c195b0 : decide (0 ≤ (ji194)) = true := decide_eq_true c195
 clear c195
 by_cases c196 : (ji194) < (t542.length : Int)
 {
 rw [if_pos c196] at H
 have c196b0 : decide ((ji194) < (t542.length : Int)) = true := decide_eq_true c196
 clear c196
 by_cases c197 : ((Op.bytesLess ((rdOf ByteArray.empty t542 (ji194)).toList) ((rdOf ByteArray.empty t542 x36_5).toList)) = true)
 {
 rw [if_pos c197] at H
 have c197b0 : (Op.bytesLess ((rdOf ByteArray.empty t542 (ji194)).toList) ((rdOf ByteArray.empty t542 x36_5).toList)) = true := c197
 clear c197
 have H' := ak H
 clear H
 obtain ⟨Ao198, co198, eo198⟩ := Kd.R_slice HO_34.out
 subst eo198
 have p548 : 0 ≤ (x36_5 : Int) := of_decide_eq_true (by first | (with_reducible assumption) | assumption)
 have q548 : x36_5 < (t542.length : Int) := of_decide_eq_true (by first | (with_reducible assumption) | assumption)
 obtain ⟨ad548, e548, hx548_0⟩ := Kd.at_string (Kd.R_reads' HO_34.out).2.2 x36_5 p548 q548
 cases e548
 replace p548 := eq_true p548
 replace q548 := eq_true q548
 try go_wp2_with (first | ((with_reducible refine gate_callee (f := 7) rfl ?_); refine goesL_ (some 384) rfl rfl Tryz.func7 (by kernel_rfl) rfl #[.slice Ao20 t474.length co20, .string (rdOf ByteArray.empty t542 x36_5)] rfl gl_ ?_; (with_reducible refine (impl_PassOn.calls k5 _ _ t474 (rdOf ByteArray.empty t542 x36_5) a977_0 t549 t550 _ ?side1 ?side2 ?side3 A190.out).mono ?_); (case side1 => exact zC (Kd.R_reads' HO_5.out).2.2); (case side2 => exact (Kd.R_reads' HO_5.out).2.1); (case side3 => exact (zK BK977.out)); rintro e w199 ⟨rfl, hb⟩; refine ⟨_, rfl, ?_⟩; have n0_ := ak (Kd.R_below (zR HO_5.out) hb); have n1_ := ak (Kd.R_below (zR HO_34.out) hb); have n2_ := ak (blk_below (g := 0) (o := .cells #[.int .i64 a977_0] 3 (0, 0)) (zK BK977.out) hb); have n3_ := ak (below_step (zB HB.out) hb); clear HO_5 HO_34 BK977 HB; have HO_5 := n0_; have HO_34 := n1_; have BK977 := n2_; have HB := n3_; clear n0_ n1_ n2_ n3_; (try clear hb); (try clear hb2); (try clear hk); (try clear hi)))
 replace HO_5 := ak (Kd.R_drew HO_5.out)
 replace HO_34 := ak (Kd.R_drew HO_34.out)
 replace BK977 := ak (blk_drew BK977.out)
 replace HB := ak (below_drew1 HB.out)
 have p551 : 0 ≤ (x36_5 : Int) := of_decide_eq_true (by first | (with_reducible assumption) | assumption)
 have q551 : x36_5 < (t542.length : Int) := of_decide_eq_true (by first | (with_reducible assumption) | assumption)
 obtain ⟨ad551, e551, hx551_0⟩ := Kd.at_string (Kd.R_reads' HO_34.out).2.2 x36_5 p551 q551
 obtain rfl : ad548 = ad551 := (by injection e551)
 replace p551 := eq_true p551
 replace q551 := eq_true q551
 have p552 : 0 ≤ ((ji194) : Int) := of_decide_eq_true (by first | (with_reducible assumption) | assumption)
 have q552 : (ji194) < (t542.length : Int) := of_decide_eq_true (by first | (with_reducible assumption) | assumption)
 obtain ⟨ad552, e552, hx552_0⟩ := Kd.at_string (Kd.R_reads' HO_34.out).2.2 (ji194) p552 q552
 obtain rfl : ad548 = ad552 := (by injection e552)
 replace p552 := eq_true p552
 replace q552 := eq_true q552
 refine start_ (n := 23) (S := fun w' => w'.cell? (ad548.add (x36_5).toNat) = some (.string (rdOf ByteArray.empty t542 x36_5)) ∧ w'.cell? (ad548.add ((ji194)).toNat) = some (.string (rdOf ByteArray.empty t542 (ji194)))) (ds := []) (bA 23 0) (by kernel_rfl) rfl rfl ⟨hx551_0, hx552_0⟩ (fun hHeld => ?_); refine with_tabW laws_FnWhispers.tab40 laws_FnWhispers.bits40 (fun HT_ HW_ => ?_)
 generalize w199.drew = w200 at HO_5 HO_34 BK977 HB hx551_0 hx552_0 hHeld ⊢
 refine pU 0 387 (bA 23 1) HT_ ?_
 refine pU 1 388 (bA 23 3) HT_ ?_
 refine pU 2 389 (bA 23 7) HT_ ?_
 refine pU 3 390 (bA 23 15) HT_ ?_
 refine pU 4 391 (bA 23 31) HT_ ?_
 refine pU 5 392 (bA 23 63) HT_ ?_
 refine pU 6 393 (bA 23 127) HT_ ?_
 refine pU 7 394 (bA 23 255) HT_ ?_
 refine pU 8 395 (bA 23 511) HT_ ?_
 refine pU 9 396 (bA 23 1023) HT_ ?_
 refine pU 10 397 (bA 23 2047) HT_ ?_
 refine pU 11 398 (bA 23 4095) HT_ ?_
 refine pU 12 399 (bA 23 8191) HT_ ?_
 refine pU 13 400 (bA 23 16383) HT_ ?_
 refine pU 15 402 (bA 23 49151) HT_ ?_
 refine pU 16 403 (bA 23 114687) HT_ ?_
 refine pU 17 404 (bA 23 245759) HT_ ?_
 refine pU 18 405 (bA 23 507903) HT_ ?_
 refine tK 14 401 (bA 23 524287) HT_ HW_ hHeld ?_
 refine tK 19 406 (bA 23 1048575) HT_ HW_ hHeld ?_
 refine pU 20 407 (bA 23 2097151) HT_ ?_
 refine pU 21 408 (bA 23 4194303) HT_ ?_
 refine pU 22 409 (bA 23 8388607) HT_ ?_
 refine done_ (done_of HT_.out (by kernel_rfl)) ?_
 try go_wp2
 refine handM k5 hJ7_ ?measure (by kernel_rfl) ?rel
 case measure => have := HJ3.out; have := HJ16.out; have := HK3.out; have := HJ169.out; have := HK5.out; omega
 case rel => dsimp only [List.getD_cons_succ, List.getD_cons_zero]; exact ⟨(wrap64 (x36_5 + 1)), (by first | rfl | (simp; done) | (simp [*]; done)), H', ⟨by have := HJ3.out; have := HJ16.out; have := HK3.out; have := HJ169.out; have := HK5.out; omega⟩, ⟨(zR HO_5.out)⟩, ⟨(zR HO_34.out)⟩, ⟨(zK BK977.out)⟩, ⟨zB HB.out⟩⟩
 }
 {
 rw [if_neg c197] at H
 have c197b0 : (Op.bytesLess ((rdOf ByteArray.empty t542 (ji194)).toList) ((rdOf ByteArray.empty t542 x36_5).toList)) = false := by simpa using c197
 clear c197
 exact absurd ((Option.some.inj H).trans HT.out) (by decide)
 }
 }
 · rw [if_neg c196] at H; exact absurd H (by simp)
 }
 · rw [if_neg c195] at H; exact absurd H (by simp)
 }
 {
 rw [if_neg c193] at H
 have c193b0 : decide (0 < x36_5) = false := decide_eq_false c193
 clear c193
 have H' := ak H
 clear H
 obtain ⟨Ao201, co201, eo201⟩ := Kd.R_slice HO_34.out
 subst eo201
 have p548 : 0 ≤ (x36_5 : Int) := of_decide_eq_true (by first | (with_reducible assumption) | assumption)
 have q548 : x36_5 < (t542.length : Int) := of_decide_eq_true (by first | (with_reducible assumption) | assumption)
 obtain ⟨ad548, e548, hx548_0⟩ := Kd.at_string (Kd.R_reads' HO_34.out).2.2 x36_5 p548 q548
 cases e548
 replace p548 := eq_true p548
 replace q548 := eq_true q548
 try go_wp2_with (first | ((with_reducible refine gate_callee (f := 7) rfl ?_); refine goesL_ (some 384) rfl rfl Tryz.func7 (by kernel_rfl) rfl #[.slice Ao20 t474.length co20, .string (rdOf ByteArray.empty t542 x36_5)] rfl gl_ ?_; (with_reducible refine (impl_PassOn.calls k5 _ _ t474 (rdOf ByteArray.empty t542 x36_5) a977_0 t549 t550 _ ?side1 ?side2 ?side3 A190.out).mono ?_); (case side1 => exact zC (Kd.R_reads' HO_5.out).2.2); (case side2 => exact (Kd.R_reads' HO_5.out).2.1); (case side3 => exact (zK BK977.out)); rintro e w202 ⟨rfl, hb⟩; refine ⟨_, rfl, ?_⟩; have n0_ := ak (Kd.R_below (zR HO_5.out) hb); have n1_ := ak (Kd.R_below (zR HO_34.out) hb); have n2_ := ak (blk_below (g := 0) (o := .cells #[.int .i64 a977_0] 3 (0, 0)) (zK BK977.out) hb); have n3_ := ak (below_step (zB HB.out) hb); clear HO_5 HO_34 BK977 HB; have HO_5 := n0_; have HO_34 := n1_; have BK977 := n2_; have HB := n3_; clear n0_ n1_ n2_ n3_; (try clear hb); (try clear hb2); (try clear hk); (try clear hi)))
 replace HO_5 := ak (Kd.R_drew HO_5.out)
 replace HO_34 := ak (Kd.R_drew HO_34.out)
 replace BK977 := ak (blk_drew BK977.out)
 replace HB := ak (below_drew1 HB.out)
 refine start_ (n := 23) (S := fun w' => True) (ds := []) (bA 23 0) (by kernel_rfl) rfl rfl trivial (fun hHeld => ?_); refine with_tabW laws_FnWhispers.tab40 laws_FnWhispers.bits40 (fun HT_ HW_ => ?_)
 generalize w202.drew = w203 at HO_5 HO_34 BK977 HB hHeld ⊢
 refine pU 0 387 (bA 23 1) HT_ ?_
 refine pU 1 388 (bA 23 3) HT_ ?_
 refine pU 2 389 (bA 23 7) HT_ ?_
 refine pU 3 390 (bA 23 15) HT_ ?_
 refine pU 4 391 (bA 23 31) HT_ ?_
 refine pU 5 392 (bA 23 63) HT_ ?_
 refine pU 6 393 (bA 23 127) HT_ ?_
 refine pU 7 394 (bA 23 255) HT_ ?_
 refine pU 8 395 (bA 23 511) HT_ ?_
 refine pU 9 396 (bA 23 1023) HT_ ?_
 refine pU 10 397 (bA 23 2047) HT_ ?_
 refine pN 11 398 (bA 23 4095) HT_ ?_
 refine pN 12 399 (bA 23 8191) HT_ ?_
 refine pN 13 400 (bA 23 16383) HT_ ?_
 refine pN 14 401 (bA 23 32767) HT_ ?_
 refine pN 15 402 (bA 23 65535) HT_ ?_
 refine pN 16 403 (bA 23 131071) HT_ ?_
 refine pN 17 404 (bA 23 262143) HT_ ?_
 refine pN 18 405 (bA 23 524287) HT_ ?_
 refine pN 19 406 (bA 23 1048575) HT_ ?_
 refine pN 20 407 (bA 23 2097151) HT_ ?_
 refine pU 21 408 (bA 23 4194303) HT_ ?_
 refine pU 22 409 (bA 23 8388607) HT_ ?_
 refine done_ (done_of HT_.out (by kernel_rfl)) ?_
 try go_wp2
 refine handM k5 hJ7_ ?measure (by kernel_rfl) ?rel
 case measure => have := HJ3.out; have := HJ16.out; have := HK3.out; have := HJ169.out; have := HK5.out; omega
 case rel => dsimp only [List.getD_cons_succ, List.getD_cons_zero]; exact ⟨(wrap64 (x36_5 + 1)), (by first | rfl | (simp; done) | (simp [*]; done)), H', ⟨by have := HJ3.out; have := HJ16.out; have := HK3.out; have := HJ169.out; have := HK5.out; omega⟩, ⟨(zR HO_5.out)⟩, ⟨(zR HO_34.out)⟩, ⟨(zK BK977.out)⟩, ⟨zB HB.out⟩⟩
 }
 }
 · rw [if_neg c192] at H; have c192b0 : (t549.toList == t480.toList) = false := beq_eq_false_iff_ne.mpr c192; have c192b1 : (t549.toList != t480.toList) = true := bne_iff_ne.mpr c192; exact absurd ((Option.some.inj H).trans HT.out) (by decide)
 }
 · rw [if_neg c191] at H; have c191b0 : (t550 == 0) = false := beq_eq_false_iff_ne.mpr c191; have c191b1 : (t550 != 0) = true := bne_iff_ne.mpr c191; exact absurd ((Option.some.inj H).trans HT.out) (by decide)
 }
 · rw [if_neg c189] at H; exact absurd H (by simp)
 }
 {
 rw [if_neg c188] at H
 have c188b0 : decide (x36_5 < (t542.length : Int)) = false := decide_eq_false c188
 clear c188
 replace H := Option.bind_eq_some_iff.mp H
 obtain ⟨⟨t553, t554, t555⟩, A2040, H⟩ := H
 have A204 := ak A2040
 clear A2040
 replace H := Option.bind_eq_some_iff.mp H
 obtain ⟨⟨t556, t557, t558⟩, A2050, H⟩ := H
 have A205 := ak A2050
 clear A2050
 have HC206 := ak H
 clear H
 obtain ⟨Ao207, co207, eo207⟩ := Kd.R_slice HO_34.out
 subst eo207
 go_upto_region 44 with (first | ((with_reducible refine gate_callee (f := 26) rfl ?_); refine goesL_ (some 413) rfl rfl Tryz.func26 (by kernel_rfl) rfl #[.slice Ao20 t474.length co20, .string t477] rfl gl_ ?_; (with_reducible refine (impl_RoundUntil.calls k5 _ _ t474 t477 a977_0 t553 t554 t555 _ ?side1 ?side2 ?side3 A204.out).mono ?_); (case side1 => exact sC HO_5); (case side2 => exact sL HO_5); (case side3 => exact (zK BK977.out)); rintro e w208 ⟨rfl, hb⟩; refine ⟨_, rfl, ?_⟩; replace HO_5 := kR HO_5 hb; replace HO_34 := kR HO_34 hb; replace BK977 := kK BK977 hb; replace HB := kB HB hb; (try clear hb)) | ((with_reducible refine gate_callee (f := 27) rfl ?_); refine goesL_ (some 420) rfl rfl Tryz.func27 (by kernel_rfl) rfl #[.slice Ao20 t474.length co20, .string t477] rfl gl_ ?_; (with_reducible refine (spec_RoundUntil.calls k5 _ _ t474 t477 t556 t557 t558 _ ?side1 ?side2 A205.out).mono ?_); (case side1 => exact sC HO_5); (case side2 => exact sL HO_5); rintro e w209 ⟨rfl, hb⟩; refine ⟨_, rfl, ?_⟩; replace HO_5 := kR HO_5 hb; replace HO_34 := kR HO_34 hb; replace BK977 := kK BK977 hb; replace HB := kB HB hb; (try clear hb)))
 (try simp only [Act.put, zs, zz, zk])
 refine wp_cutM 97554642197374757230674913431036447054643691958280348464348654988292866838117675628759565720734124098744591597543956965482749238851859008978944 (fun (u : Nat → Value) wc => ∃ (kq : Nat) (x449_205 : Bool), u 449 = .bool x449_205 ∧ Aside0 (laws_FnWhispers.j7 kq t474 t477 t556 t557 x449_205 = some r) ∧ Aside0 (kq ≤ k5) ∧ Aside0 (Kd.R k40 40 wc w.heap.size (fun _ => True) (.slice Ao20 t474.length co20) t474) ∧ Aside0 (wc.heap[0]? = some (.cells #[.int .i64 a977_0] 3 (0, 0))) ∧ Aside0 (Below w.heap.size w wc)) ?first ?rest
 case first => (
 as_aux_lemma =>
 intro J_ K_ hJ8_ hK_
 have H := HC206.out
 clear HC206
 by_cases c210 : t555 = t558
 {
 rw [if_pos c210] at H
 have c210b0 : (t555 == t558) = true := beq_iff_eq.mpr c210
 have c210b1 : (t555 != t558) = false := bne_eq_false_iff_eq.mpr c210
 clear c210
 (first | rw [c210b0] | (simp only [i64_w, i32_w]; rw [c210b0]) | skip)
 by_cases c211 : t555 = 0
 {
 rw [if_pos c211] at H
 have c211b0 : (t555 == 0) = true := beq_iff_eq.mpr c211
 have c211b1 : (t555 != 0) = false := bne_eq_false_iff_eq.mpr c211
 clear c211
 by_cases c212 : t553 = t556
 {
 rw [if_pos c212] at H
 have c212b0 : (t553 == t556) = true := beq_iff_eq.mpr c212
 have c212b1 : (t553 != t556) = false := bne_eq_false_iff_eq.mpr c212
 clear c212
 by_cases c213 : t554 = t557
 {
 rw [if_pos c213] at H
 have c213b0 : (t554 == t557) = true := beq_iff_eq.mpr c213
 have c213b1 : (t554 != t557) = false := bne_eq_false_iff_eq.mpr c213
 clear c213
 by_cases c214 : t557 < 1
 {
 rw [if_pos c214] at H
 have c214b0 : decide (t557 < 1) = true := decide_eq_true c214
 clear c214
 exact (laws_FnWhispers.n7 H HT).elim
 }
 {
 rw [if_neg c214] at H
 have c214b0 : decide (t557 < 1) = false := decide_eq_false c214
 clear c214
 have H' := ak H
 clear H
 go_wp2
 refine meetM hJ8_ (by kernel_rfl) ?rel
 case rel => dsimp only [List.getD_cons_succ, List.getD_cons_zero]; exact ⟨_, (decide (t557 > t556)), (by first | rfl | (simp; done) | (simp [*]; done)), H', ⟨by have := HJ3.out; have := HJ16.out; have := HK3.out; have := HJ169.out; have := HK5.out; first | omega | exact Nat.le_refl _⟩, ⟨(zR HO_5.out)⟩, ⟨(zK BK977.out)⟩, ⟨zB HB.out⟩⟩
 }
 }
 {
 rw [if_neg c213] at H
 have c213b0 : (t554 == t557) = false := beq_eq_false_iff_ne.mpr c213
 have c213b1 : (t554 != t557) = true := bne_iff_ne.mpr c213
 exact (laws_FnWhispers.n7 H HT).elim
 }
 }
 {
 rw [if_neg c212] at H
 have c212b0 : (t553 == t556) = false := beq_eq_false_iff_ne.mpr c212
 have c212b1 : (t553 != t556) = true := bne_iff_ne.mpr c212
 exact (laws_FnWhispers.n7 H HT).elim
 }
 }
 {
 rw [if_neg c211] at H
 have c211b0 : (t555 == 0) = false := beq_eq_false_iff_ne.mpr c211
 have c211b1 : (t555 != 0) = true := bne_iff_ne.mpr c211
 exact (laws_FnWhispers.n7 H HT).elim
 }
 }
 {
 rw [if_neg c210] at H
 have c210b0 : (t555 == t558) = false := beq_eq_false_iff_ne.mpr c210
 have c210b1 : (t555 != t558) = true := bne_iff_ne.mpr c210
 (first | rw [c210b0] | (simp only [i64_w, i32_w]; rw [c210b0]) | skip)
 exact (laws_FnWhispers.n7 H HT).elim
 }
 )
 case rest => (
 as_aux_lemma =>
 intro u8_ wc hcut
 dsimp only [frU, cond, Nat.reduceMod, Nat.reduceDiv, Nat.reduceAdd, Nat.reduceBEq, Nat.reduceEqDiff, beq_self_eq_true]
 clear HC206
 try clear c1
 try clear c187
 try clear c188
 try clear c188b0
 obtain ⟨kq, x449_205, eu8_449, HA, HJ205, HO_5, BK977, HB⟩ := hcut
 rw [eu8_449]
 clear eu8_449
 cases kq with
 | zero => exact absurd HA.out (by simp [laws_FnWhispers.j7])
 | succ kj205 => (
 have H := HA.out
 clear HA
 simp only [laws_FnWhispers.j7] at H
 by_cases c215 : x449_205 = true
 {
 subst c215
 rw [if_pos rfl] at H
 exact absurd ((Option.some.inj H).trans HT.out) (by decide)
 }
 {
 replace c215 := Bool.eq_false_iff.mpr c215
 subst c215
 rw [if_neg (show ¬ (false = true) by decide)] at H
 have H' := ak H
 clear H
 go_wp2
 refine wp_loopM 12194318645252255924124115389698629673757911836523272560954617369693421464536099639228172496034954092126024977492648920426496719534309341397008 kj205 (fun kq (u : Nat → Value) w' => ∃ (x45_7 : ByteArray) (x46_7 : ByteArray) (x47_7 : Int), u 45 = .string x45_7 ∧ u 46 = .string x46_7 ∧ u 47 = .int .i64 x47_7 ∧ Aside0 (laws_FnWhispers.l3 kq t474 t556 t557 x45_7 x46_7 x47_7 = some r) ∧ Aside0 (kq ≤ kj205) ∧ Aside0 (Kd.R k40 40 w' w.heap.size (fun _ => True) (.slice Ao20 t474.length co20) t474) ∧ Aside0 (w'.heap[0]? = some (.cells #[.int .i64 a977_0] 3 (0, 0))) ∧ Aside0 (Below w.heap.size w w')) ?atStart ?round
 case atStart => dsimp only [List.getD_cons_succ, List.getD_cons_zero]; exact ⟨(t477), (t477), (0), (by first | rfl | (simp; done) | (simp [*]; done)), (by first | rfl | (simp; done) | (simp [*]; done)), (by first | rfl | (simp; done) | (simp [*]; done)), H', ⟨Nat.le_refl _⟩, ⟨(zR HO_5.out)⟩, ⟨(zK BK977.out)⟩, ⟨zB HB.out⟩⟩
 case round => (
 as_aux_lemma =>
 intro gk u9_ wr hrel J_ K_ hJ9_ hK_
 dsimp only [frU, cond, Nat.reduceMod, Nat.reduceDiv, Nat.reduceAdd, Nat.reduceBEq, Nat.reduceEqDiff, beq_self_eq_true]
 clear H'
 try clear c1
 try clear c187
 try clear c188
 try clear c188b0
 try clear c215
 obtain ⟨x45_7, x46_7, x47_7, eu9_45, eu9_46, eu9_47, HA, HK7, HO_5, BK977, HB⟩ := hrel
 rw [eu9_45]
 clear eu9_45
 rw [eu9_46]
 clear eu9_46
 rw [eu9_47]
 clear eu9_47
 cases gk with
 | zero => exact absurd HA.out (by simp [laws_FnWhispers.l3])
 | succ k7 => (
 have H := HA.out
 clear HA
 simp only [laws_FnWhispers.l3] at H
 by_cases c216 : x47_7 < t556
 {
 rw [if_pos c216] at H
 have c216b0 : decide (x47_7 < t556) = true := decide_eq_true c216
 clear c216
 replace H := Option.bind_eq_some_iff.mp H
 obtain ⟨⟨t559, t560⟩, A2170, H⟩ := H
 have A217 := ak A2170
 clear A2170
 by_cases c218 : t560 = 0
 {
 rw [if_pos c218] at H
 have c218b0 : (t560 == 0) = true := beq_iff_eq.mpr c218
 have c218b1 : (t560 != 0) = false := bne_eq_false_iff_eq.mpr c218
 clear c218
 by_cases c219 : x47_7 < (wrap64 (t556 - t557))
 {
 rw [if_pos c219] at H
 have c219b0 : decide (x47_7 < (wrap64 (t556 - t557))) = true := decide_eq_true c219
 (try (have c219b1 : decide (x47_7 < (IntKind.i64.wrap (t556 - t557))) = true := by first | simpa only [i64_w, i32_w] using (show decide (x47_7 < (wrap64 (t556 - t557))) = true from decide_eq_true c219) | simpa only [i64_w] using (show decide (x47_7 < (wrap64 (t556 - t557))) = true from decide_eq_true c219)))
 clear c219
 have H' := ak H
 clear H
 go_wp2_with (first | ((with_reducible refine gate_callee (f := 8) rfl ?_); refine goesL_ (some 460) rfl rfl Tryz.func8 (by kernel_rfl) rfl #[.slice Ao20 t474.length co20, .string x45_7] rfl gl_ ?_; (with_reducible refine (spec_PassOn.calls k7 _ _ t474 x45_7 t559 t560 _ ?side1 ?side2 A217.out).mono ?_); (case side1 => exact sC HO_5); (case side2 => exact sL HO_5); rintro e w220 ⟨rfl, hb⟩; refine ⟨_, rfl, ?_⟩; replace HO_5 := kR HO_5 hb; replace BK977 := kK BK977 hb; replace HB := kB HB hb; (try clear hb)))
 refine handM k7 hJ9_ ?measure (by kernel_rfl) ?rel
 case measure => have := HJ3.out; have := HJ16.out; have := HK3.out; have := HJ169.out; have := HK5.out; have := HJ205.out; have := HK7.out; omega
 case rel => dsimp only [List.getD_cons_succ, List.getD_cons_zero]; exact ⟨(t559), (t559), (wrap64 (x47_7 + 1)), (by first | rfl | (simp; done) | (simp [*]; done)), (by first | rfl | (simp; done) | (simp [*]; done)), (by first | rfl | (simp; done) | (simp [*]; done)), H', ⟨by have := HJ3.out; have := HJ16.out; have := HK3.out; have := HJ169.out; have := HK5.out; have := HJ205.out; have := HK7.out; omega⟩, ⟨(zR HO_5.out)⟩, ⟨(zK BK977.out)⟩, ⟨zB HB.out⟩⟩
 }
 {
 rw [if_neg c219] at H
 have c219b0 : decide (x47_7 < (wrap64 (t556 - t557))) = false := decide_eq_false c219
 (try (have c219b1 : decide (x47_7 < (IntKind.i64.wrap (t556 - t557))) = false := by first | simpa only [i64_w, i32_w] using (show decide (x47_7 < (wrap64 (t556 - t557))) = false from decide_eq_false c219) | simpa only [i64_w] using (show decide (x47_7 < (wrap64 (t556 - t557))) = false from decide_eq_false c219)))
 clear c219
 have H' := ak H
 clear H
 go_wp2_with (first | ((with_reducible refine gate_callee (f := 8) rfl ?_); refine goesL_ (some 460) rfl rfl Tryz.func8 (by kernel_rfl) rfl #[.slice Ao20 t474.length co20, .string x45_7] rfl gl_ ?_; (with_reducible refine (spec_PassOn.calls k7 _ _ t474 x45_7 t559 t560 _ ?side1 ?side2 A217.out).mono ?_); (case side1 => exact sC HO_5); (case side2 => exact sL HO_5); rintro e w221 ⟨rfl, hb⟩; refine ⟨_, rfl, ?_⟩; replace HO_5 := kR HO_5 hb; replace BK977 := kK BK977 hb; replace HB := kB HB hb; (try clear hb)))
 refine handM k7 hJ9_ ?measure (by kernel_rfl) ?rel
 case measure => have := HJ3.out; have := HJ16.out; have := HK3.out; have := HJ169.out; have := HK5.out; have := HJ205.out; have := HK7.out; omega
 case rel => dsimp only [List.getD_cons_succ, List.getD_cons_zero]; exact ⟨(t559), (x46_7), (wrap64 (x47_7 + 1)), (by first | rfl | (simp; done) | (simp [*]; done)), (by first | rfl | (simp; done) | (simp [*]; done)), (by first | rfl | (simp; done) | (simp [*]; done)), H', ⟨by have := HJ3.out; have := HJ16.out; have := HK3.out; have := HJ169.out; have := HK5.out; have := HJ205.out; have := HK7.out; omega⟩, ⟨(zR HO_5.out)⟩, ⟨(zK BK977.out)⟩, ⟨zB HB.out⟩⟩
 }
 }
 · rw [if_neg c218] at H; have c218b0 : (t560 == 0) = false := beq_eq_false_iff_ne.mpr c218; have c218b1 : (t560 != 0) = true := bne_iff_ne.mpr c218; exact absurd ((Option.some.inj H).trans HT.out) (by decide)
 }
 {
 rw [if_neg c216] at H
 have c216b0 : decide (x47_7 < t556) = false := decide_eq_false c216
 clear c216
 obtain rfl := Option.some.inj H
 go_wp2
 go_ret
 exact ⟨by first | rfl | (simp [errW_none, errW_some] <;> rfl) | (simp [*, errW_none, errW_some] <;> rfl), zB HB.out⟩
 }
 )
 )
 }
 )
 )
 }
 )
 )
 }
 )
 )
 }
 )
 )
 }
 )
 )
 }
 )
 )

end Go.Proofs.YtobickehjnogjaaGreatDoor.P
