-- Printed by wip/print (my turned copy of the kit's print) out of the translation; Lean checks it.
import Derived.Test.YtcgbnbblojkglaaP0
import Derived.Test.YtcgbnbblojkglaaP1
import Derived.Test.YtcgbnbblojkglaaP3
import Derived.Test.YtcgbnbblojkglaaP5
import Derived.Test.YtcgbnbblojkglaaP6
import Derived.Test.YtcgbnbblojkglaaP8
import Derived.Test.YtcgbnbblojkglaaP9
import Derived.Test.YtcgbnbblojkglaaP10
namespace Go.Proofs.Ytcgbnbblojkglaa.P
open Go.RowKit Go.Proofs.YtcgbnbblojkglaaW.PrintWords Go.Proofs.YtcgbnbblojkglaaW.PrintLast Go.Proofs.YtcgbnbblojkglaaW.PrintMore
attribute [local go_sem] max2_int min2_int max_two min_two max_three min_three max_four min_four   -- for this text's walks alone
set_option linter.unusedVariables false
set_option linter.unusedSimpArgs false

attribute [local go_sem high] eqA40
/-! ### impl_without: function 32 -/
def impl_without.f (l0 : List S47) (a1 : Int) : Option (List S47) := if 0 ≤ a1 then (if a1 < (l0.length : Int) then ((slices_Clone_Hold.f l0).bind fun t => (if t.length = l0.length then some (t.eraseIdx a1.toNat) else none)) else none) else none
set_option maxHeartbeats 4000000 in
set_option maxRecDepth 1000000 in
theorem impl_without.calls (A0 : Option Addr) (c0 : Nat) (l0 : List S47) (a1 : Int) (r : List S47) (w : World) (hr0 : Kd.C k47 w A0 l0.length l0) (hc0 : l0.length ≤ c0) (h : impl_without.f l0 a1 = some r) :
    Calls Try.prog 32 #[.slice A0 l0.length c0, .int .i64 a1] w fun e w' => ∃ v0_ : Value, e = .returned (v0_) ∧ Kd.R k47 47 w' w.heap.size (fun _ => True) v0_ r ∧ Below w.heap.size w w' := by
 unfold impl_without.f at h
 by_cases c1 : 0 ≤ a1
 {
 rw [if_pos c1] at h
 by_cases c2 : a1 < (l0.length : Int)
 {
 rw [if_pos c2] at h
 obtain ⟨t, ht, h⟩ := Option.bind_eq_some_iff.mp h
 by_cases c3 : t.length = l0.length
 {
 rw [if_pos c3] at h
 obtain rfl := Option.some.inj h
 obtain ⟨i, rfl⟩ : ∃ i : Nat, a1 = (i : Int) := ⟨a1.toNat, by omega⟩
 have hi : i < t.length := by omega
 have hcl := slices_Clone_Hold.calls A0 c0 l0 t w hr0 hc0 ht
 have hn0 : t.length ≤ 9223372036854775807 := by have := hr0.2.1; omega
 have hdel : ∀ (v0 : Value) (w1 : World), Kd.R k47 47 w1 w.heap.size (fun _ => True) v0 t → Below w.heap.size w w1 → Calls Try.prog 46 #[v0, .int .i64 (i : Int), .int .i64 ((i : Int) + 1)] w1 fun e w' => ∃ v0_ : Value, e = .returned (v0_) ∧ Kd.R k47 47 w' w.heap.size (fun _ => True) v0_ (t.eraseIdx i) ∧ Below w.heap.size w w' := by {
 intro v0 w1 hR hB
 obtain ⟨cs0, ho0⟩ := Kd.R_own hR
 have hbase := own_base ho0
 rcases ho0.2 with ⟨e0, e1⟩ | ⟨g, cap, cur, rfl, hb, hg, hrest⟩
 · omega
 {
 obtain ⟨cs, ho, hn, h1, hR'⟩ := Go.Proofs.Ytcgbnbblojkglaa.H.R_del (zs := [.int .i16 0, .int .i8 0]) hR hi rfl
 refine (Go.Proofs.Ytcgbnbblojkglaa.H.delHold_calls (j := i + 1) rfl ho h1 hi).mono ?_
 rintro e w' ⟨rfl, rfl⟩
 exact ⟨_, rfl, hR', Go.Proofs.Ytcgbnbblojkglaa.H.delW_below hB hb⟩
 }
 }
 have hwr : IntKind.i64.wrap ((i : Int) + 1) = ((i + 1 : Nat) : Int) := by simp [IntKind.wrap, IntKind.bits, IntKind.signed]; omega
 clear hr0 hc0 ht h hi c1 c2 c3
 go_enter Try.func32, Try.ntmps32
 go_wp2_with (first | (go_at_call 37; refine hcl.mono ?_; rintro e w1 ⟨v0, rfl, hR, hB⟩) | (go_at_call 46; refine (hdel _ _ hR hB).mono ?_; rintro e w2 ⟨v1, rfl, hR2, hB2⟩))
 go_ret
 exact ⟨_, rfl, hR2, hB2⟩
 }
 · rw [if_neg c3] at h; exact absurd h (by simp)
 }
 · rw [if_neg c2] at h; exact absurd h (by simp)
 }
 · rw [if_neg c1] at h; exact absurd h (by simp)
/-! ### impl_endsWith: function 31 -/
def impl_endsWith.f (k : Nat) (l0 : List (S47)) (a1_0 : Int) (a1_1 : Int) : Option (Bool) := (impl_count.f k l0).bind fun t275 => (if (t275.length : Int) > 0 then (if 0 ≤ (wrap64 ((t275.length : Int) - 1)) then (if (wrap64 ((t275.length : Int) - 1)) < (t275.length : Int) then (some (((rd_T40 t275 (wrap64 ((t275.length : Int) - 1))).f0) == a1_0 && (((rd_T40 t275 (wrap64 ((t275.length : Int) - 1))).f1) == a1_1))) else (none)) else (none)) else (some false))
theorem impl_endsWith.mono : ∀ a0 a1 a2 k, LeO (impl_endsWith.f k a0 a1 a2) (impl_endsWith.f (k + 1) a0 a1 a2) := by
  intro a0 a1 a2 k
  unfold impl_endsWith.f
  repeat' first
      | (with_reducible exact impl_count.mono _ _)
      | (with_reducible exact LeO.refl _)
      | (with_reducible exact LeO.none _)
      | (with_reducible refine LeO.ite ?_ ?_)
      | (with_reducible refine LeO.bind ?_ (fun _ => ?_))
      | exact impl_count.mono _ _
      | exact LeO.none _
      | refine LeO.ite ?_ ?_
      | refine LeO.bind ?_ (fun _ => ?_)
set_option maxHeartbeats 8000000 in
set_option maxRecDepth 100000 in
theorem impl_endsWith.calls (k : Nat) (A0 : Option Addr) (c0 : Nat) (l0 : List (S47)) (a1_0 : Int) (a1_1 : Int) (r : Bool) (w : World) (hr0 : Kd.C k47 w A0 l0.length l0) (hc0 : l0.length ≤ c0) (h : impl_endsWith.f k l0 a1_0 a1_1 = some r) :
    Calls Try.prog 31 #[.slice A0 l0.length c0, .agg #[.int .i64 a1_0, .int .i64 a1_1]] w fun e w' => e = .returned (.bool r) ∧ Below w.heap.size w w' := by
 have hu40 := Try.underlying40
 have HR0 := ak hr0
 have HC0 := ak hc0
 clear hr0 hc0
 have HB := ak (Below.refl w.heap.size w)
 have H : ((impl_count.f k l0).bind fun t275 => (if (t275.length : Int) > 0 then (if 0 ≤ (wrap64 ((t275.length : Int) - 1)) then (if (wrap64 ((t275.length : Int) - 1)) < (t275.length : Int) then (some (((rd_T40 t275 (wrap64 ((t275.length : Int) - 1))).f0) == a1_0 && (((rd_T40 t275 (wrap64 ((t275.length : Int) - 1))).f1) == a1_1))) else (none)) else (none)) else (some false))) = some r := h
 clear h
 replace H := Option.bind_eq_some_iff.mp H
 obtain ⟨t275, A30, H⟩ := H
 replace H : (if (t275.length : Int) > 0 then (if 0 ≤ (wrap64 ((t275.length : Int) - 1)) then (if (wrap64 ((t275.length : Int) - 1)) < (t275.length : Int) then (some (((rd_T40 t275 (wrap64 ((t275.length : Int) - 1))).f0) == a1_0 && (((rd_T40 t275 (wrap64 ((t275.length : Int) - 1))).f1) == a1_1))) else (none)) else (none)) else (some false)) = some r := H
 have A3 := ak A30
 clear A30
 by_cases c4 : (t275.length : Int) > 0
 {
 rw [if_pos c4] at H
 have c4b0 : decide (0 < (t275.length : Int)) = true := decide_eq_true c4
 have c4b1 : decide (0 < t275.length) = true := decide_eq_true (by omega)
 clear c4
 obtain ⟨ji5, hji5⟩ : ∃ j_ : Int, (wrap64 ((t275.length : Int) - 1)) = j_ := ⟨_, rfl⟩
 replace H : (if 0 ≤ (ji5) then (if (ji5) < (t275.length : Int) then (some (((rd_T40 t275 (ji5)).f0) == a1_0 && (((rd_T40 t275 (ji5)).f1) == a1_1))) else (none)) else (none)) = some r := by first | (rw [hji5] at H; exact H) | (simp only [hji5] at H ⊢; exact H)
 (try rw [hji5] at A3)
 have hji5w : (IntKind.i64.wrap ((t275.length : Int) - 1)) = ji5 := (i64_w _).trans hji5
 by_cases c6 : 0 ≤ (ji5)
 {
 rw [if_pos c6] at H
 have c6b0 : decide (0 ≤ (ji5)) = true := decide_eq_true c6
 clear c6
 by_cases c7 : (ji5) < (t275.length : Int)
 {
 rw [if_pos c7] at H
 have c7b0 : decide ((ji5) < (t275.length : Int)) = true := decide_eq_true c7
 clear c7
 as_aux_lemma => (
 obtain rfl := Option.some.inj H
 go_enter Try.func31, Try.ntmps31
 go_wp2_with (first | ((with_reducible refine gate_dst (N := 3) rfl ?_); (try (refine gate_guard (by rfl) ?_; dsimp only)); refine box_event ?hg (N := 3) ?hd (cs := #[.int .i64 a1_0, .int .i64 a1_1]) (t := 40) ?hr ?_; (case hd => rfl); (case hg => rfl); (case hr => first | (go_simp; done) | (go_simp; rfl)); intro gb274 hg w8 hbox hb; have n0_ := ak (below_step (zB HB.out) hb); have n1_ := ak (hbox); have n2_ := ak ((by rw [hg]; exact (below_size (zB HB.out)) : w.heap.size ≤ gb274)); have n3_ := ak ((by rw [hg]; exact (below_size (zB HB.out)) : w.heap.size ≤ gb274)); clear HB; have HB := n0_; have BK274 := n1_; have GW274 := n2_; have GE274 := n3_; clear n0_ n1_ n2_ n3_; clear hb hbox hg) | (go_at_call 25; (with_reducible refine (impl_count.calls k _ _ l0 t275 _ ?side1 ?side2 A3.out).mono ?_); (case side1 => repeat (first | exact (Kd.C_below HR0.out HB.out) | (with_reducible refine Kd.C_alloc ?_ _) | (with_reducible refine Kd.C_drewN ?_ _) | (with_reducible refine Kd.C_drew ?_))); (case side2 => exact HC0.out); rintro e w9 ⟨v276, rfl, ho0, hb⟩; have n0_ := ak (Kd.R_lower (Kd.R_newB ho0 (g := gb274) (o := .cells #[.int .i64 a1_0, .int .i64 a1_1] 40 (0, 0)) (zK BK274.out)) (below_size (zBG HB.out GE274.out))); have n1_ := ak (blk_below (g := gb274) (o := .cells #[.int .i64 a1_0, .int .i64 a1_1] 40 (0, 0)) (zK BK274.out) hb); have n2_ := ak (below_step (zBG HB.out GE274.out) hb); clear BK274 HB; have HO277 := n0_; have BK274 := n1_; have HB := n2_; clear n0_ n1_ n2_; (try clear hb); (try clear hb2); (try clear hk); (try clear hi); (try clear ho0); obtain ⟨Ao10, co10, eo10⟩ := Kd.R_slice HO277.out; subst eo10; have p278 : 0 ≤ ((ji5) : Int) := of_decide_eq_true (by first | (with_reducible assumption) | assumption); have q278 : (ji5) < (t275.length : Int) := of_decide_eq_true (by first | (with_reducible assumption) | assumption); obtain ⟨ad278, e278, hx278_0, hx278_1⟩ := at_T40 (Kd.R_reads' HO277.out).2.2 (ji5) p278 q278; cases e278; replace p278 := eq_true p278; replace q278 := eq_true q278; have hcz11_0 : w9.cell? ⟨gb274, 0, none⟩ = some (.int .i64 a1_0) := (blk_cell BK274.out 0).trans rfl; have hcz11_1 : w9.cell? ⟨gb274, 1, none⟩ = some (.int .i64 a1_1) := (blk_cell BK274.out 1).trans rfl; have hfz11_0 := blk_frozen BK274.out 0; have hfz11_1 := blk_frozen BK274.out 1))
 repeat (go_quiet (first | ((with_reducible refine gate_dst (N := 3) rfl ?_); (try (refine gate_guard (by rfl) ?_; dsimp only)); refine box_event ?hg (N := 3) ?hd (cs := #[.int .i64 a1_0, .int .i64 a1_1]) (t := 40) ?hr ?_; (case hd => rfl); (case hg => rfl); (case hr => first | (go_simp; done) | (go_simp; rfl)); intro gb274 hg w8 hbox hb; have n0_ := ak (below_step (zB HB.out) hb); have n1_ := ak (hbox); have n2_ := ak ((by rw [hg]; exact (below_size (zB HB.out)) : w.heap.size ≤ gb274)); have n3_ := ak ((by rw [hg]; exact (below_size (zB HB.out)) : w.heap.size ≤ gb274)); clear HB; have HB := n0_; have BK274 := n1_; have GW274 := n2_; have GE274 := n3_; clear n0_ n1_ n2_ n3_; clear hb hbox hg) | (go_at_call 25; (with_reducible refine (impl_count.calls k _ _ l0 t275 _ ?side1 ?side2 A3.out).mono ?_); (case side1 => repeat (first | exact (Kd.C_below HR0.out HB.out) | (with_reducible refine Kd.C_alloc ?_ _) | (with_reducible refine Kd.C_drewN ?_ _) | (with_reducible refine Kd.C_drew ?_))); (case side2 => exact HC0.out); rintro e w9 ⟨v276, rfl, ho0, hb⟩; have n0_ := ak (Kd.R_lower (Kd.R_newB ho0 (g := gb274) (o := .cells #[.int .i64 a1_0, .int .i64 a1_1] 40 (0, 0)) (zK BK274.out)) (below_size (zBG HB.out GE274.out))); have n1_ := ak (blk_below (g := gb274) (o := .cells #[.int .i64 a1_0, .int .i64 a1_1] 40 (0, 0)) (zK BK274.out) hb); have n2_ := ak (below_step (zBG HB.out GE274.out) hb); clear BK274 HB; have HO277 := n0_; have BK274 := n1_; have HB := n2_; clear n0_ n1_ n2_; (try clear hb); (try clear hb2); (try clear hk); (try clear hi); (try clear ho0); obtain ⟨Ao10, co10, eo10⟩ := Kd.R_slice HO277.out; subst eo10; have p278 : 0 ≤ ((ji5) : Int) := of_decide_eq_true (by first | (with_reducible assumption) | assumption); have q278 : (ji5) < (t275.length : Int) := of_decide_eq_true (by first | (with_reducible assumption) | assumption); obtain ⟨ad278, e278, hx278_0, hx278_1⟩ := at_T40 (Kd.R_reads' HO277.out).2.2 (ji5) p278 q278; cases e278; replace p278 := eq_true p278; replace q278 := eq_true q278; have hcz11_0 : w9.cell? ⟨gb274, 0, none⟩ = some (.int .i64 a1_0) := (blk_cell BK274.out 0).trans rfl; have hcz11_1 : w9.cell? ⟨gb274, 1, none⟩ = some (.int .i64 a1_1) := (blk_cell BK274.out 1).trans rfl; have hfz11_0 := blk_frozen BK274.out 0; have hfz11_1 := blk_frozen BK274.out 1)); try go_wp2_with (first | ((with_reducible refine gate_dst (N := 3) rfl ?_); (try (refine gate_guard (by rfl) ?_; dsimp only)); refine box_event ?hg (N := 3) ?hd (cs := #[.int .i64 a1_0, .int .i64 a1_1]) (t := 40) ?hr ?_; (case hd => rfl); (case hg => rfl); (case hr => first | (go_simp; done) | (go_simp; rfl)); intro gb274 hg w8 hbox hb; have n0_ := ak (below_step (zB HB.out) hb); have n1_ := ak (hbox); have n2_ := ak ((by rw [hg]; exact (below_size (zB HB.out)) : w.heap.size ≤ gb274)); have n3_ := ak ((by rw [hg]; exact (below_size (zB HB.out)) : w.heap.size ≤ gb274)); clear HB; have HB := n0_; have BK274 := n1_; have GW274 := n2_; have GE274 := n3_; clear n0_ n1_ n2_ n3_; clear hb hbox hg) | (go_at_call 25; (with_reducible refine (impl_count.calls k _ _ l0 t275 _ ?side1 ?side2 A3.out).mono ?_); (case side1 => repeat (first | exact (Kd.C_below HR0.out HB.out) | (with_reducible refine Kd.C_alloc ?_ _) | (with_reducible refine Kd.C_drewN ?_ _) | (with_reducible refine Kd.C_drew ?_))); (case side2 => exact HC0.out); rintro e w9 ⟨v276, rfl, ho0, hb⟩; have n0_ := ak (Kd.R_lower (Kd.R_newB ho0 (g := gb274) (o := .cells #[.int .i64 a1_0, .int .i64 a1_1] 40 (0, 0)) (zK BK274.out)) (below_size (zBG HB.out GE274.out))); have n1_ := ak (blk_below (g := gb274) (o := .cells #[.int .i64 a1_0, .int .i64 a1_1] 40 (0, 0)) (zK BK274.out) hb); have n2_ := ak (below_step (zBG HB.out GE274.out) hb); clear BK274 HB; have HO277 := n0_; have BK274 := n1_; have HB := n2_; clear n0_ n1_ n2_; (try clear hb); (try clear hb2); (try clear hk); (try clear hi); (try clear ho0); obtain ⟨Ao10, co10, eo10⟩ := Kd.R_slice HO277.out; subst eo10; have p278 : 0 ≤ ((ji5) : Int) := of_decide_eq_true (by first | (with_reducible assumption) | assumption); have q278 : (ji5) < (t275.length : Int) := of_decide_eq_true (by first | (with_reducible assumption) | assumption); obtain ⟨ad278, e278, hx278_0, hx278_1⟩ := at_T40 (Kd.R_reads' HO277.out).2.2 (ji5) p278 q278; cases e278; replace p278 := eq_true p278; replace q278 := eq_true q278; have hcz11_0 : w9.cell? ⟨gb274, 0, none⟩ = some (.int .i64 a1_0) := (blk_cell BK274.out 0).trans rfl; have hcz11_1 : w9.cell? ⟨gb274, 1, none⟩ = some (.int .i64 a1_1) := (blk_cell BK274.out 1).trans rfl; have hfz11_0 := blk_frozen BK274.out 0; have hfz11_1 := blk_frozen BK274.out 1)))
 go_ret
 exact ⟨by first | rfl | (simp [errW_none, errW_some] <;> rfl) | (simp only [← hji5]; first | rfl | (simp [errW_none, errW_some] <;> rfl)) | (simp [*, errW_none, errW_some] <;> rfl), zBG HB.out GE274.out⟩
 )
 }
 · rw [if_neg c7] at H; exact absurd H (by simp)
 }
 · rw [if_neg c6] at H; exact absurd H (by simp)
 }
 {
 rw [if_neg c4] at H
 have c4b0 : decide (0 < (t275.length : Int)) = false := decide_eq_false c4
 have c4b1 : decide (0 < t275.length) = false := decide_eq_false (by omega)
 clear c4
 as_aux_lemma => (
 obtain rfl := Option.some.inj H
 go_enter Try.func31, Try.ntmps31
 go_wp2_with (first | ((with_reducible refine gate_dst (N := 3) rfl ?_); (try (refine gate_guard (by rfl) ?_; dsimp only)); refine box_event ?hg (N := 3) ?hd (cs := #[.int .i64 a1_0, .int .i64 a1_1]) (t := 40) ?hr ?_; (case hd => rfl); (case hg => rfl); (case hr => first | (go_simp; done) | (go_simp; rfl)); intro gb274 hg w12 hbox hb; have n0_ := ak (below_step (zB HB.out) hb); have n1_ := ak (hbox); have n2_ := ak ((by rw [hg]; exact (below_size (zB HB.out)) : w.heap.size ≤ gb274)); have n3_ := ak ((by rw [hg]; exact (below_size (zB HB.out)) : w.heap.size ≤ gb274)); clear HB; have HB := n0_; have BK274 := n1_; have GW274 := n2_; have GE274 := n3_; clear n0_ n1_ n2_ n3_; clear hb hbox hg) | (go_at_call 25; (with_reducible refine (impl_count.calls k _ _ l0 t275 _ ?side1 ?side2 A3.out).mono ?_); (case side1 => repeat (first | exact (Kd.C_below HR0.out HB.out) | (with_reducible refine Kd.C_alloc ?_ _) | (with_reducible refine Kd.C_drewN ?_ _) | (with_reducible refine Kd.C_drew ?_))); (case side2 => exact HC0.out); rintro e w13 ⟨v276, rfl, ho0, hb⟩; have n0_ := ak (Kd.R_lower (Kd.R_newB ho0 (g := gb274) (o := .cells #[.int .i64 a1_0, .int .i64 a1_1] 40 (0, 0)) (zK BK274.out)) (below_size (zBG HB.out GE274.out))); have n1_ := ak (blk_below (g := gb274) (o := .cells #[.int .i64 a1_0, .int .i64 a1_1] 40 (0, 0)) (zK BK274.out) hb); have n2_ := ak (below_step (zBG HB.out GE274.out) hb); clear BK274 HB; have HO277 := n0_; have BK274 := n1_; have HB := n2_; clear n0_ n1_ n2_; (try clear hb); (try clear hb2); (try clear hk); (try clear hi); (try clear ho0); obtain ⟨Ao14, co14, eo14⟩ := Kd.R_slice HO277.out; subst eo14))
 repeat (go_quiet (first | ((with_reducible refine gate_dst (N := 3) rfl ?_); (try (refine gate_guard (by rfl) ?_; dsimp only)); refine box_event ?hg (N := 3) ?hd (cs := #[.int .i64 a1_0, .int .i64 a1_1]) (t := 40) ?hr ?_; (case hd => rfl); (case hg => rfl); (case hr => first | (go_simp; done) | (go_simp; rfl)); intro gb274 hg w12 hbox hb; have n0_ := ak (below_step (zB HB.out) hb); have n1_ := ak (hbox); have n2_ := ak ((by rw [hg]; exact (below_size (zB HB.out)) : w.heap.size ≤ gb274)); have n3_ := ak ((by rw [hg]; exact (below_size (zB HB.out)) : w.heap.size ≤ gb274)); clear HB; have HB := n0_; have BK274 := n1_; have GW274 := n2_; have GE274 := n3_; clear n0_ n1_ n2_ n3_; clear hb hbox hg) | (go_at_call 25; (with_reducible refine (impl_count.calls k _ _ l0 t275 _ ?side1 ?side2 A3.out).mono ?_); (case side1 => repeat (first | exact (Kd.C_below HR0.out HB.out) | (with_reducible refine Kd.C_alloc ?_ _) | (with_reducible refine Kd.C_drewN ?_ _) | (with_reducible refine Kd.C_drew ?_))); (case side2 => exact HC0.out); rintro e w13 ⟨v276, rfl, ho0, hb⟩; have n0_ := ak (Kd.R_lower (Kd.R_newB ho0 (g := gb274) (o := .cells #[.int .i64 a1_0, .int .i64 a1_1] 40 (0, 0)) (zK BK274.out)) (below_size (zBG HB.out GE274.out))); have n1_ := ak (blk_below (g := gb274) (o := .cells #[.int .i64 a1_0, .int .i64 a1_1] 40 (0, 0)) (zK BK274.out) hb); have n2_ := ak (below_step (zBG HB.out GE274.out) hb); clear BK274 HB; have HO277 := n0_; have BK274 := n1_; have HB := n2_; clear n0_ n1_ n2_; (try clear hb); (try clear hb2); (try clear hk); (try clear hi); (try clear ho0); obtain ⟨Ao14, co14, eo14⟩ := Kd.R_slice HO277.out; subst eo14)); try go_wp2_with (first | ((with_reducible refine gate_dst (N := 3) rfl ?_); (try (refine gate_guard (by rfl) ?_; dsimp only)); refine box_event ?hg (N := 3) ?hd (cs := #[.int .i64 a1_0, .int .i64 a1_1]) (t := 40) ?hr ?_; (case hd => rfl); (case hg => rfl); (case hr => first | (go_simp; done) | (go_simp; rfl)); intro gb274 hg w12 hbox hb; have n0_ := ak (below_step (zB HB.out) hb); have n1_ := ak (hbox); have n2_ := ak ((by rw [hg]; exact (below_size (zB HB.out)) : w.heap.size ≤ gb274)); have n3_ := ak ((by rw [hg]; exact (below_size (zB HB.out)) : w.heap.size ≤ gb274)); clear HB; have HB := n0_; have BK274 := n1_; have GW274 := n2_; have GE274 := n3_; clear n0_ n1_ n2_ n3_; clear hb hbox hg) | (go_at_call 25; (with_reducible refine (impl_count.calls k _ _ l0 t275 _ ?side1 ?side2 A3.out).mono ?_); (case side1 => repeat (first | exact (Kd.C_below HR0.out HB.out) | (with_reducible refine Kd.C_alloc ?_ _) | (with_reducible refine Kd.C_drewN ?_ _) | (with_reducible refine Kd.C_drew ?_))); (case side2 => exact HC0.out); rintro e w13 ⟨v276, rfl, ho0, hb⟩; have n0_ := ak (Kd.R_lower (Kd.R_newB ho0 (g := gb274) (o := .cells #[.int .i64 a1_0, .int .i64 a1_1] 40 (0, 0)) (zK BK274.out)) (below_size (zBG HB.out GE274.out))); have n1_ := ak (blk_below (g := gb274) (o := .cells #[.int .i64 a1_0, .int .i64 a1_1] 40 (0, 0)) (zK BK274.out) hb); have n2_ := ak (below_step (zBG HB.out GE274.out) hb); clear BK274 HB; have HO277 := n0_; have BK274 := n1_; have HB := n2_; clear n0_ n1_ n2_; (try clear hb); (try clear hb2); (try clear hk); (try clear hi); (try clear ho0); obtain ⟨Ao14, co14, eo14⟩ := Kd.R_slice HO277.out; subst eo14)))
 go_ret
 exact ⟨by first | rfl | (simp [errW_none, errW_some] <;> rfl) | (simp [*, errW_none, errW_some] <;> rfl), zBG HB.out GE274.out⟩
 )
 }
/-! ### impl_MissingBy: function 12 -/
def impl_MissingBy.l0 : Nat → List (S47) → List Int → Int → Int → Int → Int → Option (List Int × Int)
  | 0, _, _, _, _, _, _ => none
  | k + 1, x1, x8, x16, x17, x281000, x281001 => if x17 < x16 then ((impl_without.f x1 x17).bind fun t286 => ((impl_endsWith.f k t286 x281000 x281001).bind fun t289 => (if t289 = true then (if x8.length < 17592186044416 then (impl_MissingBy.l0 k x1 (x8 ++ [x17]) x16 (wrap64 (x17 + 1)) x281000 x281001) else (none)) else (impl_MissingBy.l0 k x1 x8 x16 (wrap64 (x17 + 1)) x281000 x281001)))) else (some (x8, 0))
def impl_MissingBy.f (k : Nat) (a0_0 : Int) (l0_1 : List Int) (l1 : List (S47)) (a2_0 : Int) (a2_1 : Int) : Option (List Int × Int) := (impl_ValidHolds.f k a0_0 l0_1 l1).bind fun t281 => (if t281 = true then ((impl_size_Hold.f l1).bind fun t285 => (impl_MissingBy.l0 k l1 (([] : List Int)) t285 0 a2_0 a2_1)) else (some (([] : List Int), 1)))
theorem impl_MissingBy.mono_l : ∀ k, (∀ y0 y1 y2 y3 y4 y5, LeO (impl_MissingBy.l0 k y0 y1 y2 y3 y4 y5) (impl_MissingBy.l0 (k + 1) y0 y1 y2 y3 y4 y5))
  | 0 => fun _ _ _ _ _ _ r h => by simp [impl_MissingBy.l0] at h
  | k + 1 => by
    have ih0 := impl_MissingBy.mono_l k
    · intro y0 y1 y2 y3 y4 y5
      unfold impl_MissingBy.l0
      repeat' first
      | (with_reducible exact ih0 _ _ _ _ _ _)
      | (with_reducible exact impl_ValidHolds.mono _ _ _ _)
      | (with_reducible exact impl_endsWith.mono _ _ _ _)
      | (with_reducible exact LeO.refl _)
      | (with_reducible exact LeO.none _)
      | (with_reducible refine LeO.ite ?_ ?_)
      | (with_reducible refine LeO.bind ?_ (fun _ => ?_))
      | exact ih0 _ _ _ _ _ _
      | exact impl_ValidHolds.mono _ _ _ _
      | exact impl_endsWith.mono _ _ _ _
      | exact LeO.none _
      | refine LeO.ite ?_ ?_
      | refine LeO.bind ?_ (fun _ => ?_)
theorem impl_MissingBy.mono : ∀ a0 a1 a2 a3 a4 k, LeO (impl_MissingBy.f k a0 a1 a2 a3 a4) (impl_MissingBy.f (k + 1) a0 a1 a2 a3 a4) := by
  intro a0 a1 a2 a3 a4 k
  have ih0 := impl_MissingBy.mono_l k
  unfold impl_MissingBy.f
  repeat' first
      | (with_reducible exact ih0 _ _ _ _ _ _)
      | (with_reducible exact impl_ValidHolds.mono _ _ _ _)
      | (with_reducible exact impl_endsWith.mono _ _ _ _)
      | (with_reducible exact LeO.refl _)
      | (with_reducible exact LeO.none _)
      | (with_reducible refine LeO.ite ?_ ?_)
      | (with_reducible refine LeO.bind ?_ (fun _ => ?_))
      | exact ih0 _ _ _ _ _ _
      | exact impl_ValidHolds.mono _ _ _ _
      | exact impl_endsWith.mono _ _ _ _
      | exact LeO.none _
      | refine LeO.ite ?_ ?_
      | refine LeO.bind ?_ (fun _ => ?_)
set_option maxHeartbeats 8000000 in
set_option maxRecDepth 100000 in
theorem impl_MissingBy.calls (k : Nat) (a0_0 : Int) (A0_1 : Option Addr) (c0_1 : Nat) (l0_1 : List Int) (A1 : Option Addr) (c1 : Nat) (l1 : List (S47)) (a2_0 : Int) (a2_1 : Int) (r1 : List Int) (r2 : Int) (w : World) (hr0_1 : Kd.C (Kd.int .i16) w A0_1 l0_1.length l0_1) (hc0_1 : l0_1.length ≤ c0_1) (hr1 : Kd.C k47 w A1 l1.length l1) (hc1 : l1.length ≤ c1) (h : impl_MissingBy.f k a0_0 l0_1 l1 a2_0 a2_1 = some (r1, r2)) :
    Calls Try.prog 12 #[.agg #[.int .i16 a0_0, .slice A0_1 l0_1.length c0_1], .slice A1 l1.length c1, .agg #[.int .i64 a2_0, .int .i64 a2_1]] w fun e w' => ∃ v0_ : Value, e = .returned (.tuple #[v0_, .int .i64 r2]) ∧ Kd.R (Kd.int .i64) 2 w' w.heap.size (fun _ => True) v0_ r1 ∧ Below w.heap.size w w' := by
 have hu27 := Try.underlying27
 have hu40 := Try.underlying40
 have HR0_1 := ak hr0_1
 have HC0_1 := ak hc0_1
 clear hr0_1 hc0_1
 have HR1 := ak hr1
 have HC1 := ak hc1
 clear hr1 hc1
 have HB := ak (Below.refl w.heap.size w)
 have H : ((impl_ValidHolds.f k a0_0 l0_1 l1).bind fun t281 => (if t281 = true then ((impl_size_Hold.f l1).bind fun t285 => (impl_MissingBy.l0 k l1 (([] : List Int)) t285 0 a2_0 a2_1)) else (some (([] : List Int), 1)))) = some (r1, r2) := h
 clear h
 replace H := Option.bind_eq_some_iff.mp H
 obtain ⟨t281, A40, H⟩ := H
 replace H : (if t281 = true then ((impl_size_Hold.f l1).bind fun t285 => (impl_MissingBy.l0 k l1 (([] : List Int)) t285 0 a2_0 a2_1)) else (some (([] : List Int), 1))) = some (r1, r2) := H
 have A4 := ak A40
 clear A40
 by_cases c5 : t281 = true
 {
 subst c5
 have H1 : ((impl_size_Hold.f l1).bind fun t285 => (impl_MissingBy.l0 k l1 (([] : List Int)) t285 0 a2_0 a2_1)) = some (r1, r2) := by rw [if_pos rfl] at H; exact H
 clear H
 have H := H1
 clear H1
 obtain ⟨y282, hy282⟩ : ∃ y_ : List Int, y_ = (([] : List Int)) := ⟨_, rfl⟩
 replace H : ((impl_size_Hold.f l1).bind fun t285 => (impl_MissingBy.l0 k l1 y282 t285 0 a2_0 a2_1)) = some (r1, r2) := by first | (rw [hy282]; with_reducible exact H) | (have H2_ := (Option.bind_some _ _).symm.trans H; rw [hy282]; with_reducible exact H2_) | (have H2_ := (Option.bind_some _ _).symm.trans H; with_reducible exact H2_) | with_reducible exact H | (rw [hy282]; exact H) | exact H
 have Ny282 := ak hy282
 clear hy282
 replace H := Option.bind_eq_some_iff.mp H
 obtain ⟨t285, A60, H⟩ := H
 replace H : (impl_MissingBy.l0 k l1 y282 t285 0 a2_0 a2_1) = some (r1, r2) := H
 have A6 := ak A60
 clear A60
 have H' := ak H
 clear H
 go_enter Try.func12, Try.ntmps12
 go_wp2_with (first | ((with_reducible refine gate_dst (N := 3) rfl ?_); refine box_event ?hg (N := 3) ?hd (cs := #[.int .i16 a0_0, .slice A0_1 l0_1.length c0_1]) (t := 27) ?hr ?_; (case hd => rfl); (case hg => rfl); (case hr => first | (go_simp; done) | (go_simp; rfl)); intro gb279 hg w7 hbox hb; have n0_ := ak (below_step (zB HB.out) hb); have n1_ := ak (hbox); have n2_ := ak ((by rw [hg]; exact (below_size (zB HB.out)) : w.heap.size ≤ gb279)); have n3_ := ak ((by rw [hg]; exact (below_size (zB HB.out)) : w.heap.size ≤ gb279)); clear HB; have HB := n0_; have BK279 := n1_; have GW279 := n2_; have GE279 := n3_; clear n0_ n1_ n2_ n3_; clear hb hbox hg) | ((with_reducible refine gate_dst (N := 5) rfl ?_); refine box_event ?hg (N := 5) ?hd (cs := #[.int .i64 a2_0, .int .i64 a2_1]) (t := 40) ?hr ?_; (case hd => rfl); (case hg => rfl); (case hr => first | (go_simp; done) | (go_simp; rfl)); intro gb280 hg w8 hbox hb; have n0_ := ak (blk_below (g := gb279) (o := .cells #[.int .i16 a0_0, .slice A0_1 l0_1.length c0_1] 27 (0, 0)) (zK BK279.out) hb); have n1_ := ak (below_step (zBG HB.out GE279.out) hb); have n2_ := ak (hbox); have n3_ := ak ((by rw [hg]; exact (below_size (zBG HB.out GE279.out)) : w.heap.size ≤ gb280)); have n4_ := ak ((by rw [hg]; exact (below_size (zBG HB.out GE279.out)) : w.heap.size ≤ gb280)); have n5_ := ak ((by rw [hg]; exact Nat.ne_of_lt (blk_lt (g := gb279) (o := .cells #[.int .i16 a0_0, .slice A0_1 l0_1.length c0_1] 27 (0, 0)) (zK BK279.out)) : gb279 ≠ gb280)); have n6_ := ak ((by rw [hg]; exact Nat.ne_of_gt (blk_lt (g := gb279) (o := .cells #[.int .i16 a0_0, .slice A0_1 l0_1.length c0_1] 27 (0, 0)) (zK BK279.out)) : gb280 ≠ gb279)); clear BK279 HB; have BK279 := n0_; have HB := n1_; have BK280 := n2_; have GW280 := n3_; have GE280 := n4_; have NB279_280 := n5_; have NB280_279 := n6_; clear n0_ n1_ n2_ n3_ n4_ n5_ n6_; clear hb hbox hg; have hnb9 := NB279_280.out; have hnc9 := NB280_279.out; have hcz10_0 : w8.cell? ⟨gb279, 0, none⟩ = some (.int .i16 a0_0) := (blk_cell BK279.out 0).trans rfl; have hcz10_1 : w8.cell? ⟨gb279, 1, none⟩ = some (.slice A0_1 l0_1.length c0_1) := (blk_cell BK279.out 1).trans rfl; have hfz10_0 := blk_frozen BK279.out 0; have hfz10_1 := blk_frozen BK279.out 1) | ((with_reducible refine gate_callee (f := 24) rfl ?_); refine goesL_ (some 12) rfl rfl Try.func24 (by kernel_rfl) rfl #[.agg #[.int .i16 a0_0, .slice A0_1 l0_1.length c0_1], .slice A1 l1.length c1] rfl gl_ ?_; (with_reducible refine (impl_ValidHolds.calls k a0_0 _ _ l0_1 _ _ l1 true _ ?side1 ?side2 ?side3 ?side4 A4.out).mono ?_); (case side1 => repeat (first | exact (Kd.C_below HR0_1.out HB.out) | (with_reducible refine Kd.C_alloc ?_ _) | (with_reducible refine Kd.C_drewN ?_ _) | (with_reducible refine Kd.C_drew ?_))); (case side2 => exact HC0_1.out); (case side3 => repeat (first | exact (Kd.C_below HR1.out HB.out) | (with_reducible refine Kd.C_alloc ?_ _) | (with_reducible refine Kd.C_drewN ?_ _) | (with_reducible refine Kd.C_drew ?_))); (case side4 => exact HC1.out); rintro e w11 ⟨rfl, hb⟩; refine ⟨_, rfl, ?_⟩; have n0_ := ak (blk_below (g := gb279) (o := .cells #[.int .i16 a0_0, .slice A0_1 l0_1.length c0_1] 27 (0, 0)) (zK BK279.out) hb); have n1_ := ak (blk_below (g := gb280) (o := .cells #[.int .i64 a2_0, .int .i64 a2_1] 40 (0, 0)) (zK BK280.out) hb); have n2_ := ak (below_step (by repeat (first | (with_reducible first | exact HB.out | apply below_alloc | apply pw_below_drewN | apply below_drew1 | refine below_set ?_ GE279.out | refine below_set ?_ GE280.out) | exact HB.out)) hb); clear BK279 BK280 HB; have BK279 := n0_; have BK280 := n1_; have HB := n2_; clear n0_ n1_ n2_; (try clear hb); (try clear hb2); (try clear hk); (try clear hi)) | ((with_reducible refine gate_dst (N := 14) rfl ?_); refine Kd.R_lit (Kd.int .i64) _ 2 ?hg (N := 14) ?hd (xs := ([] : List Int)) (inner := []) (ok := fun _ => True) (okp := fun _ => True) ?hr ?hp (fun _ hk => hk) trivial (Below.refl _ _) (Nat.le_refl _) (by simp) ?_; (case hd => rfl); (case hg => rfl); (case hr => first | (go_simp; done) | (go_simp; rfl)); (case hp => exact (Reps.none _ _)); intro v283 w12 ho13 hb hg_ hnew_; clear hg_ hnew_; (first | rw [← Ny282.out] at ho13 | (simp only [Int.reduceToNat] at ho13; rw [← Ny282.out] at ho13)); have n0_ := ak (Kd.R_lower ho13 (below_size (by repeat (first | (with_reducible first | exact HB.out | apply below_alloc | apply pw_below_drewN | apply below_drew1 | refine below_set ?_ GE279.out | refine below_set ?_ GE280.out) | exact HB.out)))); have n1_ := ak (blk_below (g := gb279) (o := .cells #[.int .i16 a0_0, .slice A0_1 l0_1.length c0_1] 27 (0, 0)) (zK BK279.out) hb); have n2_ := ak (blk_below (g := gb280) (o := .cells #[.int .i64 a2_0, .int .i64 a2_1] 40 (0, 0)) (zK BK280.out) hb); have n3_ := ak (below_step (by repeat (first | (with_reducible first | exact HB.out | apply below_alloc | apply pw_below_drewN | apply below_drew1 | refine below_set ?_ GE279.out | refine below_set ?_ GE280.out) | exact HB.out)) hb); clear BK279 BK280 HB; have HO284 := n0_; have BK279 := n1_; have BK280 := n2_; have HB := n3_; clear n0_ n1_ n2_ n3_; clear hb ho13) | ((with_reducible refine gate_callee (f := 30) rfl ?_); refine goesL_ (some 16) rfl rfl Try.func30 (by kernel_rfl) rfl #[.slice A1 l1.length c1] rfl gl_ ?_; (with_reducible refine (impl_size_Hold.calls _ _ l1 t285 _ ?side1 ?side2 A6.out).mono ?_); (case side1 => repeat (first | exact (Kd.C_below HR1.out HB.out) | (with_reducible refine Kd.C_alloc ?_ _) | (with_reducible refine Kd.C_drewN ?_ _) | (with_reducible refine Kd.C_drew ?_))); (case side2 => exact HC1.out); rintro e w' ⟨rfl, ⟨nd, rfl⟩⟩; refine ⟨_, rfl, ?_⟩))
 go_loopg [8, 17] k (fun kq v8 v17 w' => ∃ (x8_1 : List Int) (x17_1 : Int), v17 = .int .i64 x17_1 ∧ Aside0 (impl_MissingBy.l0 kq l1 x8_1 t285 x17_1 a2_0 a2_1 = some (r1, r2)) ∧ Aside0 (kq ≤ k) ∧ Aside0 (Kd.R (Kd.int .i64) 2 w' w.heap.size (fun _ => True) v8 x8_1) ∧ Aside0 (w'.heap[gb279]? = some (.cells #[.int .i16 a0_0, (.slice A0_1 l0_1.length c0_1)] 27 (0, 0))) ∧ Aside0 (w'.heap[gb280]? = some (.cells #[.int .i64 a2_0, .int .i64 a2_1] 40 (0, 0))) ∧ Aside0 (Below w.heap.size w w'))
 case atStart => exact ⟨(y282), (0), (by first | rfl | (simp; done) | (simp [*]; done)), H', ⟨Nat.le_refl _⟩, ⟨(zR HO284.out)⟩, ⟨(zK BK279.out)⟩, ⟨(zK BK280.out)⟩, ⟨by repeat (first | (with_reducible first | exact HB.out | apply below_alloc | apply pw_below_drewN | apply below_drew1 | refine below_set ?_ GE279.out | refine below_set ?_ GE280.out) | exact HB.out)⟩⟩
 case round => (
 clear H'
 try clear c1
 try clear c5
 try clear hcz10_0
 try clear hcz10_1
 try clear hfz10_0
 try clear hfz10_1
 obtain ⟨x8_1, x17_1, rfl, HA, HK1, HO_8, BK279, BK280, HB⟩ := hrel
 cases gk with
 | zero => exact absurd HA.out (by simp [impl_MissingBy.l0])
 | succ k1 => (
 have H := HA.out
 clear HA
 simp only [impl_MissingBy.l0] at H
 by_cases c14 : x17_1 < t285
 {
 rw [if_pos c14] at H
 have c14b0 : decide (x17_1 < t285) = true := decide_eq_true c14
 clear c14
 replace H := Option.bind_eq_some_iff.mp H
 obtain ⟨t286, A150, H⟩ := H
 replace H : ((impl_endsWith.f k1 t286 a2_0 a2_1).bind fun t289 => (if t289 = true then (if x8_1.length < 17592186044416 then (impl_MissingBy.l0 k1 l1 (x8_1 ++ [x17_1]) t285 (wrap64 (x17_1 + 1)) a2_0 a2_1) else (none)) else (impl_MissingBy.l0 k1 l1 x8_1 t285 (wrap64 (x17_1 + 1)) a2_0 a2_1))) = some (r1, r2) := H
 have A15 := ak A150
 clear A150
 replace H := Option.bind_eq_some_iff.mp H
 obtain ⟨t289, A160, H⟩ := H
 replace H : (if t289 = true then (if x8_1.length < 17592186044416 then (impl_MissingBy.l0 k1 l1 (x8_1 ++ [x17_1]) t285 (wrap64 (x17_1 + 1)) a2_0 a2_1) else (none)) else (impl_MissingBy.l0 k1 l1 x8_1 t285 (wrap64 (x17_1 + 1)) a2_0 a2_1)) = some (r1, r2) := H
 have A16 := ak A160
 clear A160
 by_cases c17 : t289 = true
 {
 subst c17
 have H1 : (if x8_1.length < 17592186044416 then (impl_MissingBy.l0 k1 l1 (x8_1 ++ [x17_1]) t285 (wrap64 (x17_1 + 1)) a2_0 a2_1) else (none)) = some (r1, r2) := by rw [if_pos rfl] at H; exact H
 clear H
 have H := H1
 clear H1
 by_cases c18 : x8_1.length < 17592186044416
 {
 rw [if_pos c18] at H
 have LMc18 := ak c18
 clear c18
 obtain ⟨y290, hy290⟩ : ∃ y_ : List Int, y_ = (x8_1 ++ [x17_1]) := ⟨_, rfl⟩
 replace H : (impl_MissingBy.l0 k1 l1 y290 t285 (wrap64 (x17_1 + 1)) a2_0 a2_1) = some (r1, r2) := by first | (rw [hy290]; with_reducible exact H) | (have H2_ := (Option.bind_some _ _).symm.trans H; rw [hy290]; with_reducible exact H2_) | (have H2_ := (Option.bind_some _ _).symm.trans H; with_reducible exact H2_) | with_reducible exact H | (rw [hy290]; exact H) | exact H
 have Ny290 := ak hy290
 clear hy290
 as_aux_lemma => (
 have H' := ak H
 clear H
 try go_wp2
 have n0_ := ak (Kd.R_drew HO_8.out)
 have n1_ := ak (blk_drew BK279.out)
 have n2_ := ak (blk_drew BK280.out)
 have n3_ := ak (below_drew1 HB.out)
 clear HO_8 BK279 BK280 HB
 have HO_8 := n0_
 have BK279 := n1_
 have BK280 := n2_
 have HB := n3_
 clear n0_ n1_ n2_ n3_
 refine start_ (n := 5) (S := fun w' => w'.cell? ⟨gb280, 0, none⟩ = some (.int .i64 a2_0) ∧ w'.cell? ⟨gb280, 1, none⟩ = some (.int .i64 a2_1)) (ds := []) (bA 5 0) (by kernel_rfl) rfl rfl ⟨(blk_cell BK280.out 0).trans rfl, (blk_cell BK280.out 1).trans rfl⟩ (fun hHeld => ?_)
 generalize wr.drew = w19 at HO_8 BK279 BK280 HB hHeld ⊢
 refine pure_ (i := 0) (N := some 20) (v := ?_) (a' := ?_) (bA 5 1) rfl rfl (by kernel_rfl) (fun _ _ _ h => h) (Or.inl ⟨by rfl, ?_⟩) ?_ ?_
 rotate_left
 {
 intro w'
 go_simp
 with_reducible rfl
 }
 rotate_left
 · exact pt_
 refine pure_ (i := 1) (N := some 21) (v := ?_) (a' := ?_) (bA 5 3) rfl rfl (by kernel_rfl) (fun _ _ _ h => h) (Or.inl ⟨by rfl, ?_⟩) ?_ ?_
 rotate_left
 {
 intro w'
 go_simp
 with_reducible rfl
 }
 rotate_left
 · exact pt_
 refine take_ (i := 3) (N := some 23) (v := ?_) (a' := ?_) (bA 5 11) rfl rfl (by kernel_rfl) (fun _ _ _ h => h) (Or.inl ⟨by rfl, ?_⟩) hHeld ?_ ?_
 rotate_left
 {
 rintro w' ⟨s0, s1⟩
 go_simp
 with_reducible rfl
 }
 rotate_left
 · exact pt_
 refine one_ (i := 2) (N := some 22) (bA 5 15) rfl rfl (by kernel_rfl) (by decide) (fun K hK => ?_)
 refine goes_ Try.func32 (by kernel_rfl) rfl #[.slice A1 l1.length c1, .int .i64 x17_1] (by rfl) rfl rfl gl_ ?_
 with_reducible refine (impl_without.calls _ _ l1 x17_1 t286 _ ?side1 ?side2 A15.out).mono ?_
 (case side1 => repeat (first | exact (Kd.C_below HR1.out HB.out) | (with_reducible refine Kd.C_alloc ?_ _) | (with_reducible refine Kd.C_drewN ?_ _) | (with_reducible refine Kd.C_drew ?_)))
 (case side2 => exact HC1.out)
 rintro e w20 ⟨v287, rfl, ho0, hb⟩
 refine ⟨_, rfl, ?_⟩
 have n0_ := ak (Kd.R_below (zR HO_8.out) hb)
 have n1_ := ak (Kd.R_lower ho0 (below_size (by repeat (first | (with_reducible first | exact HB.out | apply below_alloc | apply pw_below_drewN | apply below_drew1 | refine below_set ?_ GE279.out | refine below_set ?_ GE280.out) | exact HB.out))))
 have n2_ := ak (blk_below (g := gb279) (o := .cells #[.int .i16 a0_0, .slice A0_1 l0_1.length c0_1] 27 (0, 0)) (zK BK279.out) hb)
 have n3_ := ak (blk_below (g := gb280) (o := .cells #[.int .i64 a2_0, .int .i64 a2_1] 40 (0, 0)) (zK BK280.out) hb)
 have n4_ := ak (below_step (by repeat (first | (with_reducible first | exact HB.out | apply below_alloc | apply pw_below_drewN | apply below_drew1 | refine below_set ?_ GE279.out | refine below_set ?_ GE280.out) | exact HB.out)) hb)
 clear HO_8 BK279 BK280 HB
 have HO_8 := n0_
 have HO288 := n1_
 have BK279 := n2_
 have BK280 := n3_
 have HB := n4_
 clear n0_ n1_ n2_ n3_ n4_
 (try clear hb)
 (try clear hb2)
 (try clear hk)
 (try clear hi)
 (try clear ho0)
 obtain ⟨Ao21, co21, eo21⟩ := Kd.R_slice HO288.out
 (first | subst eo21 | (injection eo21 with f1_ f2_ f3_; have f4_ := f1_.symm; have f5_ := f3_.symm; clear f1_ f2_ f3_; subst f4_; subst f5_))
 refine hK.out _ _ ⟨(blk_cell BK280.out 0).trans rfl, (blk_cell BK280.out 1).trans rfl⟩ (fun hHeld => ?_)
 clear hK K
 refine norm_ (a' := ?_) ?_ ?_
 rotate_left
 {
 show Act.put _ (some 22) _ = _
 simp only [Act.put, zs, zz, zk, i64_w, i32_w]
 rfl
 }
 refine one_ (i := 4) (N := some 24) (bA 5 31) rfl rfl (by kernel_rfl) (by decide) (fun K hK => ?_)
 refine goes_ Try.func31 (by kernel_rfl) rfl #[.slice Ao21 t286.length co21, .agg #[.int .i64 a2_0, .int .i64 a2_1]] (by rfl) rfl rfl gl_ ?_
 with_reducible refine (impl_endsWith.calls k1 _ _ t286 a2_0 a2_1 true _ ?side1 ?side2 A16.out).mono ?_
 (case side1 => exact zC (Kd.R_reads' HO288.out).2.2)
 (case side2 => exact (Kd.R_reads' HO288.out).2.1)
 rintro e w22 ⟨rfl, hb⟩
 refine ⟨_, rfl, ?_⟩
 have n0_ := ak (Kd.R_below (zR HO_8.out) hb)
 have n1_ := ak (Kd.R_below (zR HO288.out) hb)
 have n2_ := ak (blk_below (g := gb279) (o := .cells #[.int .i16 a0_0, .slice A0_1 l0_1.length c0_1] 27 (0, 0)) (zK BK279.out) hb)
 have n3_ := ak (blk_below (g := gb280) (o := .cells #[.int .i64 a2_0, .int .i64 a2_1] 40 (0, 0)) (zK BK280.out) hb)
 have n4_ := ak (below_step (by repeat (first | (with_reducible first | exact HB.out | apply below_alloc | apply pw_below_drewN | apply below_drew1 | refine below_set ?_ GE279.out | refine below_set ?_ GE280.out) | exact HB.out)) hb)
 clear HO_8 HO288 BK279 BK280 HB
 have HO_8 := n0_
 have HO288 := n1_
 have BK279 := n2_
 have BK280 := n3_
 have HB := n4_
 clear n0_ n1_ n2_ n3_ n4_
 (try clear hb)
 (try clear hb2)
 (try clear hk)
 (try clear hi)
 refine hK.out _ _ ⟨(blk_cell BK280.out 0).trans rfl, (blk_cell BK280.out 1).trans rfl⟩ (fun hHeld => ?_)
 clear hK K
 refine norm_ (a' := ?_) ?_ ?_
 rotate_left
 {
 show Act.put _ (some 24) _ = _
 simp only [Act.put, zs, zz, zk, i64_w, i32_w]
 rfl
 }
 refine done_ (by kernel_rfl) ?_
 try go_wp2_with (first | ((with_reducible refine gate_builtin (b := .append) (xs := #[.tmp 25, .tmp 27]) rfl ?_); at_builtin; refine Kd.R_append (Kd.int .i64) (w0 := w) w.heap.size rfl (.tmp 25) (.tmp 27) 41 2 (.int .i64 0) 8 rfl Try.underlying41 info2 rfl (by decide) (by omega) u8 x8_1 x17_1 [.int .i64 x17_1] (fun _ => True) (fun _ => False) rfl rfl ?aP (fun _ hk => hk.elim) ?aF ?aO ?aB ?aS ?aL ?_; (case aP => exact rfl); (case aB => exact (by repeat (first | (with_reducible first | exact HB.out | apply below_alloc | apply pw_below_drewN | apply below_drew1 | refine below_set ?_ GE279.out | refine below_set ?_ GE280.out) | exact HB.out))); (case aF => exact (fun _ _ => trivial)); (case aO => exact (zR HO_8.out)); (case aS => exact (below_size (by repeat (first | (with_reducible first | exact HB.out | apply below_alloc | apply pw_below_drewN | apply below_drew1 | refine below_set ?_ GE279.out | refine below_set ?_ GE280.out) | exact HB.out)))); (case aL => have := LMc18.out; omega); intro v291 w23 ho hb hg hat; rw [← Ny290.out] at ho; have n0_ := ak (blk_grown (g := gb279) (o := .cells #[.int .i16 a0_0, .slice A0_1 l0_1.length c0_1] 27 (0, 0)) (zK BK279.out) hg (Kd.R_ne HO_8.out BK279.out (by decide))); have n1_ := ak (blk_grown (g := gb280) (o := .cells #[.int .i64 a2_0, .int .i64 a2_1] 40 (0, 0)) (zK BK280.out) hg (Kd.R_ne HO_8.out BK280.out (by decide))); have n2_ := ak (Kd.R_over' (zR HO288.out) (Kd.R_typed (zR HO_8.out)) (by decide) hg); have n3_ := ak (hb); have n4_ := ak (ho); clear BK279 BK280 HO288 HB HO_8; have BK279 := n0_; have BK280 := n1_; have HO288 := n2_; have HB := n3_; have HO292 := n4_; clear n0_ n1_ n2_ n3_ n4_; clear ho hb hg hat))
 go_roundg k1
 case measure => have := HK1.out; omega
 case rel => exact ⟨(y290), (wrap64 (x17_1 + 1)), (by first | rfl | (simp; done) | (simp [*]; done)), H', ⟨by have := HK1.out; omega⟩, ⟨(zR HO292.out)⟩, ⟨(zK BK279.out)⟩, ⟨(zK BK280.out)⟩, ⟨by repeat (first | (with_reducible first | exact HB.out | apply below_alloc | apply pw_below_drewN | apply below_drew1 | refine below_set ?_ GE279.out | refine below_set ?_ GE280.out) | exact HB.out)⟩⟩
 )
 }
 · rw [if_neg c18] at H; exact absurd H (by simp)
 }
 {
 replace c17 := Bool.eq_false_iff.mpr c17
 subst c17
 have H1 : (impl_MissingBy.l0 k1 l1 x8_1 t285 (wrap64 (x17_1 + 1)) a2_0 a2_1) = some (r1, r2) := by rw [if_neg (show ¬ (false = true) by decide)] at H; exact H
 clear H
 have H := H1
 clear H1
 as_aux_lemma => (
 have H' := ak H
 clear H
 try go_wp2
 have n0_ := ak (Kd.R_drew HO_8.out)
 have n1_ := ak (blk_drew BK279.out)
 have n2_ := ak (blk_drew BK280.out)
 have n3_ := ak (below_drew1 HB.out)
 clear HO_8 BK279 BK280 HB
 have HO_8 := n0_
 have BK279 := n1_
 have BK280 := n2_
 have HB := n3_
 clear n0_ n1_ n2_ n3_
 refine start_ (n := 5) (S := fun w' => w'.cell? ⟨gb280, 0, none⟩ = some (.int .i64 a2_0) ∧ w'.cell? ⟨gb280, 1, none⟩ = some (.int .i64 a2_1)) (ds := []) (bA 5 0) (by kernel_rfl) rfl rfl ⟨(blk_cell BK280.out 0).trans rfl, (blk_cell BK280.out 1).trans rfl⟩ (fun hHeld => ?_)
 generalize wr.drew = w24 at HO_8 BK279 BK280 HB hHeld ⊢
 refine pure_ (i := 0) (N := some 20) (v := ?_) (a' := ?_) (bA 5 1) rfl rfl (by kernel_rfl) (fun _ _ _ h => h) (Or.inl ⟨by rfl, ?_⟩) ?_ ?_
 rotate_left
 {
 intro w'
 go_simp
 with_reducible rfl
 }
 rotate_left
 · exact pt_
 refine pure_ (i := 1) (N := some 21) (v := ?_) (a' := ?_) (bA 5 3) rfl rfl (by kernel_rfl) (fun _ _ _ h => h) (Or.inl ⟨by rfl, ?_⟩) ?_ ?_
 rotate_left
 {
 intro w'
 go_simp
 with_reducible rfl
 }
 rotate_left
 · exact pt_
 refine take_ (i := 3) (N := some 23) (v := ?_) (a' := ?_) (bA 5 11) rfl rfl (by kernel_rfl) (fun _ _ _ h => h) (Or.inl ⟨by rfl, ?_⟩) hHeld ?_ ?_
 rotate_left
 {
 rintro w' ⟨s0, s1⟩
 go_simp
 with_reducible rfl
 }
 rotate_left
 · exact pt_
 refine one_ (i := 2) (N := some 22) (bA 5 15) rfl rfl (by kernel_rfl) (by decide) (fun K hK => ?_)
 refine goes_ Try.func32 (by kernel_rfl) rfl #[.slice A1 l1.length c1, .int .i64 x17_1] (by rfl) rfl rfl gl_ ?_
 with_reducible refine (impl_without.calls _ _ l1 x17_1 t286 _ ?side1 ?side2 A15.out).mono ?_
 (case side1 => repeat (first | exact (Kd.C_below HR1.out HB.out) | (with_reducible refine Kd.C_alloc ?_ _) | (with_reducible refine Kd.C_drewN ?_ _) | (with_reducible refine Kd.C_drew ?_)))
 (case side2 => exact HC1.out)
 rintro e w25 ⟨v287, rfl, ho0, hb⟩
 refine ⟨_, rfl, ?_⟩
 have n0_ := ak (Kd.R_below (zR HO_8.out) hb)
 have n1_ := ak (Kd.R_lower ho0 (below_size (by repeat (first | (with_reducible first | exact HB.out | apply below_alloc | apply pw_below_drewN | apply below_drew1 | refine below_set ?_ GE279.out | refine below_set ?_ GE280.out) | exact HB.out))))
 have n2_ := ak (blk_below (g := gb279) (o := .cells #[.int .i16 a0_0, .slice A0_1 l0_1.length c0_1] 27 (0, 0)) (zK BK279.out) hb)
 have n3_ := ak (blk_below (g := gb280) (o := .cells #[.int .i64 a2_0, .int .i64 a2_1] 40 (0, 0)) (zK BK280.out) hb)
 have n4_ := ak (below_step (by repeat (first | (with_reducible first | exact HB.out | apply below_alloc | apply pw_below_drewN | apply below_drew1 | refine below_set ?_ GE279.out | refine below_set ?_ GE280.out) | exact HB.out)) hb)
 clear HO_8 BK279 BK280 HB
 have HO_8 := n0_
 have HO288 := n1_
 have BK279 := n2_
 have BK280 := n3_
 have HB := n4_
 clear n0_ n1_ n2_ n3_ n4_
 (try clear hb)
 (try clear hb2)
 (try clear hk)
 (try clear hi)
 (try clear ho0)
 obtain ⟨Ao26, co26, eo26⟩ := Kd.R_slice HO288.out
 (first | subst eo26 | (injection eo26 with f1_ f2_ f3_; have f4_ := f1_.symm; have f5_ := f3_.symm; clear f1_ f2_ f3_; subst f4_; subst f5_))
 refine hK.out _ _ ⟨(blk_cell BK280.out 0).trans rfl, (blk_cell BK280.out 1).trans rfl⟩ (fun hHeld => ?_)
 clear hK K
 refine norm_ (a' := ?_) ?_ ?_
 rotate_left
 {
 show Act.put _ (some 22) _ = _
 simp only [Act.put, zs, zz, zk, i64_w, i32_w]
 rfl
 }
 refine one_ (i := 4) (N := some 24) (bA 5 31) rfl rfl (by kernel_rfl) (by decide) (fun K hK => ?_)
 refine goes_ Try.func31 (by kernel_rfl) rfl #[.slice Ao26 t286.length co26, .agg #[.int .i64 a2_0, .int .i64 a2_1]] (by rfl) rfl rfl gl_ ?_
 with_reducible refine (impl_endsWith.calls k1 _ _ t286 a2_0 a2_1 false _ ?side1 ?side2 A16.out).mono ?_
 (case side1 => exact zC (Kd.R_reads' HO288.out).2.2)
 (case side2 => exact (Kd.R_reads' HO288.out).2.1)
 rintro e w27 ⟨rfl, hb⟩
 refine ⟨_, rfl, ?_⟩
 have n0_ := ak (Kd.R_below (zR HO_8.out) hb)
 have n1_ := ak (Kd.R_below (zR HO288.out) hb)
 have n2_ := ak (blk_below (g := gb279) (o := .cells #[.int .i16 a0_0, .slice A0_1 l0_1.length c0_1] 27 (0, 0)) (zK BK279.out) hb)
 have n3_ := ak (blk_below (g := gb280) (o := .cells #[.int .i64 a2_0, .int .i64 a2_1] 40 (0, 0)) (zK BK280.out) hb)
 have n4_ := ak (below_step (by repeat (first | (with_reducible first | exact HB.out | apply below_alloc | apply pw_below_drewN | apply below_drew1 | refine below_set ?_ GE279.out | refine below_set ?_ GE280.out) | exact HB.out)) hb)
 clear HO_8 HO288 BK279 BK280 HB
 have HO_8 := n0_
 have HO288 := n1_
 have BK279 := n2_
 have BK280 := n3_
 have HB := n4_
 clear n0_ n1_ n2_ n3_ n4_
 (try clear hb)
 (try clear hb2)
 (try clear hk)
 (try clear hi)
 refine hK.out _ _ ⟨(blk_cell BK280.out 0).trans rfl, (blk_cell BK280.out 1).trans rfl⟩ (fun hHeld => ?_)
 clear hK K
 refine norm_ (a' := ?_) ?_ ?_
 rotate_left
 {
 show Act.put _ (some 24) _ = _
 simp only [Act.put, zs, zz, zk, i64_w, i32_w]
 rfl
 }
 refine done_ (by kernel_rfl) ?_
 try go_wp2
 go_roundg k1
 case measure => have := HK1.out; omega
 case rel => exact ⟨(x8_1), (wrap64 (x17_1 + 1)), (by first | rfl | (simp; done) | (simp [*]; done)), H', ⟨by have := HK1.out; omega⟩, ⟨(zR HO_8.out)⟩, ⟨(zK BK279.out)⟩, ⟨(zK BK280.out)⟩, ⟨by repeat (first | (with_reducible first | exact HB.out | apply below_alloc | apply pw_below_drewN | apply below_drew1 | refine below_set ?_ GE279.out | refine below_set ?_ GE280.out) | exact HB.out)⟩⟩
 )
 }
 }
 {
 rw [if_neg c14] at H
 have c14b0 : decide (x17_1 < t285) = false := decide_eq_false c14
 clear c14
 as_aux_lemma => (
 simp only [Option.some.injEq, Prod.mk.injEq] at H
 obtain ⟨rfl, rfl⟩ := H
 go_wp2
 go_ret2
 exact ⟨_, by first | rfl | (simp [errW_none, errW_some] <;> rfl) | (simp [*, errW_none, errW_some] <;> rfl), by (with_reducible repeat (first | apply Kd.R_alloc | apply Kd.R_drewN | apply Kd.R_drew)); exact HO_8.out, by repeat (first | (with_reducible first | exact HB.out | apply below_alloc | apply pw_below_drewN | apply below_drew1 | refine below_set ?_ GE279.out | refine below_set ?_ GE280.out) | exact HB.out)⟩
 )
 }
 )
 )
 }
 {
 replace c5 := Bool.eq_false_iff.mpr c5
 subst c5
 have H1 : (some (([] : List Int), 1)) = some (r1, r2) := by rw [if_neg (show ¬ (false = true) by decide)] at H; exact H
 clear H
 have H := H1
 clear H1
 as_aux_lemma => (
 simp only [Option.some.injEq, Prod.mk.injEq] at H
 obtain ⟨rfl, rfl⟩ := H
 go_enter Try.func12, Try.ntmps12
 go_wp2_with (first | ((with_reducible refine gate_dst (N := 3) rfl ?_); refine box_event ?hg (N := 3) ?hd (cs := #[.int .i16 a0_0, .slice A0_1 l0_1.length c0_1]) (t := 27) ?hr ?_; (case hd => rfl); (case hg => rfl); (case hr => first | (go_simp; done) | (go_simp; rfl)); intro gb279 hg w28 hbox hb; have n0_ := ak (below_step (zB HB.out) hb); have n1_ := ak (hbox); have n2_ := ak ((by rw [hg]; exact (below_size (zB HB.out)) : w.heap.size ≤ gb279)); have n3_ := ak ((by rw [hg]; exact (below_size (zB HB.out)) : w.heap.size ≤ gb279)); clear HB; have HB := n0_; have BK279 := n1_; have GW279 := n2_; have GE279 := n3_; clear n0_ n1_ n2_ n3_; clear hb hbox hg) | ((with_reducible refine gate_dst (N := 5) rfl ?_); refine box_event ?hg (N := 5) ?hd (cs := #[.int .i64 a2_0, .int .i64 a2_1]) (t := 40) ?hr ?_; (case hd => rfl); (case hg => rfl); (case hr => first | (go_simp; done) | (go_simp; rfl)); intro gb280 hg w29 hbox hb; have n0_ := ak (blk_below (g := gb279) (o := .cells #[.int .i16 a0_0, .slice A0_1 l0_1.length c0_1] 27 (0, 0)) (zK BK279.out) hb); have n1_ := ak (below_step (zBG HB.out GE279.out) hb); have n2_ := ak (hbox); have n3_ := ak ((by rw [hg]; exact (below_size (zBG HB.out GE279.out)) : w.heap.size ≤ gb280)); have n4_ := ak ((by rw [hg]; exact (below_size (zBG HB.out GE279.out)) : w.heap.size ≤ gb280)); have n5_ := ak ((by rw [hg]; exact Nat.ne_of_lt (blk_lt (g := gb279) (o := .cells #[.int .i16 a0_0, .slice A0_1 l0_1.length c0_1] 27 (0, 0)) (zK BK279.out)) : gb279 ≠ gb280)); have n6_ := ak ((by rw [hg]; exact Nat.ne_of_gt (blk_lt (g := gb279) (o := .cells #[.int .i16 a0_0, .slice A0_1 l0_1.length c0_1] 27 (0, 0)) (zK BK279.out)) : gb280 ≠ gb279)); clear BK279 HB; have BK279 := n0_; have HB := n1_; have BK280 := n2_; have GW280 := n3_; have GE280 := n4_; have NB279_280 := n5_; have NB280_279 := n6_; clear n0_ n1_ n2_ n3_ n4_ n5_ n6_; clear hb hbox hg; have hnb30 := NB279_280.out; have hnc30 := NB280_279.out; have hcz31_0 : w29.cell? ⟨gb279, 0, none⟩ = some (.int .i16 a0_0) := (blk_cell BK279.out 0).trans rfl; have hcz31_1 : w29.cell? ⟨gb279, 1, none⟩ = some (.slice A0_1 l0_1.length c0_1) := (blk_cell BK279.out 1).trans rfl; have hfz31_0 := blk_frozen BK279.out 0; have hfz31_1 := blk_frozen BK279.out 1) | ((with_reducible refine gate_callee (f := 24) rfl ?_); refine goesL_ (some 12) rfl rfl Try.func24 (by kernel_rfl) rfl #[.agg #[.int .i16 a0_0, .slice A0_1 l0_1.length c0_1], .slice A1 l1.length c1] rfl gl_ ?_; (with_reducible refine (impl_ValidHolds.calls k a0_0 _ _ l0_1 _ _ l1 false _ ?side1 ?side2 ?side3 ?side4 A4.out).mono ?_); (case side1 => repeat (first | exact (Kd.C_below HR0_1.out HB.out) | (with_reducible refine Kd.C_alloc ?_ _) | (with_reducible refine Kd.C_drewN ?_ _) | (with_reducible refine Kd.C_drew ?_))); (case side2 => exact HC0_1.out); (case side3 => repeat (first | exact (Kd.C_below HR1.out HB.out) | (with_reducible refine Kd.C_alloc ?_ _) | (with_reducible refine Kd.C_drewN ?_ _) | (with_reducible refine Kd.C_drew ?_))); (case side4 => exact HC1.out); rintro e w32 ⟨rfl, hb⟩; refine ⟨_, rfl, ?_⟩; have n0_ := ak (blk_below (g := gb279) (o := .cells #[.int .i16 a0_0, .slice A0_1 l0_1.length c0_1] 27 (0, 0)) (zK BK279.out) hb); have n1_ := ak (blk_below (g := gb280) (o := .cells #[.int .i64 a2_0, .int .i64 a2_1] 40 (0, 0)) (zK BK280.out) hb); have n2_ := ak (below_step (by repeat (first | (with_reducible first | exact HB.out | apply below_alloc | apply pw_below_drewN | apply below_drew1 | refine below_set ?_ GE279.out | refine below_set ?_ GE280.out) | exact HB.out)) hb); clear BK279 BK280 HB; have BK279 := n0_; have BK280 := n1_; have HB := n2_; clear n0_ n1_ n2_; (try clear hb); (try clear hb2); (try clear hk); (try clear hi)))
 go_ret2
 exact ⟨_, by first | rfl | (simp [errW_none, errW_some] <;> rfl) | (simp [*, errW_none, errW_some] <;> rfl), by first | exact Kd.R_nil _ _ _ _ _ | exact Kd.N_nil _ _ _ _ _ | exact Kd.V_nil _ _ _ _ _ | exact Kd.Q_nil _ _ _ _ _ | exact Kd.S_nil _ _ _ _ _, by repeat (first | (with_reducible first | exact HB.out | apply below_alloc | apply pw_below_drewN | apply below_drew1 | refine below_set ?_ GE279.out | refine below_set ?_ GE280.out) | exact HB.out)⟩
 )
 }
/-! ### spec_P6Pick: function 13 -/
def spec_P6Pick.f (l0 : List Int) (a1 : Int) : Option (Int) := (spec_l00From.f l0).bind fun bt293 => ((spec_l00Src_pick.f bt293.1 bt293.2.1 bt293.2.2 a1).bind fun bt297 => (some bt297.1))
set_option maxHeartbeats 8000000 in
set_option maxRecDepth 100000 in
theorem spec_P6Pick.calls (A0 : Option Addr) (c0 : Nat) (l0 : List Int) (a1 : Int) (r : Int) (w : World) (hr0 : Kd.C (Kd.int .u8) w A0 l0.length l0) (hc0 : l0.length ≤ c0) (h : spec_P6Pick.f l0 a1 = some r) :
    Calls Try.prog 13 #[.slice A0 l0.length c0, .int .i64 a1] w fun e w' => e = .returned (.int .i64 r) ∧ Below w.heap.size w w' := by
 have HR0 := ak hr0
 have HC0 := ak hc0
 clear hr0 hc0
 have HB := ak (Below.refl w.heap.size w)
 have H : ((spec_l00From.f l0).bind fun bt293 => ((spec_l00Src_pick.f bt293.1 bt293.2.1 bt293.2.2 a1).bind fun bt297 => (some bt297.1))) = some r := h
 clear h
 replace H := Option.bind_eq_some_iff.mp H
 obtain ⟨⟨t293, t294, t295⟩, A30, H⟩ := H
 replace H : ((spec_l00Src_pick.f t293 t294 t295 a1).bind fun bt297 => (some bt297.1)) = some r := H
 have A3 := ak A30
 clear A30
 replace H := Option.bind_eq_some_iff.mp H
 obtain ⟨⟨t297, t298, t299⟩, A40, H⟩ := H
 replace H : (some t297) = some r := H
 have A4 := ak A40
 clear A40
 as_aux_lemma => (
 obtain rfl := Option.some.inj H
 go_enter Try.func13, Try.ntmps13
 go_wp2_with (first | ((with_reducible refine gate_callee (f := 22) rfl ?_); refine goesL_ (some 6) rfl rfl Try.func22 (by kernel_rfl) rfl #[.slice A0 l0.length c0] rfl gl_ ?_; (with_reducible refine (spec_l00From.calls _ _ l0 t293 t294 t295 w _ ?side1 ?side2 ?side3 A3.out).mono ?_); (case side1 => repeat (first | (with_reducible first | exact HB.out | apply below_alloc | apply pw_below_drewN | apply below_drew1) | exact HB.out)); (case side2 => exact HR0.out); (case side3 => exact HC0.out); rintro e w5 ⟨g296, rfl, hi, hb, hb2⟩; refine ⟨_, rfl, ?_⟩; have n0_ := ak (hb); have n1_ := ak (hi); clear HB; have HB := n0_; have HI296 := n1_; clear n0_ n1_; (try clear hb); (try clear hb2); (try clear hk); (try clear hi)) | ((with_reducible refine gate_callee (f := 33) rfl ?_); refine goesL_ (some 8) rfl rfl Try.func33 (by kernel_rfl) rfl #[.pointer (some ⟨g296, 0, none⟩), .int .i64 a1] rfl gl_ ?_; (with_reducible refine (spec_l00Src_pick.calls g296 t293 t294 t295 a1 t297 t298 t299 w _ ?side1 ?side2 A4.out).mono ?_); (case side1 => repeat (first | (with_reducible first | exact HI296.out | apply IsS73.alloc | apply IsS73.drewN | apply IsS73.drew | apply IsS73.set_1 | apply IsS73.set_2) | exact HI296.out)); (case side2 => repeat (first | (with_reducible first | exact HB.out | apply below_alloc | apply pw_below_drewN | apply below_drew1 | refine below_set ?_ (IsS73.ge HI296.out)) | exact HB.out)); rintro e w6 ⟨rfl, hi, hb, hk⟩; refine ⟨_, rfl, ?_⟩; have n0_ := ak (hb); have n1_ := ak (hi); clear HB HI296; have HB := n0_; have HI296 := n1_; clear n0_ n1_; (try clear hb); (try clear hb2); (try clear hk); (try clear hi)))
 go_ret
 exact ⟨by first | rfl | (simp [errW_none, errW_some] <;> rfl) | (simp [*, errW_none, errW_some] <;> rfl), by repeat (first | (with_reducible first | exact HB.out | apply below_alloc | apply pw_below_drewN | apply below_drew1 | refine below_set ?_ (IsS73.ge HI296.out)) | exact HB.out)⟩
 )
/-! ### spec_l03Last: function 34 -/
def spec_l03Last.f (k : Nat) (l0 : List (S47)) (a1_0 : Int) (a1_1 : Int) : Option (Bool) := (spec_l03Count.f k l0).bind fun t301 => (if (t301.length : Int) > 0 then (if 0 ≤ (wrap64 ((t301.length : Int) - 1)) then (if (wrap64 ((t301.length : Int) - 1)) < (t301.length : Int) then (some (((rd_T40 t301 (wrap64 ((t301.length : Int) - 1))).f0) == a1_0 && (((rd_T40 t301 (wrap64 ((t301.length : Int) - 1))).f1) == a1_1))) else (none)) else (none)) else (some false))
theorem spec_l03Last.mono : ∀ a0 a1 a2 k, LeO (spec_l03Last.f k a0 a1 a2) (spec_l03Last.f (k + 1) a0 a1 a2) := by
  intro a0 a1 a2 k
  unfold spec_l03Last.f
  repeat' first
      | (with_reducible exact spec_l03Count.mono _ _)
      | (with_reducible exact LeO.refl _)
      | (with_reducible exact LeO.none _)
      | (with_reducible refine LeO.ite ?_ ?_)
      | (with_reducible refine LeO.bind ?_ (fun _ => ?_))
      | exact spec_l03Count.mono _ _
      | exact LeO.none _
      | refine LeO.ite ?_ ?_
      | refine LeO.bind ?_ (fun _ => ?_)
set_option maxHeartbeats 8000000 in
set_option maxRecDepth 100000 in
theorem spec_l03Last.calls (k : Nat) (A0 : Option Addr) (c0 : Nat) (l0 : List (S47)) (a1_0 : Int) (a1_1 : Int) (r : Bool) (w : World) (hr0 : Kd.C k47 w A0 l0.length l0) (hc0 : l0.length ≤ c0) (h : spec_l03Last.f k l0 a1_0 a1_1 = some r) :
    Calls Try.prog 34 #[.slice A0 l0.length c0, .agg #[.int .i64 a1_0, .int .i64 a1_1]] w fun e w' => e = .returned (.bool r) ∧ Below w.heap.size w w' := by
 have hu40 := Try.underlying40
 have HR0 := ak hr0
 have HC0 := ak hc0
 clear hr0 hc0
 have HB := ak (Below.refl w.heap.size w)
 have H : ((spec_l03Count.f k l0).bind fun t301 => (if (t301.length : Int) > 0 then (if 0 ≤ (wrap64 ((t301.length : Int) - 1)) then (if (wrap64 ((t301.length : Int) - 1)) < (t301.length : Int) then (some (((rd_T40 t301 (wrap64 ((t301.length : Int) - 1))).f0) == a1_0 && (((rd_T40 t301 (wrap64 ((t301.length : Int) - 1))).f1) == a1_1))) else (none)) else (none)) else (some false))) = some r := h
 clear h
 replace H := Option.bind_eq_some_iff.mp H
 obtain ⟨t301, A30, H⟩ := H
 replace H : (if (t301.length : Int) > 0 then (if 0 ≤ (wrap64 ((t301.length : Int) - 1)) then (if (wrap64 ((t301.length : Int) - 1)) < (t301.length : Int) then (some (((rd_T40 t301 (wrap64 ((t301.length : Int) - 1))).f0) == a1_0 && (((rd_T40 t301 (wrap64 ((t301.length : Int) - 1))).f1) == a1_1))) else (none)) else (none)) else (some false)) = some r := H
 have A3 := ak A30
 clear A30
 by_cases c4 : (t301.length : Int) > 0
 {
 rw [if_pos c4] at H
 have c4b0 : decide (0 < (t301.length : Int)) = true := decide_eq_true c4
 have c4b1 : decide (0 < t301.length) = true := decide_eq_true (by omega)
 clear c4
 obtain ⟨ji5, hji5⟩ : ∃ j_ : Int, (wrap64 ((t301.length : Int) - 1)) = j_ := ⟨_, rfl⟩
 replace H : (if 0 ≤ (ji5) then (if (ji5) < (t301.length : Int) then (some (((rd_T40 t301 (ji5)).f0) == a1_0 && (((rd_T40 t301 (ji5)).f1) == a1_1))) else (none)) else (none)) = some r := by first | (rw [hji5] at H; exact H) | (simp only [hji5] at H ⊢; exact H)
 (try rw [hji5] at A3)
 have hji5w : (IntKind.i64.wrap ((t301.length : Int) - 1)) = ji5 := (i64_w _).trans hji5
 by_cases c6 : 0 ≤ (ji5)
 {
 rw [if_pos c6] at H
 have c6b0 : decide (0 ≤ (ji5)) = true := decide_eq_true c6
 clear c6
 by_cases c7 : (ji5) < (t301.length : Int)
 {
 rw [if_pos c7] at H
 have c7b0 : decide ((ji5) < (t301.length : Int)) = true := decide_eq_true c7
 clear c7
 as_aux_lemma => (
 obtain rfl := Option.some.inj H
 go_enter Try.func34, Try.ntmps34
 go_wp2_with (first | ((with_reducible refine gate_dst (N := 3) rfl ?_); (try (refine gate_guard (by rfl) ?_; dsimp only)); refine box_event ?hg (N := 3) ?hd (cs := #[.int .i64 a1_0, .int .i64 a1_1]) (t := 40) ?hr ?_; (case hd => rfl); (case hg => rfl); (case hr => first | (go_simp; done) | (go_simp; rfl)); intro gb300 hg w8 hbox hb; have n0_ := ak (below_step (zB HB.out) hb); have n1_ := ak (hbox); have n2_ := ak ((by rw [hg]; exact (below_size (zB HB.out)) : w.heap.size ≤ gb300)); have n3_ := ak ((by rw [hg]; exact (below_size (zB HB.out)) : w.heap.size ≤ gb300)); clear HB; have HB := n0_; have BK300 := n1_; have GW300 := n2_; have GE300 := n3_; clear n0_ n1_ n2_ n3_; clear hb hbox hg) | (go_at_call 27; (with_reducible refine (spec_l03Count.calls k _ _ l0 t301 _ ?side1 ?side2 A3.out).mono ?_); (case side1 => repeat (first | exact (Kd.C_below HR0.out HB.out) | (with_reducible refine Kd.C_alloc ?_ _) | (with_reducible refine Kd.C_drewN ?_ _) | (with_reducible refine Kd.C_drew ?_))); (case side2 => exact HC0.out); rintro e w9 ⟨v302, rfl, ho0, hb⟩; have n0_ := ak (Kd.R_lower (Kd.R_newB ho0 (g := gb300) (o := .cells #[.int .i64 a1_0, .int .i64 a1_1] 40 (0, 0)) (zK BK300.out)) (below_size (zBG HB.out GE300.out))); have n1_ := ak (blk_below (g := gb300) (o := .cells #[.int .i64 a1_0, .int .i64 a1_1] 40 (0, 0)) (zK BK300.out) hb); have n2_ := ak (below_step (zBG HB.out GE300.out) hb); clear BK300 HB; have HO303 := n0_; have BK300 := n1_; have HB := n2_; clear n0_ n1_ n2_; (try clear hb); (try clear hb2); (try clear hk); (try clear hi); (try clear ho0); obtain ⟨Ao10, co10, eo10⟩ := Kd.R_slice HO303.out; subst eo10; have p304 : 0 ≤ ((ji5) : Int) := of_decide_eq_true (by first | (with_reducible assumption) | assumption); have q304 : (ji5) < (t301.length : Int) := of_decide_eq_true (by first | (with_reducible assumption) | assumption); obtain ⟨ad304, e304, hx304_0, hx304_1⟩ := at_T40 (Kd.R_reads' HO303.out).2.2 (ji5) p304 q304; cases e304; replace p304 := eq_true p304; replace q304 := eq_true q304; have hcz11_0 : w9.cell? ⟨gb300, 0, none⟩ = some (.int .i64 a1_0) := (blk_cell BK300.out 0).trans rfl; have hcz11_1 : w9.cell? ⟨gb300, 1, none⟩ = some (.int .i64 a1_1) := (blk_cell BK300.out 1).trans rfl; have hfz11_0 := blk_frozen BK300.out 0; have hfz11_1 := blk_frozen BK300.out 1))
 repeat (go_quiet (first | ((with_reducible refine gate_dst (N := 3) rfl ?_); (try (refine gate_guard (by rfl) ?_; dsimp only)); refine box_event ?hg (N := 3) ?hd (cs := #[.int .i64 a1_0, .int .i64 a1_1]) (t := 40) ?hr ?_; (case hd => rfl); (case hg => rfl); (case hr => first | (go_simp; done) | (go_simp; rfl)); intro gb300 hg w8 hbox hb; have n0_ := ak (below_step (zB HB.out) hb); have n1_ := ak (hbox); have n2_ := ak ((by rw [hg]; exact (below_size (zB HB.out)) : w.heap.size ≤ gb300)); have n3_ := ak ((by rw [hg]; exact (below_size (zB HB.out)) : w.heap.size ≤ gb300)); clear HB; have HB := n0_; have BK300 := n1_; have GW300 := n2_; have GE300 := n3_; clear n0_ n1_ n2_ n3_; clear hb hbox hg) | (go_at_call 27; (with_reducible refine (spec_l03Count.calls k _ _ l0 t301 _ ?side1 ?side2 A3.out).mono ?_); (case side1 => repeat (first | exact (Kd.C_below HR0.out HB.out) | (with_reducible refine Kd.C_alloc ?_ _) | (with_reducible refine Kd.C_drewN ?_ _) | (with_reducible refine Kd.C_drew ?_))); (case side2 => exact HC0.out); rintro e w9 ⟨v302, rfl, ho0, hb⟩; have n0_ := ak (Kd.R_lower (Kd.R_newB ho0 (g := gb300) (o := .cells #[.int .i64 a1_0, .int .i64 a1_1] 40 (0, 0)) (zK BK300.out)) (below_size (zBG HB.out GE300.out))); have n1_ := ak (blk_below (g := gb300) (o := .cells #[.int .i64 a1_0, .int .i64 a1_1] 40 (0, 0)) (zK BK300.out) hb); have n2_ := ak (below_step (zBG HB.out GE300.out) hb); clear BK300 HB; have HO303 := n0_; have BK300 := n1_; have HB := n2_; clear n0_ n1_ n2_; (try clear hb); (try clear hb2); (try clear hk); (try clear hi); (try clear ho0); obtain ⟨Ao10, co10, eo10⟩ := Kd.R_slice HO303.out; subst eo10; have p304 : 0 ≤ ((ji5) : Int) := of_decide_eq_true (by first | (with_reducible assumption) | assumption); have q304 : (ji5) < (t301.length : Int) := of_decide_eq_true (by first | (with_reducible assumption) | assumption); obtain ⟨ad304, e304, hx304_0, hx304_1⟩ := at_T40 (Kd.R_reads' HO303.out).2.2 (ji5) p304 q304; cases e304; replace p304 := eq_true p304; replace q304 := eq_true q304; have hcz11_0 : w9.cell? ⟨gb300, 0, none⟩ = some (.int .i64 a1_0) := (blk_cell BK300.out 0).trans rfl; have hcz11_1 : w9.cell? ⟨gb300, 1, none⟩ = some (.int .i64 a1_1) := (blk_cell BK300.out 1).trans rfl; have hfz11_0 := blk_frozen BK300.out 0; have hfz11_1 := blk_frozen BK300.out 1)); try go_wp2_with (first | ((with_reducible refine gate_dst (N := 3) rfl ?_); (try (refine gate_guard (by rfl) ?_; dsimp only)); refine box_event ?hg (N := 3) ?hd (cs := #[.int .i64 a1_0, .int .i64 a1_1]) (t := 40) ?hr ?_; (case hd => rfl); (case hg => rfl); (case hr => first | (go_simp; done) | (go_simp; rfl)); intro gb300 hg w8 hbox hb; have n0_ := ak (below_step (zB HB.out) hb); have n1_ := ak (hbox); have n2_ := ak ((by rw [hg]; exact (below_size (zB HB.out)) : w.heap.size ≤ gb300)); have n3_ := ak ((by rw [hg]; exact (below_size (zB HB.out)) : w.heap.size ≤ gb300)); clear HB; have HB := n0_; have BK300 := n1_; have GW300 := n2_; have GE300 := n3_; clear n0_ n1_ n2_ n3_; clear hb hbox hg) | (go_at_call 27; (with_reducible refine (spec_l03Count.calls k _ _ l0 t301 _ ?side1 ?side2 A3.out).mono ?_); (case side1 => repeat (first | exact (Kd.C_below HR0.out HB.out) | (with_reducible refine Kd.C_alloc ?_ _) | (with_reducible refine Kd.C_drewN ?_ _) | (with_reducible refine Kd.C_drew ?_))); (case side2 => exact HC0.out); rintro e w9 ⟨v302, rfl, ho0, hb⟩; have n0_ := ak (Kd.R_lower (Kd.R_newB ho0 (g := gb300) (o := .cells #[.int .i64 a1_0, .int .i64 a1_1] 40 (0, 0)) (zK BK300.out)) (below_size (zBG HB.out GE300.out))); have n1_ := ak (blk_below (g := gb300) (o := .cells #[.int .i64 a1_0, .int .i64 a1_1] 40 (0, 0)) (zK BK300.out) hb); have n2_ := ak (below_step (zBG HB.out GE300.out) hb); clear BK300 HB; have HO303 := n0_; have BK300 := n1_; have HB := n2_; clear n0_ n1_ n2_; (try clear hb); (try clear hb2); (try clear hk); (try clear hi); (try clear ho0); obtain ⟨Ao10, co10, eo10⟩ := Kd.R_slice HO303.out; subst eo10; have p304 : 0 ≤ ((ji5) : Int) := of_decide_eq_true (by first | (with_reducible assumption) | assumption); have q304 : (ji5) < (t301.length : Int) := of_decide_eq_true (by first | (with_reducible assumption) | assumption); obtain ⟨ad304, e304, hx304_0, hx304_1⟩ := at_T40 (Kd.R_reads' HO303.out).2.2 (ji5) p304 q304; cases e304; replace p304 := eq_true p304; replace q304 := eq_true q304; have hcz11_0 : w9.cell? ⟨gb300, 0, none⟩ = some (.int .i64 a1_0) := (blk_cell BK300.out 0).trans rfl; have hcz11_1 : w9.cell? ⟨gb300, 1, none⟩ = some (.int .i64 a1_1) := (blk_cell BK300.out 1).trans rfl; have hfz11_0 := blk_frozen BK300.out 0; have hfz11_1 := blk_frozen BK300.out 1)))
 go_ret
 exact ⟨by first | rfl | (simp [errW_none, errW_some] <;> rfl) | (simp only [← hji5]; first | rfl | (simp [errW_none, errW_some] <;> rfl)) | (simp [*, errW_none, errW_some] <;> rfl), zBG HB.out GE300.out⟩
 )
 }
 · rw [if_neg c7] at H; exact absurd H (by simp)
 }
 · rw [if_neg c6] at H; exact absurd H (by simp)
 }
 {
 rw [if_neg c4] at H
 have c4b0 : decide (0 < (t301.length : Int)) = false := decide_eq_false c4
 have c4b1 : decide (0 < t301.length) = false := decide_eq_false (by omega)
 clear c4
 as_aux_lemma => (
 obtain rfl := Option.some.inj H
 go_enter Try.func34, Try.ntmps34
 go_wp2_with (first | ((with_reducible refine gate_dst (N := 3) rfl ?_); (try (refine gate_guard (by rfl) ?_; dsimp only)); refine box_event ?hg (N := 3) ?hd (cs := #[.int .i64 a1_0, .int .i64 a1_1]) (t := 40) ?hr ?_; (case hd => rfl); (case hg => rfl); (case hr => first | (go_simp; done) | (go_simp; rfl)); intro gb300 hg w12 hbox hb; have n0_ := ak (below_step (zB HB.out) hb); have n1_ := ak (hbox); have n2_ := ak ((by rw [hg]; exact (below_size (zB HB.out)) : w.heap.size ≤ gb300)); have n3_ := ak ((by rw [hg]; exact (below_size (zB HB.out)) : w.heap.size ≤ gb300)); clear HB; have HB := n0_; have BK300 := n1_; have GW300 := n2_; have GE300 := n3_; clear n0_ n1_ n2_ n3_; clear hb hbox hg) | (go_at_call 27; (with_reducible refine (spec_l03Count.calls k _ _ l0 t301 _ ?side1 ?side2 A3.out).mono ?_); (case side1 => repeat (first | exact (Kd.C_below HR0.out HB.out) | (with_reducible refine Kd.C_alloc ?_ _) | (with_reducible refine Kd.C_drewN ?_ _) | (with_reducible refine Kd.C_drew ?_))); (case side2 => exact HC0.out); rintro e w13 ⟨v302, rfl, ho0, hb⟩; have n0_ := ak (Kd.R_lower (Kd.R_newB ho0 (g := gb300) (o := .cells #[.int .i64 a1_0, .int .i64 a1_1] 40 (0, 0)) (zK BK300.out)) (below_size (zBG HB.out GE300.out))); have n1_ := ak (blk_below (g := gb300) (o := .cells #[.int .i64 a1_0, .int .i64 a1_1] 40 (0, 0)) (zK BK300.out) hb); have n2_ := ak (below_step (zBG HB.out GE300.out) hb); clear BK300 HB; have HO303 := n0_; have BK300 := n1_; have HB := n2_; clear n0_ n1_ n2_; (try clear hb); (try clear hb2); (try clear hk); (try clear hi); (try clear ho0); obtain ⟨Ao14, co14, eo14⟩ := Kd.R_slice HO303.out; subst eo14))
 repeat (go_quiet (first | ((with_reducible refine gate_dst (N := 3) rfl ?_); (try (refine gate_guard (by rfl) ?_; dsimp only)); refine box_event ?hg (N := 3) ?hd (cs := #[.int .i64 a1_0, .int .i64 a1_1]) (t := 40) ?hr ?_; (case hd => rfl); (case hg => rfl); (case hr => first | (go_simp; done) | (go_simp; rfl)); intro gb300 hg w12 hbox hb; have n0_ := ak (below_step (zB HB.out) hb); have n1_ := ak (hbox); have n2_ := ak ((by rw [hg]; exact (below_size (zB HB.out)) : w.heap.size ≤ gb300)); have n3_ := ak ((by rw [hg]; exact (below_size (zB HB.out)) : w.heap.size ≤ gb300)); clear HB; have HB := n0_; have BK300 := n1_; have GW300 := n2_; have GE300 := n3_; clear n0_ n1_ n2_ n3_; clear hb hbox hg) | (go_at_call 27; (with_reducible refine (spec_l03Count.calls k _ _ l0 t301 _ ?side1 ?side2 A3.out).mono ?_); (case side1 => repeat (first | exact (Kd.C_below HR0.out HB.out) | (with_reducible refine Kd.C_alloc ?_ _) | (with_reducible refine Kd.C_drewN ?_ _) | (with_reducible refine Kd.C_drew ?_))); (case side2 => exact HC0.out); rintro e w13 ⟨v302, rfl, ho0, hb⟩; have n0_ := ak (Kd.R_lower (Kd.R_newB ho0 (g := gb300) (o := .cells #[.int .i64 a1_0, .int .i64 a1_1] 40 (0, 0)) (zK BK300.out)) (below_size (zBG HB.out GE300.out))); have n1_ := ak (blk_below (g := gb300) (o := .cells #[.int .i64 a1_0, .int .i64 a1_1] 40 (0, 0)) (zK BK300.out) hb); have n2_ := ak (below_step (zBG HB.out GE300.out) hb); clear BK300 HB; have HO303 := n0_; have BK300 := n1_; have HB := n2_; clear n0_ n1_ n2_; (try clear hb); (try clear hb2); (try clear hk); (try clear hi); (try clear ho0); obtain ⟨Ao14, co14, eo14⟩ := Kd.R_slice HO303.out; subst eo14)); try go_wp2_with (first | ((with_reducible refine gate_dst (N := 3) rfl ?_); (try (refine gate_guard (by rfl) ?_; dsimp only)); refine box_event ?hg (N := 3) ?hd (cs := #[.int .i64 a1_0, .int .i64 a1_1]) (t := 40) ?hr ?_; (case hd => rfl); (case hg => rfl); (case hr => first | (go_simp; done) | (go_simp; rfl)); intro gb300 hg w12 hbox hb; have n0_ := ak (below_step (zB HB.out) hb); have n1_ := ak (hbox); have n2_ := ak ((by rw [hg]; exact (below_size (zB HB.out)) : w.heap.size ≤ gb300)); have n3_ := ak ((by rw [hg]; exact (below_size (zB HB.out)) : w.heap.size ≤ gb300)); clear HB; have HB := n0_; have BK300 := n1_; have GW300 := n2_; have GE300 := n3_; clear n0_ n1_ n2_ n3_; clear hb hbox hg) | (go_at_call 27; (with_reducible refine (spec_l03Count.calls k _ _ l0 t301 _ ?side1 ?side2 A3.out).mono ?_); (case side1 => repeat (first | exact (Kd.C_below HR0.out HB.out) | (with_reducible refine Kd.C_alloc ?_ _) | (with_reducible refine Kd.C_drewN ?_ _) | (with_reducible refine Kd.C_drew ?_))); (case side2 => exact HC0.out); rintro e w13 ⟨v302, rfl, ho0, hb⟩; have n0_ := ak (Kd.R_lower (Kd.R_newB ho0 (g := gb300) (o := .cells #[.int .i64 a1_0, .int .i64 a1_1] 40 (0, 0)) (zK BK300.out)) (below_size (zBG HB.out GE300.out))); have n1_ := ak (blk_below (g := gb300) (o := .cells #[.int .i64 a1_0, .int .i64 a1_1] 40 (0, 0)) (zK BK300.out) hb); have n2_ := ak (below_step (zBG HB.out GE300.out) hb); clear BK300 HB; have HO303 := n0_; have BK300 := n1_; have HB := n2_; clear n0_ n1_ n2_; (try clear hb); (try clear hb2); (try clear hk); (try clear hi); (try clear ho0); obtain ⟨Ao14, co14, eo14⟩ := Kd.R_slice HO303.out; subst eo14)))
 go_ret
 exact ⟨by first | rfl | (simp [errW_none, errW_some] <;> rfl) | (simp [*, errW_none, errW_some] <;> rfl), zBG HB.out GE300.out⟩
 )
 }
end Go.Proofs.Ytcgbnbblojkglaa.P
