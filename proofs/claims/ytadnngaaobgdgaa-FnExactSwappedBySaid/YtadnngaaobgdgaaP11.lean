-- Printed by wip/print (my turned copy of the kit's print) out of the translation; Lean checks it.
import Derived.Test.YtadnngaaobgdgaaP0
import Derived.Test.YtadnngaaobgdgaaP10
namespace Go.Proofs.Ytadnngaaobgdgaa.P
open Go.RowKit Go.Proofs.YtadnngaaobgdgaaW.PrintWords Go.Proofs.YtadnngaaobgdgaaW.PrintLast Go.Proofs.YtadnngaaobgdgaaW.PrintMore
attribute [local go_sem] max2_int min2_int max_two min_two max_three min_three max_four min_four   -- for this text's walks alone
set_option linter.unusedVariables false
set_option linter.unusedSimpArgs false

/-! ### laws_eqInt64A2S: function 20 -/
def laws_eqInt64A2S.l0 : Nat → List (S68) → List (S68) → Int → Option (Bool)
 | 0, _, _, _ => none
 | k + 1, x0, x1, x5 => if x5 < (x0.length : Int) then (if 0 ≤ x5 then (if x5 < (x1.length : Int) then ((laws_eqInt64A2.f ((rd_T68 x0 x5).f0) ((rd_T68 x0 x5).f1) ((rd_T68 x1 x5).f0) ((rd_T68 x1 x5).f1)).bind fun t383 => (if t383 = true then (laws_eqInt64A2S.l0 k x0 x1 (wrap64 (x5 + 1))) else (some false))) else (none)) else (none)) else (some true)
def laws_eqInt64A2S.f (k : Nat) (l0 : List (S68)) (l1 : List (S68)) : Option (Bool) := if (l0.length : Int) = (l1.length : Int) then (laws_eqInt64A2S.l0 k l0 l1 0) else (some false)
theorem laws_eqInt64A2S.mono_l : ∀ k, (∀ y0 y1 y2, LeO (laws_eqInt64A2S.l0 k y0 y1 y2) (laws_eqInt64A2S.l0 (k + 1) y0 y1 y2))
 | 0 => fun _ _ _ r h => by simp [laws_eqInt64A2S.l0] at h
 | k + 1 => by
  have ih0 := laws_eqInt64A2S.mono_l k
  ·intro y0 y1 y2
   unfold laws_eqInt64A2S.l0
   repeat' first
   | (with_reducible exact ih0 _ _ _)
   | (with_reducible exact LeO.refl _)
   | (with_reducible exact LeO.none _)
   | (with_reducible refine LeO.ite ?_ ?_)
   | (with_reducible refine LeO.bind ?_ (fun _ => ?_))
   | exact ih0 _ _ _
   | exact LeO.none _
   | refine LeO.ite ?_ ?_
   | refine LeO.bind ?_ (fun _ => ?_)
theorem laws_eqInt64A2S.mono : ∀ a0 a1 k, LeO (laws_eqInt64A2S.f k a0 a1) (laws_eqInt64A2S.f (k + 1) a0 a1) := by
 intro a0 a1 k
 have ih0 := laws_eqInt64A2S.mono_l k
 unfold laws_eqInt64A2S.f
 repeat' first
   | (with_reducible exact ih0 _ _ _)
   | (with_reducible exact LeO.refl _)
   | (with_reducible exact LeO.none _)
   | (with_reducible refine LeO.ite ?_ ?_)
   | (with_reducible refine LeO.bind ?_ (fun _ => ?_))
   | exact ih0 _ _ _
   | exact LeO.none _
   | refine LeO.ite ?_ ?_
   | refine LeO.bind ?_ (fun _ => ?_)
def laws_eqInt64A2S.T6 : Bool × List (List Nat × List Nat) := (true, [([], []), ([], []), ([0, 1], [0, 1]), ([2], [2]), ([], []), ([], []), ([4, 5], [4, 5]), ([6], [6]), ([3, 7], [3, 7]), ([8], [8])])
def laws_eqInt64A2S.B6 : List Nat := [0, 0, 3, 7, 0, 0, 48, 112, 255, 511]
theorem laws_eqInt64A2S.tab6 : rtab .any (opsOf Try.f20 6) = laws_eqInt64A2S.T6 := by kernel_rfl
theorem laws_eqInt64A2S.bits6 : waitsOk laws_eqInt64A2S.T6.2 laws_eqInt64A2S.B6 = true := by kernel_rfl
set_option maxHeartbeats 8000000 in
set_option maxRecDepth 100000 in
theorem laws_eqInt64A2S.calls (k : Nat) (A0 : Option Addr) (c0 : Nat) (l0 : List (S68)) (A1 : Option Addr) (c1 : Nat) (l1 : List (S68)) (r : Bool) (w : World) (hr0 : Kd.C k68 w A0 l0.length l0) (hc0 : l0.length ≤ c0) (hr1 : Kd.C k68 w A1 l1.length l1) (hc1 : l1.length ≤ c1) (h : laws_eqInt64A2S.f k l0 l1 = some r) :
  Calls Try.prog 20 #[.slice A0 l0.length c0, .slice A1 l1.length c1] w fun e w' => e = .returned (.bool r) ∧ Below w.heap.size w w' := by
 have hu68 := Try.underlying68
 have HR0 := Aside0.mk hr0
 have HC0 := Aside0.mk hc0
 clear hr0 hc0
 have HR1 := Aside0.mk hr1
 have HC1 := Aside0.mk hc1
 clear hr1 hc1
 have HB := Aside0.mk (Below.refl w.heap.size w)
 have H : (if (l0.length : Int) = (l1.length : Int) then (laws_eqInt64A2S.l0 k l0 l1 0) else (some false)) = some r := h
 clear h
 by_cases c3 : (l0.length : Int) = (l1.length : Int)
 ·rw [if_pos c3] at H
  have c3b0 : ((l0.length : Int) == (l1.length : Int)) = true := beq_iff_eq.mpr c3
  have c3b1 : ((l0.length : Int) != (l1.length : Int)) = false := bne_eq_false_iff_eq.mpr c3
  have c3b2 : (l0.length == l1.length) = true := by first | simpa using c3 | (simp at c3 ⊢; omega)
  clear c3
  have H' := Aside0.mk H
  clear H
  go_enter Try.func20, Try.ntmps20
  go_wp2
  go_loopg [5] k (fun kq v5 w' => ∃ (x5_1 : Int), v5 = .int .i64 x5_1 ∧ Aside0 (laws_eqInt64A2S.l0 kq l0 l1 x5_1 = some r) ∧ Aside0 (kq ≤ k) ∧ Aside0 (Below w.heap.size w w'))
  case atStart => exact ⟨(0), (by first | rfl | (simp; done) | (simp [*]; done)), H', ⟨Nat.le_refl _⟩, ⟨by repeat (first | (with_reducible first | exact HB.out | apply below_alloc | apply pw_below_drewN | apply below_drew1) | exact HB.out)⟩⟩
  case round =>
   clear H'
   try clear c1
   try clear c2
   try clear p2
   try clear c3
   try clear c3b0
   try clear c3b1
   try clear c3b2
   obtain ⟨x5_1, rfl, HA, HK1, HB⟩ := hrel
   cases gk with
   | zero => exact absurd HA.out (by simp [laws_eqInt64A2S.l0])
   | succ k1 =>
    have H := HA.out
    clear HA
    simp only [laws_eqInt64A2S.l0] at H
    by_cases c4 : x5_1 < (l0.length : Int)
    ·rw [if_pos c4] at H
     have c4b0 : decide (x5_1 < (l0.length : Int)) = true := decide_eq_true c4
     clear c4
     by_cases c5 : 0 ≤ x5_1
     ·rw [if_pos c5] at H
      have c5b0 : decide (0 ≤ x5_1) = true := decide_eq_true c5
      clear c5
      by_cases c6 : x5_1 < (l1.length : Int)
      ·rw [if_pos c6] at H
       have c6b0 : decide (x5_1 < (l1.length : Int)) = true := decide_eq_true c6
       clear c6
       replace H := Option.bind_eq_some_iff.mp H
       obtain ⟨t383, A70, H⟩ := H
       replace H : (if t383 = true then (laws_eqInt64A2S.l0 k1 l0 l1 (wrap64 (x5_1 + 1))) else (some false)) = some r := H
       have A7 := Aside0.mk A70
       clear A70
       by_cases c8 : t383 = true
       ·subst c8
        have H1 : (laws_eqInt64A2S.l0 k1 l0 l1 (wrap64 (x5_1 + 1))) = some r := by rw [if_pos rfl] at H; exact H
        clear H
        have H := H1
        clear H1
        have H' := Aside0.mk H
        clear H
        try go_wp2
        have n0_ := Aside0.mk (below_drew1 HB.out)
        clear HB
        have HB := n0_
        clear n0_
        have p381 : 0 ≤ (x5_1 : Int) := of_decide_eq_true (by first | (with_reducible assumption) | assumption)
        have q381 : x5_1 < (l0.length : Int) := of_decide_eq_true (by first | (with_reducible assumption) | assumption)
        obtain ⟨ad381, e381, hx381_0, hx381_1⟩ := at_T68 HR0.out x5_1 p381 q381
        have hw381_1 := hx381_1
        have hw381_0 := hx381_0
        cases e381
        replace hx381_0 := (HB.out.cell (World.block_lt_of_cell? w _ hx381_0)).trans hx381_0
        replace hx381_1 := (HB.out.cell (World.block_lt_of_cell? w _ hx381_1)).trans hx381_1
        replace p381 := eq_true p381
        replace q381 := eq_true q381
        have p382 : 0 ≤ (x5_1 : Int) := of_decide_eq_true (by first | (with_reducible assumption) | assumption)
        have q382 : x5_1 < (l1.length : Int) := of_decide_eq_true (by first | (with_reducible assumption) | assumption)
        obtain ⟨ad382, e382, hx382_0, hx382_1⟩ := at_T68 HR1.out x5_1 p382 q382
        have hw382_1 := hx382_1
        have hw382_0 := hx382_0
        cases e382
        replace hx382_0 := (HB.out.cell (World.block_lt_of_cell? w _ hx382_0)).trans hx382_0
        replace hx382_1 := (HB.out.cell (World.block_lt_of_cell? w _ hx382_1)).trans hx382_1
        replace p382 := eq_true p382
        replace q382 := eq_true q382
        refine start_ (n := 10) (S := fun w' => w'.cell? (ad381.add ((x5_1).toNat * 2)) = some (.int .i64 ((rd_T68 l0 x5_1).f0)) ∧ w'.cell? ⟨(ad381.add ((x5_1).toNat * 2)).block, (ad381.add ((x5_1).toNat * 2)).off + 1, none⟩ = some (.int .i64 ((rd_T68 l0 x5_1).f1)) ∧ w'.cell? (ad382.add ((x5_1).toNat * 2)) = some (.int .i64 ((rd_T68 l1 x5_1).f0)) ∧ w'.cell? ⟨(ad382.add ((x5_1).toNat * 2)).block, (ad382.add ((x5_1).toNat * 2)).off + 1, none⟩ = some (.int .i64 ((rd_T68 l1 x5_1).f1))) (ds := []) #[false, false, false, false, false, false, false, false, false, false] (by kernel_rfl) rfl rfl ⟨((HB.out.cell (World.block_lt_of_cell? w _ hw381_0)).trans hw381_0), ((HB.out.cell (World.block_lt_of_cell? w _ hw381_1)).trans hw381_1), ((HB.out.cell (World.block_lt_of_cell? w _ hw382_0)).trans hw382_0), ((HB.out.cell (World.block_lt_of_cell? w _ hw382_1)).trans hw382_1)⟩ (fun hHeld => ?_); refine with_tabW laws_eqInt64A2S.tab6 laws_eqInt64A2S.bits6 (fun HT_ HW_ => ?_)
        generalize wr.drew = w9 at HB hx381_0 hx381_1 hx382_0 hx382_1 hHeld ⊢
        refine pure_ (i := 0) (N := some 17) (v := ?_) (a' := ?_) #[true, false, false, false, false, false, false, false, false, false] rfl rfl (any_of HT_.out (by kernel_rfl)) (fun _ _ _ h => h) (Or.inl ⟨by rfl, ?_⟩) ?_ ?_
        rotate_left
        ·intro w'
         go_simp
         with_reducible rfl
        rotate_left
        ·simp only [Act.put, List.setIfInBounds_toArray, List.set_cons_zero, List.set_cons_succ, i64_w, i32_w]
         rfl
        refine pure_ (i := 1) (N := some 18) (v := ?_) (a' := ?_) #[true, true, false, false, false, false, false, false, false, false] rfl rfl (any_of HT_.out (by kernel_rfl)) (fun _ _ _ h => h) (Or.inl ⟨by rfl, ?_⟩) ?_ ?_
        rotate_left
        ·intro w'
         go_simp
         with_reducible rfl
        rotate_left
        ·simp only [Act.put, List.setIfInBounds_toArray, List.set_cons_zero, List.set_cons_succ, i64_w, i32_w]
         rfl
        refine pure_ (i := 2) (N := some 19) (v := ?_) (a' := ?_) #[true, true, true, false, false, false, false, false, false, false] rfl rfl (any_of HT_.out (by kernel_rfl)) (fun _ _ _ h => h) (Or.inl ⟨by rfl, ?_⟩) ?_ ?_
        rotate_left
        ·intro w'
         go_simp
         with_reducible rfl
        rotate_left
        ·simp only [Act.put, List.setIfInBounds_toArray, List.set_cons_zero, List.set_cons_succ, i64_w, i32_w]
         rfl
        refine pure_ (i := 4) (N := some 21) (v := ?_) (a' := ?_) #[true, true, true, false, true, false, false, false, false, false] rfl rfl (any_of HT_.out (by kernel_rfl)) (fun _ _ _ h => h) (Or.inl ⟨by rfl, ?_⟩) ?_ ?_
        rotate_left
        ·intro w'
         go_simp
         with_reducible rfl
        rotate_left
        ·simp only [Act.put, List.setIfInBounds_toArray, List.set_cons_zero, List.set_cons_succ, i64_w, i32_w]
         rfl
        refine pure_ (i := 5) (N := some 22) (v := ?_) (a' := ?_) #[true, true, true, false, true, true, false, false, false, false] rfl rfl (any_of HT_.out (by kernel_rfl)) (fun _ _ _ h => h) (Or.inl ⟨by rfl, ?_⟩) ?_ ?_
        rotate_left
        ·intro w'
         go_simp
         with_reducible rfl
        rotate_left
        ·simp only [Act.put, List.setIfInBounds_toArray, List.set_cons_zero, List.set_cons_succ, i64_w, i32_w]
         rfl
        refine pure_ (i := 6) (N := some 23) (v := ?_) (a' := ?_) #[true, true, true, false, true, true, true, false, false, false] rfl rfl (any_of HT_.out (by kernel_rfl)) (fun _ _ _ h => h) (Or.inl ⟨by rfl, ?_⟩) ?_ ?_
        rotate_left
        ·intro w'
         go_simp
         with_reducible rfl
        rotate_left
        ·simp only [Act.put, List.setIfInBounds_toArray, List.set_cons_zero, List.set_cons_succ, i64_w, i32_w]
         rfl
        refine take_ (i := 3) (N := some 20) (v := ?_) (a' := ?_) #[true, true, true, true, true, true, true, false, false, false] rfl rfl (take_ofW HT_.out HW_.out (by kernel_rfl)) (fun _ _ _ h => h) (Or.inl ⟨by rfl, ?_⟩) hHeld ?_ ?_
        rotate_left
        ·rintro w' ⟨s0, s1, s2, s3⟩
         go_simp
         with_reducible rfl
        rotate_left
        ·simp only [Act.put, List.setIfInBounds_toArray, List.set_cons_zero, List.set_cons_succ, i64_w, i32_w]
         rfl
        refine take_ (i := 7) (N := some 24) (v := ?_) (a' := ?_) #[true, true, true, true, true, true, true, true, false, false] rfl rfl (take_ofW HT_.out HW_.out (by kernel_rfl)) (fun _ _ _ h => h) (Or.inl ⟨by rfl, ?_⟩) hHeld ?_ ?_
        rotate_left
        ·rintro w' ⟨s0, s1, s2, s3⟩
         go_simp
         with_reducible rfl
        rotate_left
        ·simp only [Act.put, List.setIfInBounds_toArray, List.set_cons_zero, List.set_cons_succ, i64_w, i32_w]
         rfl
        refine one_ (i := 8) (N := some 25) #[true, true, true, true, true, true, true, true, true, false] rfl rfl (one_of HT_.out (by kernel_rfl)) (by decide) (fun K hK => ?_)
        refine goes_ Try.func38 (by kernel_rfl) rfl #[.agg #[.int .i64 ((rd_T68 l0 x5_1).f0), .int .i64 ((rd_T68 l0 x5_1).f1)], .agg #[.int .i64 ((rd_T68 l1 x5_1).f0), .int .i64 ((rd_T68 l1 x5_1).f1)]] (by rfl) rfl rfl (by (try simp only [List.map_toArray, List.map_cons, List.map_nil]); first | done | rfl | (simp only [List.length_drop, List.length_take]; rfl)) ?_
        with_reducible refine (laws_eqInt64A2.calls ((rd_T68 l0 x5_1).f0) ((rd_T68 l0 x5_1).f1) ((rd_T68 l1 x5_1).f0) ((rd_T68 l1 x5_1).f1) true _ A7.out).mono ?_
        rintro e w10 ⟨rfl, hb⟩
        refine ⟨_, rfl, ?_⟩
        have n0_ := Aside0.mk (below_step (by repeat (first | (with_reducible first | exact HB.out | apply below_alloc | apply pw_below_drewN | apply below_drew1) | exact HB.out)) hb)
        clear HB
        have HB := n0_
        clear n0_
        (try clear hb)
        (try clear hb2)
        (try clear hk)
        (try clear hi)
        refine hK.out _ _ ⟨((HB.out.cell (World.block_lt_of_cell? w _ hw381_0)).trans hw381_0), ((HB.out.cell (World.block_lt_of_cell? w _ hw381_1)).trans hw381_1), ((HB.out.cell (World.block_lt_of_cell? w _ hw382_0)).trans hw382_0), ((HB.out.cell (World.block_lt_of_cell? w _ hw382_1)).trans hw382_1)⟩ (fun hHeld => ?_)
        clear hK K
        refine norm_ (a' := ?_) ?_ ?_
        rotate_left
        ·show Act.put _ (some 25) _ = _
         simp only [Act.put, List.setIfInBounds_toArray, List.set_cons_zero, List.set_cons_succ, i64_w, i32_w]
         rfl
        refine pure_ (i := 9) (N := some 26) (v := ?_) (a' := ?_) #[true, true, true, true, true, true, true, true, true, true] rfl rfl (any_of HT_.out (by kernel_rfl)) (fun _ _ _ h => h) (Or.inl ⟨by rfl, ?_⟩) ?_ ?_
        rotate_left
        ·intro w'
         go_simp
         with_reducible rfl
        rotate_left
        ·simp only [Act.put, List.setIfInBounds_toArray, List.set_cons_zero, List.set_cons_succ, i64_w, i32_w]
         rfl
        refine done_ (done_of HT_.out (by kernel_rfl)) ?_
        try go_wp2
        go_roundg k1
        case measure => have := HK1.out; omega
        case rel => exact ⟨(wrap64 (x5_1 + 1)), (by first | rfl | (simp; done) | (simp [*]; done)), H', ⟨by have := HK1.out; omega⟩, ⟨by repeat (first | (with_reducible first | exact HB.out | apply below_alloc | apply pw_below_drewN | apply below_drew1) | exact HB.out)⟩⟩
       ·replace c8 := Bool.eq_false_iff.mpr c8
        subst c8
        have H1 : (some false) = some r := by rw [if_neg (show ¬ (false = true) by decide)] at H; exact H
        clear H
        have H := H1
        clear H1
        obtain rfl := Option.some.inj H
        try go_wp2
        have n0_ := Aside0.mk (below_drew1 HB.out)
        clear HB
        have HB := n0_
        clear n0_
        have p381 : 0 ≤ (x5_1 : Int) := of_decide_eq_true (by first | (with_reducible assumption) | assumption)
        have q381 : x5_1 < (l0.length : Int) := of_decide_eq_true (by first | (with_reducible assumption) | assumption)
        obtain ⟨ad381, e381, hx381_0, hx381_1⟩ := at_T68 HR0.out x5_1 p381 q381
        have hw381_1 := hx381_1
        have hw381_0 := hx381_0
        cases e381
        replace hx381_0 := (HB.out.cell (World.block_lt_of_cell? w _ hx381_0)).trans hx381_0
        replace hx381_1 := (HB.out.cell (World.block_lt_of_cell? w _ hx381_1)).trans hx381_1
        replace p381 := eq_true p381
        replace q381 := eq_true q381
        have p382 : 0 ≤ (x5_1 : Int) := of_decide_eq_true (by first | (with_reducible assumption) | assumption)
        have q382 : x5_1 < (l1.length : Int) := of_decide_eq_true (by first | (with_reducible assumption) | assumption)
        obtain ⟨ad382, e382, hx382_0, hx382_1⟩ := at_T68 HR1.out x5_1 p382 q382
        have hw382_1 := hx382_1
        have hw382_0 := hx382_0
        cases e382
        replace hx382_0 := (HB.out.cell (World.block_lt_of_cell? w _ hx382_0)).trans hx382_0
        replace hx382_1 := (HB.out.cell (World.block_lt_of_cell? w _ hx382_1)).trans hx382_1
        replace p382 := eq_true p382
        replace q382 := eq_true q382
        refine start_ (n := 10) (S := fun w' => w'.cell? (ad381.add ((x5_1).toNat * 2)) = some (.int .i64 ((rd_T68 l0 x5_1).f0)) ∧ w'.cell? ⟨(ad381.add ((x5_1).toNat * 2)).block, (ad381.add ((x5_1).toNat * 2)).off + 1, none⟩ = some (.int .i64 ((rd_T68 l0 x5_1).f1)) ∧ w'.cell? (ad382.add ((x5_1).toNat * 2)) = some (.int .i64 ((rd_T68 l1 x5_1).f0)) ∧ w'.cell? ⟨(ad382.add ((x5_1).toNat * 2)).block, (ad382.add ((x5_1).toNat * 2)).off + 1, none⟩ = some (.int .i64 ((rd_T68 l1 x5_1).f1))) (ds := []) #[false, false, false, false, false, false, false, false, false, false] (by kernel_rfl) rfl rfl ⟨((HB.out.cell (World.block_lt_of_cell? w _ hw381_0)).trans hw381_0), ((HB.out.cell (World.block_lt_of_cell? w _ hw381_1)).trans hw381_1), ((HB.out.cell (World.block_lt_of_cell? w _ hw382_0)).trans hw382_0), ((HB.out.cell (World.block_lt_of_cell? w _ hw382_1)).trans hw382_1)⟩ (fun hHeld => ?_); refine with_tabW laws_eqInt64A2S.tab6 laws_eqInt64A2S.bits6 (fun HT_ HW_ => ?_)
        generalize wr.drew = w11 at HB hx381_0 hx381_1 hx382_0 hx382_1 hHeld ⊢
        refine pure_ (i := 0) (N := some 17) (v := ?_) (a' := ?_) #[true, false, false, false, false, false, false, false, false, false] rfl rfl (any_of HT_.out (by kernel_rfl)) (fun _ _ _ h => h) (Or.inl ⟨by rfl, ?_⟩) ?_ ?_
        rotate_left
        ·intro w'
         go_simp
         with_reducible rfl
        rotate_left
        ·simp only [Act.put, List.setIfInBounds_toArray, List.set_cons_zero, List.set_cons_succ, i64_w, i32_w]
         rfl
        refine pure_ (i := 1) (N := some 18) (v := ?_) (a' := ?_) #[true, true, false, false, false, false, false, false, false, false] rfl rfl (any_of HT_.out (by kernel_rfl)) (fun _ _ _ h => h) (Or.inl ⟨by rfl, ?_⟩) ?_ ?_
        rotate_left
        ·intro w'
         go_simp
         with_reducible rfl
        rotate_left
        ·simp only [Act.put, List.setIfInBounds_toArray, List.set_cons_zero, List.set_cons_succ, i64_w, i32_w]
         rfl
        refine pure_ (i := 2) (N := some 19) (v := ?_) (a' := ?_) #[true, true, true, false, false, false, false, false, false, false] rfl rfl (any_of HT_.out (by kernel_rfl)) (fun _ _ _ h => h) (Or.inl ⟨by rfl, ?_⟩) ?_ ?_
        rotate_left
        ·intro w'
         go_simp
         with_reducible rfl
        rotate_left
        ·simp only [Act.put, List.setIfInBounds_toArray, List.set_cons_zero, List.set_cons_succ, i64_w, i32_w]
         rfl
        refine pure_ (i := 4) (N := some 21) (v := ?_) (a' := ?_) #[true, true, true, false, true, false, false, false, false, false] rfl rfl (any_of HT_.out (by kernel_rfl)) (fun _ _ _ h => h) (Or.inl ⟨by rfl, ?_⟩) ?_ ?_
        rotate_left
        ·intro w'
         go_simp
         with_reducible rfl
        rotate_left
        ·simp only [Act.put, List.setIfInBounds_toArray, List.set_cons_zero, List.set_cons_succ, i64_w, i32_w]
         rfl
        refine pure_ (i := 5) (N := some 22) (v := ?_) (a' := ?_) #[true, true, true, false, true, true, false, false, false, false] rfl rfl (any_of HT_.out (by kernel_rfl)) (fun _ _ _ h => h) (Or.inl ⟨by rfl, ?_⟩) ?_ ?_
        rotate_left
        ·intro w'
         go_simp
         with_reducible rfl
        rotate_left
        ·simp only [Act.put, List.setIfInBounds_toArray, List.set_cons_zero, List.set_cons_succ, i64_w, i32_w]
         rfl
        refine pure_ (i := 6) (N := some 23) (v := ?_) (a' := ?_) #[true, true, true, false, true, true, true, false, false, false] rfl rfl (any_of HT_.out (by kernel_rfl)) (fun _ _ _ h => h) (Or.inl ⟨by rfl, ?_⟩) ?_ ?_
        rotate_left
        ·intro w'
         go_simp
         with_reducible rfl
        rotate_left
        ·simp only [Act.put, List.setIfInBounds_toArray, List.set_cons_zero, List.set_cons_succ, i64_w, i32_w]
         rfl
        refine take_ (i := 3) (N := some 20) (v := ?_) (a' := ?_) #[true, true, true, true, true, true, true, false, false, false] rfl rfl (take_ofW HT_.out HW_.out (by kernel_rfl)) (fun _ _ _ h => h) (Or.inl ⟨by rfl, ?_⟩) hHeld ?_ ?_
        rotate_left
        ·rintro w' ⟨s0, s1, s2, s3⟩
         go_simp
         with_reducible rfl
        rotate_left
        ·simp only [Act.put, List.setIfInBounds_toArray, List.set_cons_zero, List.set_cons_succ, i64_w, i32_w]
         rfl
        refine take_ (i := 7) (N := some 24) (v := ?_) (a' := ?_) #[true, true, true, true, true, true, true, true, false, false] rfl rfl (take_ofW HT_.out HW_.out (by kernel_rfl)) (fun _ _ _ h => h) (Or.inl ⟨by rfl, ?_⟩) hHeld ?_ ?_
        rotate_left
        ·rintro w' ⟨s0, s1, s2, s3⟩
         go_simp
         with_reducible rfl
        rotate_left
        ·simp only [Act.put, List.setIfInBounds_toArray, List.set_cons_zero, List.set_cons_succ, i64_w, i32_w]
         rfl
        refine one_ (i := 8) (N := some 25) #[true, true, true, true, true, true, true, true, true, false] rfl rfl (one_of HT_.out (by kernel_rfl)) (by decide) (fun K hK => ?_)
        refine goes_ Try.func38 (by kernel_rfl) rfl #[.agg #[.int .i64 ((rd_T68 l0 x5_1).f0), .int .i64 ((rd_T68 l0 x5_1).f1)], .agg #[.int .i64 ((rd_T68 l1 x5_1).f0), .int .i64 ((rd_T68 l1 x5_1).f1)]] (by rfl) rfl rfl (by (try simp only [List.map_toArray, List.map_cons, List.map_nil]); first | done | rfl | (simp only [List.length_drop, List.length_take]; rfl)) ?_
        with_reducible refine (laws_eqInt64A2.calls ((rd_T68 l0 x5_1).f0) ((rd_T68 l0 x5_1).f1) ((rd_T68 l1 x5_1).f0) ((rd_T68 l1 x5_1).f1) false _ A7.out).mono ?_
        rintro e w12 ⟨rfl, hb⟩
        refine ⟨_, rfl, ?_⟩
        have n0_ := Aside0.mk (below_step (by repeat (first | (with_reducible first | exact HB.out | apply below_alloc | apply pw_below_drewN | apply below_drew1) | exact HB.out)) hb)
        clear HB
        have HB := n0_
        clear n0_
        (try clear hb)
        (try clear hb2)
        (try clear hk)
        (try clear hi)
        refine hK.out _ _ ⟨((HB.out.cell (World.block_lt_of_cell? w _ hw381_0)).trans hw381_0), ((HB.out.cell (World.block_lt_of_cell? w _ hw381_1)).trans hw381_1), ((HB.out.cell (World.block_lt_of_cell? w _ hw382_0)).trans hw382_0), ((HB.out.cell (World.block_lt_of_cell? w _ hw382_1)).trans hw382_1)⟩ (fun hHeld => ?_)
        clear hK K
        refine norm_ (a' := ?_) ?_ ?_
        rotate_left
        ·show Act.put _ (some 25) _ = _
         simp only [Act.put, List.setIfInBounds_toArray, List.set_cons_zero, List.set_cons_succ, i64_w, i32_w]
         rfl
        refine pure_ (i := 9) (N := some 26) (v := ?_) (a' := ?_) #[true, true, true, true, true, true, true, true, true, true] rfl rfl (any_of HT_.out (by kernel_rfl)) (fun _ _ _ h => h) (Or.inl ⟨by rfl, ?_⟩) ?_ ?_
        rotate_left
        ·intro w'
         go_simp
         with_reducible rfl
        rotate_left
        ·simp only [Act.put, List.setIfInBounds_toArray, List.set_cons_zero, List.set_cons_succ, i64_w, i32_w]
         rfl
        refine done_ (done_of HT_.out (by kernel_rfl)) ?_
        try go_wp2
        go_ret
        exact ⟨by first | rfl | (simp [errW_none, errW_some] <;> rfl) | (simp [*, errW_none, errW_some] <;> rfl), by repeat (first | (with_reducible first | exact HB.out | apply below_alloc | apply pw_below_drewN | apply below_drew1) | exact HB.out)⟩
      ·rw [if_neg c6] at H
       exact absurd H (by simp)
     ·rw [if_neg c5] at H
      exact absurd H (by simp)
    ·rw [if_neg c4] at H
     have c4b0 : decide (x5_1 < (l0.length : Int)) = false := decide_eq_false c4
     clear c4
     obtain rfl := Option.some.inj H
     go_wp2
     go_ret
     exact ⟨by first | rfl | (simp [errW_none, errW_some] <;> rfl) | (simp [*, errW_none, errW_some] <;> rfl), by repeat (first | (with_reducible first | exact HB.out | apply below_alloc | apply pw_below_drewN | apply below_drew1) | exact HB.out)⟩
 ·rw [if_neg c3] at H
  have c3b0 : ((l0.length : Int) == (l1.length : Int)) = false := beq_eq_false_iff_ne.mpr c3
  have c3b1 : ((l0.length : Int) != (l1.length : Int)) = true := bne_iff_ne.mpr c3
  have c3b2 : (l0.length == l1.length) = false := by first | simpa using c3 | (simp at c3 ⊢; omega)
  obtain rfl := Option.some.inj H
  go_enter Try.func20, Try.ntmps20
  go_wp2
  go_ret
  exact ⟨by first | rfl | (simp [errW_none, errW_some] <;> rfl) | (simp [*, errW_none, errW_some] <;> rfl), by repeat (first | (with_reducible first | exact HB.out | apply below_alloc | apply pw_below_drewN | apply below_drew1) | exact HB.out)⟩

/-! ### laws_markInt64A2S: function 21 -/
def markP : List S68 → Int → List S68
 | [], _ => []
 | _ :: t, k => ⟨k, k + 1⟩ :: markP t (k + 2)
theorem markP_length : ∀ (l : List S68) (k : Int), (markP l k).length = l.length
 | [], _ => rfl
 | _ :: t, k => by simp [markP, markP_length t]
def markSt (L : List S68) (i j : Nat) (k : Int) : List S68 := if j = 0 then L else if j = 1 then L.set i ⟨k, (rd_T68 L (i : Int)).f1⟩ else L.set i ⟨k, k + 1⟩
theorem markSt_length (L : List S68) (i j : Nat) (k : Int) : (markSt L i j k).length = L.length := by unfold markSt; split <;> (try split) <;> simp
theorem markP_step (L : List S68) (i : Nat) (k : Int) (hi : i < L.length) (R : List S68) (h : L.take i ++ markP (L.drop i) k = R) : (markSt L i 2 k).take (i + 1) ++ markP ((markSt L i 2 k).drop (i + 1)) (k + 2) = R := by
 subst h
 rw [List.drop_eq_getElem_cons hi]
 simp only [markP, markSt, show ¬ (2 = 0) by omega, show ¬ (2 = 1) by omega, if_false]
 rw [List.drop_set_of_lt (by omega), List.take_set, List.take_add_one, List.getElem?_eq_getElem hi, List.set_append_right _ _ (by rw [List.length_take]; omega), List.length_take, Nat.min_eq_left (by omega), Nat.sub_self]
 simp
theorem put_0 {W : World} {base g n cap : Nat} {ok : Nat → Prop} {L : List S68} (h : Kd.R k68 68 W base ok (.slice (some ⟨g, 0, none⟩) n cap) L) (i : Nat) (hi : i < n) (v : Int) :
  (∃ u, W.cell? ⟨g, i * 2, none⟩ = some (.int .i64 u)) ∧ W.frozen? ⟨g, i * 2, none⟩ = false ∧ Kd.R k68 68 (W.setCell ⟨g, i * 2, none⟩ (.int .i64 v)) base ok (.slice (some ⟨g, 0, none⟩) n cap) (L.set i ⟨v, (rd_T68 L (i : Int)).f1⟩) ∧ W.grownBy (W.setCell ⟨g, i * 2, none⟩ (.int .i64 v)) (some g) := by
 obtain ⟨ce, hcl, hM, hcc, hfr⟩ := Kd.R_elem h z68 (i : Int) (by omega) (by omega)
 obtain rfl := k68_openM hM
 have HP := Kd.R_seg h (i : Int) (by omega) (by omega) (seg := [.int .i64 v]) (j := 0) hcl hcc (show 1 ≤ 2 from by decide) (x' := (⟨v, (rd_T68 L (i : Int)).f1⟩ : S68)) (k68_mkM _ _ _ (⟨v, (rd_T68 L (i : Int)).f1⟩ : S68)) (fun _ hk => hk)
 exact ⟨⟨_, hcc 0 _ rfl⟩, hfr 0, HP.1, HP.2⟩
theorem put_1 {W : World} {base g n cap : Nat} {ok : Nat → Prop} {L : List S68} (h : Kd.R k68 68 W base ok (.slice (some ⟨g, 0, none⟩) n cap) L) (i : Nat) (hi : i < n) (v : Int) :
  (∃ u, W.cell? ⟨g, i * 2 + 1, none⟩ = some (.int .i64 u)) ∧ W.frozen? ⟨g, i * 2 + 1, none⟩ = false ∧ Kd.R k68 68 (W.setCell ⟨g, i * 2 + 1, none⟩ (.int .i64 v)) base ok (.slice (some ⟨g, 0, none⟩) n cap) (L.set i ⟨(rd_T68 L (i : Int)).f0, v⟩) ∧ W.grownBy (W.setCell ⟨g, i * 2 + 1, none⟩ (.int .i64 v)) (some g) := by
 obtain ⟨ce, hcl, hM, hcc, hfr⟩ := Kd.R_elem h z68 (i : Int) (by omega) (by omega)
 obtain rfl := k68_openM hM
 have HP := Kd.R_seg h (i : Int) (by omega) (by omega) (seg := [.int .i64 v]) (j := 1) hcl hcc (show 2 ≤ 2 from by decide) (x' := (⟨(rd_T68 L (i : Int)).f0, v⟩ : S68)) (k68_mkM _ _ _ (⟨(rd_T68 L (i : Int)).f0, v⟩ : S68)) (fun _ hk => hk)
 exact ⟨⟨_, hcc 1 _ rfl⟩, hfr 1, HP.1, HP.2⟩
theorem markSt_01 (L : List S68) (i : Nat) (k : Int) : (markSt L i 0 k).set i ⟨k, (rd_T68 (markSt L i 0 k) (i : Int)).f1⟩ = markSt L i 1 k := by simp [markSt]
theorem markSt_12 (L : List S68) (i : Nat) (k : Int) (hi : i < L.length) : (markSt L i 1 k).set i ⟨(rd_T68 (markSt L i 1 k) (i : Int)).f0, k + 1⟩ = markSt L i 2 k := by
 have e : rd_T68 (L.set i ⟨k, (rd_T68 L (i : Int)).f1⟩) (i : Int) = ⟨k, (rd_T68 L (i : Int)).f1⟩ := by
  rw [rd_T68, Int.toNat_natCast, List.getD_eq_getElem?_getD, List.getElem?_set_self hi]; rfl
 simp only [markSt, show ¬ (1 = 0) by omega, show ¬ (2 = 0) by omega, show ¬ (2 = 1) by omega, if_false, if_true]
 rw [e, List.set_set]
def laws_markInt64A2S.f (_k : Nat) (l0 : List S68) (a1 : Int) : Option (Int × List S68) := if l0.length ≤ 1000000 ∧ 0 ≤ a1 ∧ a1 ≤ 1000000 then some (a1 + ((l0.length * 2 : Nat) : Int), markP l0 a1) else none
theorem laws_markInt64A2S.mono : ∀ a0 a1 k, LeO (laws_markInt64A2S.f k a0 a1) (laws_markInt64A2S.f (k + 1) a0 a1) := fun _ _ _ => LeO.refl _
set_option maxHeartbeats 8000000 in
set_option maxRecDepth 100000 in
theorem laws_markInt64A2S.calls (k : Nat) (P0_ : Nat → Prop) (u9000_ : Value) (l0 : List S68) (a1 : Int) (r1 : Int) (r2 : List S68) (w0 w : World) (hB : Below w0.heap.size w0 w) (ho0 : Kd.R k68 68 w w0.heap.size P0_ u9000_ l0) (h : laws_markInt64A2S.f k l0 a1 = some (r1, r2)) :
  Calls Try.prog 21 #[u9000_, .int .i64 a1] w fun e w' => e = .returned (.int .i64 r1) ∧ Kd.R k68 68 w' w0.heap.size (fun k_ => (P0_ k_ ∨ w.heap.size ≤ k_)) u9000_ r2 ∧ Below w0.heap.size w0 w' ∧ Kept w w' (fun k_ => P0_ k_) := by
 have HO := Aside0.mk (show Kd.R k68 68 w w0.heap.size (fun k_ => (P0_ k_ ∨ w.heap.size ≤ k_)) u9000_ l0 from Kd.R_mono ho0 (fun k_ hk => (.inl hk)))
 have HK := Aside0.mk (Kept.refl w (fun k_ => P0_ k_))
 have HB := Aside0.mk hB
 clear hB ho0
 unfold laws_markInt64A2S.f at h
 by_cases hl : l0.length ≤ 1000000 ∧ 0 ≤ a1 ∧ a1 ≤ 1000000
 ·rw [if_pos hl] at h
  obtain ⟨rfl, rfl⟩ := Prod.mk.inj (Option.some.inj h)
  obtain ⟨hn, ha⟩ := hl
  clear h
  obtain ⟨Ao, co, rfl⟩ := Kd.R_slice HO.out
  obtain ⟨n, hln⟩ : ∃ n, n = l0.length := ⟨_, rfl⟩
  rw [← hln] at hn ⊢
  rw [← hln] at HO
  obtain ⟨RR, hRR⟩ : ∃ RR, RR = markP l0 a1 := ⟨_, rfl⟩
  rw [← hRR]
  go_enter Try.func21, Try.ntmps21
  go_wp2
  go_loopg [5, 1] n (fun m s5 s1 wr => ∃ (i : Nat) (L : List S68), s5 = .int .i64 (i : Int) ∧ s1 = .int .i64 (a1 + ((i * 2 : Nat) : Int)) ∧ i ≤ n ∧ n - i ≤ m ∧ L.length = n ∧ Aside0 (L.take i ++ markP (L.drop i) (a1 + ((i * 2 : Nat) : Int)) = RR) ∧ Aside0 (Kd.R k68 68 wr w0.heap.size (fun k_ => (P0_ k_ ∨ w.heap.size ≤ k_)) (.slice Ao n co) L) ∧ Aside0 (Kept w wr (fun k_ => P0_ k_)) ∧ Aside0 (Below w0.heap.size w0 wr))
  case atStart => exact ⟨0, l0, rfl, by simp, Nat.zero_le _, Nat.le_refl _, hln.symm, ⟨by rw [hRR]; simp⟩, HO, HK, HB⟩
  case round =>
   as_aux_lemma =>
   clear HO HK HB
   obtain ⟨i, L, rfl, rfl, hin, hk, hL, HV, HO, HK, HB⟩ := hrel
   by_cases hlt : i < n
   ·as_aux_lemma =>
    have hw3 : wrap64 ((i : Int) + 1) = (i : Int) + 1 := by simp only [wrap64]; omega
    have q1 : n - (i + 1) < gk := by omega
    have HV2 := Aside0.mk (markP_step L i _ (by omega) _ HV.out)
    clear HV
    have hL0 : 0 < L.length := by omega
    obtain ⟨go, cq, eo, gb, gl, cl, HG⟩ := Kd.R_form HO.out hL0
    obtain ⟨rfl, _, rfl⟩ : Ao = some ⟨go, 0, none⟩ ∧ True ∧ co = cq := by cases eo; exact ⟨rfl, trivial, rfl⟩
    have GB := Aside0.mk gb
    clear eo gb gl cl HG
    go_wp2
    go_loopg [6, 1] 2 (fun m s6 s1 wr2 => ∃ j : Nat, s6 = .int .i64 (j : Int) ∧ s1 = .int .i64 (a1 + ((i * 2 + j : Nat) : Int)) ∧ j ≤ 2 ∧ 2 - j ≤ m ∧ Aside0 (Kd.R k68 68 wr2 w0.heap.size (fun k_ => (P0_ k_ ∨ w.heap.size ≤ k_)) (.slice (some ⟨go, 0, none⟩) n co) (markSt L i j (a1 + ((i * 2 : Nat) : Int)))) ∧ Aside0 (Kept w wr2 (fun k_ => P0_ k_)) ∧ Aside0 (Below w0.heap.size w0 wr2))
    case atStart => exact ⟨0, rfl, rfl, Nat.zero_le _, Nat.le_refl _, HO, HK, HB⟩
    case round =>
     as_aux_lemma =>
     clear HO HK HB
     obtain ⟨j, rfl, rfl, hj, hk2, HO, HK, HB⟩ := hrel
     rcases (show j = 0 ∨ j = 1 ∨ j = 2 by omega) with rfl | rfl | rfl
     ·as_aux_lemma =>
      have hw1 : wrap64 (a1 + ((i * 2 + 0 : Nat) : Int) + 1) = a1 + ((i * 2 + 1 : Nat) : Int) := by simp only [wrap64]; omega
      have q2 : 2 - 1 < gk := by omega
      obtain ⟨⟨u_, hx5⟩, hf5, hR_, hG_⟩ := put_0 HO.out i hlt (a1 + ((i * 2 : Nat) : Int))
      rw [markSt_01 L i _] at hR_
      have HP8 := Aside0.mk hR_
      have HG8 := Aside0.mk hG_
      clear hR_ hG_
      go_wp2_with (first | ((with_reducible refine gate_store (t := 2) (p := 22) rfl ?_); refine store_event (t := 2) (p := 22) (v := ?vo_w9) (w1 := (wr.setCell ⟨go, i * 2, none⟩ (.int .i64 (a1 + ((i * 2 : Nat) : Int))))) ?hg ?ho ?hn ?hr ?_; (case ho => rfl); (case hg => rfl); (case hn => rfl); (case hr => first | (go_simp; done) | (go_simp; rfl)); intro w9 hw; have hg : wr.grownBy w9 (some go) := (by rw [hw]; exact HG8.out); have n0_ := Aside0.mk (show Kd.R k68 68 w9 w0.heap.size (fun k_ => (P0_ k_ ∨ w.heap.size ≤ k_)) (.slice (some ⟨go, 0, none⟩) n co) (markSt L i 1 (a1 + ((i * 2 : Nat) : Int))) from (by rw [hw]; exact HP8.out)); have n1_ := Aside0.mk ((by rw [hw]; exact below_set HB.out GB.out : Below w0.heap.size w0 w9)); have n2_ := Aside0.mk (Kept.of_grown (S := (fun k_ => P0_ k_)) hg HK.out (fun k_ e_ => (HO.out.1 k_ e_))); clear HO HB HK HP8 HG8 hg hw hx5 hf5; have HO := n0_; have HB := n1_; have HK := n2_; clear n0_ n1_ n2_))
      go_roundg (2 - 1)
      case measure => exact q2
      case rel => exact ⟨1, by simp, by first | rw [hw1] | (simp; done) | rfl | (congr 1; push_cast; omega), by omega, Nat.le_refl _, HO, HK, HB⟩
     ·as_aux_lemma =>
      have hw1 : wrap64 (a1 + ((i * 2 + 1 : Nat) : Int) + 1) = a1 + ((i * 2 + 2 : Nat) : Int) := by simp only [wrap64]; omega
      have q2 : 2 - 2 < gk := by omega
      obtain ⟨⟨u_, hx5⟩, hf5, hR_, hG_⟩ := put_1 HO.out i hlt (a1 + ((i * 2 + 1 : Nat) : Int))
      rw [show a1 + ((i * 2 + 1 : Nat) : Int) = a1 + ((i * 2 : Nat) : Int) + 1 by omega, markSt_12 L i _ (by omega), show a1 + ((i * 2 : Nat) : Int) + 1 = a1 + ((i * 2 + 1 : Nat) : Int) by omega] at hR_
      have HP8 := Aside0.mk hR_
      have HG8 := Aside0.mk hG_
      clear hR_ hG_
      go_wp2_with (first | ((with_reducible refine gate_store (t := 2) (p := 22) rfl ?_); refine store_event (t := 2) (p := 22) (v := ?vo_w9) (w1 := (wr.setCell ⟨go, i * 2 + 1, none⟩ (.int .i64 (a1 + ((i * 2 + 1 : Nat) : Int))))) ?hg ?ho ?hn ?hr ?_; (case ho => rfl); (case hg => rfl); (case hn => rfl); (case hr => first | (go_simp; done) | (go_simp; rfl)); intro w9 hw; have hg : wr.grownBy w9 (some go) := (by rw [hw]; exact HG8.out); have n0_ := Aside0.mk (show Kd.R k68 68 w9 w0.heap.size (fun k_ => (P0_ k_ ∨ w.heap.size ≤ k_)) (.slice (some ⟨go, 0, none⟩) n co) (markSt L i 2 (a1 + ((i * 2 : Nat) : Int))) from (by rw [hw]; exact HP8.out)); have n1_ := Aside0.mk ((by rw [hw]; exact below_set HB.out GB.out : Below w0.heap.size w0 w9)); have n2_ := Aside0.mk (Kept.of_grown (S := (fun k_ => P0_ k_)) hg HK.out (fun k_ e_ => (HO.out.1 k_ e_))); clear HO HB HK HP8 HG8 hg hw hx5 hf5; have HO := n0_; have HB := n1_; have HK := n2_; clear n0_ n1_ n2_))
      go_roundg (2 - 2)
      case measure => exact q2
      case rel => exact ⟨2, by simp, by first | rw [hw1] | (simp; done) | rfl | (congr 1; push_cast; omega), by omega, Nat.le_refl _, HO, HK, HB⟩
     ·as_aux_lemma =>
      go_wp2
      go_roundg (n - (i + 1))
      case measure => exact q1
      case rel => exact ⟨i + 1, markSt L i 2 (a1 + ((i * 2 : Nat) : Int)), by simp, by first | rfl | (congr 1; push_cast; omega), by omega, Nat.le_refl _, by rw [markSt_length]; exact hL, ⟨by have h_ := HV2.out; rw [show a1 + ((i * 2 : Nat) : Int) + 2 = a1 + (((i + 1) * 2 : Nat) : Int) by omega] at h_; exact h_⟩, HO, HK, HB⟩
   ·obtain rfl : i = n := by omega
    have hV : L = RR := by have h_ := HV.out; rw [List.drop_eq_nil_of_le (by omega), List.take_of_length_le (by omega)] at h_; simpa [markP] using h_
    subst hV
    go_wp2
    go_ret
    exact ⟨rfl, HO.out, HB.out, HK.out⟩
 ·rw [if_neg hl] at h
  exact absurd h (by simp)

/-! ### laws_heldInt64A2S: function 22 -/
def heldCells (l : List S68) (t : Nat) : Int := if t % 2 = 0 then (rd_T68 l ((t / 2 : Nat) : Int)).f0 else (rd_T68 l ((t / 2 : Nat) : Int)).f1
def laws_heldInt64A2S.f (_k : Nat) (l0 : List S68) (a1 : Int) : Option Int := if l0.length ≤ 1000000 ∧ 0 ≤ a1 ∧ a1 ≤ 1000000 then some (Go.Proofs.Ytadnngaaobgdgaa.H.heldF (heldCells l0) (l0.length * 2) 0 a1) else none
theorem laws_heldInt64A2S.mono : ∀ a0 a1 k, LeO (laws_heldInt64A2S.f k a0 a1) (laws_heldInt64A2S.f (k + 1) a0 a1) := fun _ _ _ => LeO.refl _
theorem laws_heldInt64A2S.calls (k : Nat) (A0 : Option Addr) (c0 : Nat) (l0 : List S68) (a1 : Int) (r : Int) (w : World) (hr0 : Kd.C k68 w A0 l0.length l0) (hc0 : l0.length ≤ c0) (h : laws_heldInt64A2S.f k l0 a1 = some r) :
  Calls Try.prog 22 #[.slice A0 l0.length c0, .int .i64 a1] w fun e w' => e = .returned (.int .i64 r) ∧ Drawn0 w w' := by
 unfold laws_heldInt64A2S.f at h
 by_cases hl : l0.length ≤ 1000000 ∧ 0 ≤ a1 ∧ a1 ≤ 1000000
 ·rw [if_pos hl] at h
  obtain rfl := Option.some.inj h
  refine (Go.Proofs.Ytadnngaaobgdgaa.H.heldA2_calls A0 l0.length c0 (heldCells l0) a1 w (fun i hi => ?_) hl.1 hl.2).mono ?_
  ·obtain ⟨ad, e, h0, h1⟩ := at_T68 hr0 (i : Int) (by omega) (by omega)
   refine ⟨ad, e, ?_, ?_⟩
   ·rw [show heldCells l0 (i * 2 + 0) = (rd_T68 l0 (i : Int)).f0 by
     unfold heldCells; rw [if_pos (by omega), show (i * 2 + 0) / 2 = i by omega]]
    exact h0
   ·rw [show heldCells l0 (i * 2 + 1) = (rd_T68 l0 (i : Int)).f1 by
     unfold heldCells; rw [if_neg (by omega), show (i * 2 + 1) / 2 = i by omega]]
    exact h1
  ·rintro e w' ⟨rfl, rfl⟩
   exact ⟨rfl, Drawn0.refl _⟩
 ·rw [if_neg hl] at h
  exact absurd h (by simp)

end Go.Proofs.Ytadnngaaobgdgaa.P
