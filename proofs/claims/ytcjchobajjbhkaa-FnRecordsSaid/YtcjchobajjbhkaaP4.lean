-- Printed by wip/print (my turned copy of the kit's print) out of the translation; Lean checks it.
import Derived.Test.YtcjchobajjbhkaaP0
import Derived.Test.YtcjchobajjbhkaaP3
namespace Go.Proofs.Ytcjchobajjbhkaa.P
open Go.RowKit Go.Proofs.YtcjchobajjbhkaaW.PrintWords Go.Proofs.YtcjchobajjbhkaaW.PrintLast Go.Proofs.YtcjchobajjbhkaaW.PrintMore
attribute [local go_sem] max2_int min2_int max_two min_two max_three min_three max_four min_four   -- for this text's walks alone
set_option linter.unusedVariables false
set_option linter.unusedSimpArgs false

/-! ### spec_l05Sorted: function 26 -/
mutual
def spec_l05Sorted.l0 : Nat → List (S44) → List (S44) → Int → Option ((List (S44)))
  | 0, _, _, _ => none
  | k + 1, x0, x3, x4 => if x4 < (x0.length : Int) then (spec_l05Sorted.l1 k x0 x3 x4 (x3.length : Int)) else (some x3)
def spec_l05Sorted.l1 : Nat → List (S44) → List (S44) → Int → Int → Option ((List (S44)))
  | 0, _, _, _, _ => none
  | k + 1, x0, x3, x4, x5 => if x5 > 0 then (if 0 ≤ x4 then (if x4 < (x0.length : Int) then (if 0 ≤ (wrap64 (x5 - 1)) then (if (wrap64 (x5 - 1)) < (x3.length : Int) then ((spec_l05Before.f ((rd_T44 x0 x4).f0) ((rd_T44 x0 x4).f1) ((rd_T44 x0 x4).f2) ((rd_T44 x3 (wrap64 (x5 - 1))).f0) ((rd_T44 x3 (wrap64 (x5 - 1))).f1) ((rd_T44 x3 (wrap64 (x5 - 1))).f2)).bind fun t166 => (if t166 = true then (spec_l05Sorted.l1 k x0 x3 x4 (wrap64 (x5 - 1))) else ((some (([] : List (S44)) : List (S44))).bind fun y167 => (if 0 ≤ x5 then (if x5 ≤ (x3.length : Int) then ((some (x3.drop (x5 : Int).toNat : List (S44))).bind fun y170 => (if y167.length + y170.length < 35184372088832 then ((some (y167 ++ y170 : List (S44))).bind fun y174 => ((some (x3.take (x5 : Int).toNat : List (S44))).bind fun y177 => (if y177.length < 35184372088832 then ((some (y177 ++ [(⟨(rd_T44 x0 x4).f0, (rd_T44 x0 x4).f1, (rd_T44 x0 x4).f2⟩ : S44)] : List (S44))).bind fun y181 => (if y181.length + y174.length < 35184372088832 then (spec_l05Sorted.l0 k x0 (y181 ++ y174) (wrap64 (x4 + 1))) else (none))) else (none)))) else (none))) else (none)) else (none))))) else (none)) else (none)) else (none)) else (none)) else ((some (([] : List (S44)) : List (S44))).bind fun y187 => (if 0 ≤ x5 then (if x5 ≤ (x3.length : Int) then ((some (x3.drop (x5 : Int).toNat : List (S44))).bind fun y190 => (if y187.length + y190.length < 35184372088832 then ((some (y187 ++ y190 : List (S44))).bind fun y194 => ((some (x3.take (x5 : Int).toNat : List (S44))).bind fun y197 => (if 0 ≤ x4 then (if x4 < (x0.length : Int) then (if y197.length < 35184372088832 then ((some (y197 ++ [(⟨(rd_T44 x0 x4).f0, (rd_T44 x0 x4).f1, (rd_T44 x0 x4).f2⟩ : S44)] : List (S44))).bind fun y201 => (if y201.length + y194.length < 35184372088832 then (spec_l05Sorted.l0 k x0 (y201 ++ y194) (wrap64 (x4 + 1))) else (none))) else (none)) else (none)) else (none)))) else (none))) else (none)) else (none)))
end
def spec_l05Sorted.f (k : Nat) (l0 : List (S44)) : Option ((List (S44))) := spec_l05Sorted.l0 k l0 (([] : List (S44))) 0
theorem spec_l05Sorted.mono_l : ∀ k, (∀ y0 y1 y2, LeO (spec_l05Sorted.l0 k y0 y1 y2) (spec_l05Sorted.l0 (k + 1) y0 y1 y2)) ∧ (∀ y0 y1 y2 y3, LeO (spec_l05Sorted.l1 k y0 y1 y2 y3) (spec_l05Sorted.l1 (k + 1) y0 y1 y2 y3))
  | 0 => ⟨fun _ _ _ r h => by simp [spec_l05Sorted.l0] at h, fun _ _ _ _ r h => by simp [spec_l05Sorted.l1] at h⟩
  | k + 1 => by
    obtain ⟨ih0, ih1⟩ := spec_l05Sorted.mono_l k
    refine ⟨?_, ?_⟩
    · intro y0 y1 y2
      unfold spec_l05Sorted.l0
      repeat' first
      | (with_reducible exact ih0 _ _ _)
      | (with_reducible exact ih1 _ _ _ _)
      | (with_reducible exact LeO.refl _)
      | (with_reducible exact LeO.none _)
      | (with_reducible refine LeO.ite ?_ ?_)
      | (with_reducible refine LeO.bind ?_ (fun _ => ?_))
      | exact ih0 _ _ _
      | exact ih1 _ _ _ _
      | exact LeO.none _
      | refine LeO.ite ?_ ?_
      | refine LeO.bind ?_ (fun _ => ?_)
    · intro y0 y1 y2 y3
      unfold spec_l05Sorted.l1
      repeat' first
      | (with_reducible exact ih0 _ _ _)
      | (with_reducible exact ih1 _ _ _ _)
      | (with_reducible exact LeO.refl _)
      | (with_reducible exact LeO.none _)
      | (with_reducible refine LeO.ite ?_ ?_)
      | (with_reducible refine LeO.bind ?_ (fun _ => ?_))
      | exact ih0 _ _ _
      | exact ih1 _ _ _ _
      | exact LeO.none _
      | refine LeO.ite ?_ ?_
      | refine LeO.bind ?_ (fun _ => ?_)
theorem spec_l05Sorted.mono : ∀ a0 k, LeO (spec_l05Sorted.f k a0) (spec_l05Sorted.f (k + 1) a0) := by
  intro a0 k
  obtain ⟨ih0, ih1⟩ := spec_l05Sorted.mono_l k
  unfold spec_l05Sorted.f
  repeat' first
      | (with_reducible exact ih0 _ _ _)
      | (with_reducible exact ih1 _ _ _ _)
      | (with_reducible exact LeO.refl _)
      | (with_reducible exact LeO.none _)
      | (with_reducible refine LeO.ite ?_ ?_)
      | (with_reducible refine LeO.bind ?_ (fun _ => ?_))
      | exact ih0 _ _ _
      | exact ih1 _ _ _ _
      | exact LeO.none _
      | refine LeO.ite ?_ ?_
      | refine LeO.bind ?_ (fun _ => ?_)
def spec_l05Sorted.T6 : Bool × List (List Nat × List Nat) := (true, [([], []), ([0], [0]), ([1], [1]), ([2], [2]), ([2], [2]), ([3, 4, 2], [2, 3, 4]), ([2], [2]), ([2], [2]), ([7, 2], [2, 7]), ([6, 8, 2], [2, 6, 8]), ([5, 9, 2, 2], [2, 5, 9]), ([2, 10], [2, 10])])
def spec_l05Sorted.B6 : List Nat := [0, 1, 3, 7, 7, 31, 7, 7, 135, 455, 1023, 2047]
theorem spec_l05Sorted.tab6 : rtab .any (opsOf Try.f26 6) = spec_l05Sorted.T6 := by kernel_rfl
theorem spec_l05Sorted.bits6 : waitsOk spec_l05Sorted.T6.2 spec_l05Sorted.B6 = true := by kernel_rfl
def spec_l05Sorted.T9 : Bool × List (List Nat × List Nat) := (true, [([], []), ([], []), ([0, 1], [0, 1]), ([], []), ([], []), ([3, 4], [3, 4]), ([5], [5]), ([6], [6]), ([2, 7], [2, 7]), ([], []), ([8, 9, 8], [8, 9]), ([10, 10, 0, 1, 2, 3, 4, 5, 6, 7, 8, 9, 10], [0, 10])])
def spec_l05Sorted.B9 : List Nat := [0, 0, 3, 0, 0, 24, 56, 120, 255, 0, 1023, 2047]
theorem spec_l05Sorted.tab9 : rtab .any (opsOf Try.f26 9) = spec_l05Sorted.T9 := by kernel_rfl
theorem spec_l05Sorted.bits9 : waitsOk spec_l05Sorted.T9.2 spec_l05Sorted.B9 = true := by kernel_rfl
set_option maxHeartbeats 8000000 in
set_option maxRecDepth 100000 in
theorem spec_l05Sorted.calls (k : Nat) (A0 : Option Addr) (c0 : Nat) (l0 : List (S44)) (r : List (S44)) (w : World) (hr0 : Kd.C k44 w A0 l0.length l0) (hc0 : l0.length ≤ c0) (h : spec_l05Sorted.f k l0 = some r) :
    Calls Try.prog 26 #[.slice A0 l0.length c0] w fun e w' => ∃ v0_ : Value, e = .returned (v0_) ∧ Kd.R k44 44 w' w.heap.size (fun _ => True) v0_ r ∧ Below w.heap.size w w' := by
 have hu44 := Try.underlying44
 have HR0 := ak hr0
 have HC0 := ak hc0
 clear hr0 hc0
 have HB := ak (Below.refl w.heap.size w)
 have H : (spec_l05Sorted.l0 k l0 (([] : List (S44))) 0) = some r := h
 clear h
 obtain ⟨y161, hy161⟩ : ∃ y_ : List (S44), y_ = (([] : List (S44))) := ⟨_, rfl⟩
 replace H : (spec_l05Sorted.l0 k l0 y161 0) = some r := by first | (rw [hy161]; with_reducible exact H) | (have H2_ := (Option.bind_some _ _).symm.trans H; rw [hy161]; with_reducible exact H2_) | (have H2_ := (Option.bind_some _ _).symm.trans H; with_reducible exact H2_) | with_reducible exact H | (rw [hy161]; exact H) | exact H
 have Ny161 := ak hy161
 clear hy161
 have H' := ak H
 clear H
 go_enter Try.func26, Try.ntmps26
 go_wp2_with (first | ((with_reducible refine gate_dst (N := 7) rfl ?_); refine Kd.R_lit k44 _ 44 ?hg (N := 7) ?hd (xs := ([] : List (S44))) (inner := []) (ok := fun _ => True) (okp := fun _ => True) ?hr ?hp (fun _ hk => hk) trivial (Below.refl _ _) (Nat.le_refl _) (by simp) ?_; (case hd => rfl); (case hg => rfl); (case hr => first | (go_simp; done) | (go_simp; rfl)); (case hp => exact (Reps.none _ _)); intro v162 w2 ho3 hb hg_ hnew_; clear hg_ hnew_; (first | rw [← Ny161.out] at ho3 | (simp only [Int.reduceToNat] at ho3; rw [← Ny161.out] at ho3)); have n0_ := ak (Kd.R_lower ho3 (below_size (zB HB.out))); have n1_ := ak (below_step (zB HB.out) hb); clear HB; have HO163 := n0_; have HB := n1_; clear n0_ n1_; clear hb ho3))
 go_loopg [3, 4] k (fun kq v3 v4 w' => ∃ (x3_1 : List (S44)) (x4_1 : Int), v4 = .int .i64 x4_1 ∧ Aside0 (spec_l05Sorted.l0 kq l0 x3_1 x4_1 = some r) ∧ Aside0 (kq ≤ k) ∧ Aside0 (Kd.R k44 44 w' w.heap.size (fun _ => True) v3 x3_1) ∧ Aside0 (Below w.heap.size w w'))
 case atStart => exact ⟨(y161), (0), (by first | rfl | (simp; done) | (simp [*]; done)), H', ⟨Nat.le_refl _⟩, ⟨by (with_reducible repeat (first | apply Kd.R_alloc | apply Kd.R_drewN | apply Kd.R_drew)); exact HO163.out⟩, ⟨by repeat (first | (with_reducible first | exact HB.out | apply below_alloc | apply pw_below_drewN | apply below_drew1) | exact HB.out)⟩⟩
 case round => (
 clear H'
 try clear c2
 try clear p2
 obtain ⟨x3_1, x4_1, rfl, HA, HK1, HO_3, HB⟩ := hrel
 cases gk with
 | zero => exact absurd HA.out (by simp [spec_l05Sorted.l0])
 | succ k1 => (
 have H := HA.out
 clear HA
 simp only [spec_l05Sorted.l0] at H
 by_cases c4 : x4_1 < (l0.length : Int)
 {
 rw [if_pos c4] at H
 have c4b0 : decide (x4_1 < (l0.length : Int)) = true := decide_eq_true c4
 clear c4
 have H' := ak H
 clear H
 obtain ⟨Ao5, co5, eo5⟩ := Kd.R_slice HO_3.out
 subst eo5
 go_wp2
 go_loopg [5] k1 (fun kq v5 w' => ∃ (x5_2 : Int), v5 = .int .i64 x5_2 ∧ Aside0 (spec_l05Sorted.l1 kq l0 x3_1 x4_1 x5_2 = some r) ∧ Aside0 (kq ≤ k1) ∧ Aside0 (Kd.R k44 44 w' w.heap.size (fun _ => True) (.slice Ao5 x3_1.length co5) x3_1) ∧ Aside0 (Below w.heap.size w w'))
 case atStart => exact ⟨((x3_1.length : Int)), (by first | rfl | (simp; done) | (simp [*]; done)), H', ⟨Nat.le_refl _⟩, ⟨by (with_reducible repeat (first | apply Kd.R_alloc | apply Kd.R_drewN | apply Kd.R_drew)); exact HO_3.out⟩, ⟨by repeat (first | (with_reducible first | exact HB.out | apply below_alloc | apply pw_below_drewN | apply below_drew1) | exact HB.out)⟩⟩
 case round => (
 clear H'
 try clear c2
 try clear p2
 try clear c4
 try clear c4b0
 try clear p2
 obtain ⟨x5_2, rfl, HA, HK2, HO_3, HB⟩ := hrel
 cases gk with
 | zero => exact absurd HA.out (by simp [spec_l05Sorted.l1])
 | succ k2 => (
 have H := HA.out
 clear HA
 simp only [spec_l05Sorted.l1] at H
 by_cases c6 : x5_2 > 0
 {
 rw [if_pos c6] at H
 have c6b0 : decide (0 < x5_2) = true := decide_eq_true c6
 clear c6
 by_cases c7 : 0 ≤ x4_1
 {
 rw [if_pos c7] at H
 have c7b0 : decide (0 ≤ x4_1) = true := decide_eq_true c7
 clear c7
 by_cases c8 : x4_1 < (l0.length : Int)
 {
 rw [if_pos c8] at H
 have c8b0 : decide (x4_1 < (l0.length : Int)) = true := decide_eq_true c8
 clear c8
 obtain ⟨ji9, hji9⟩ : ∃ j_ : Int, (wrap64 (x5_2 - 1)) = j_ := ⟨_, rfl⟩
 replace H : (if 0 ≤ (ji9) then (if (ji9) < (x3_1.length : Int) then ((spec_l05Before.f ((rd_T44 l0 x4_1).f0) ((rd_T44 l0 x4_1).f1) ((rd_T44 l0 x4_1).f2) ((rd_T44 x3_1 (ji9)).f0) ((rd_T44 x3_1 (ji9)).f1) ((rd_T44 x3_1 (ji9)).f2)).bind fun t166 => (if t166 = true then (spec_l05Sorted.l1 k2 l0 x3_1 x4_1 ji9) else ((some (([] : List (S44)) : List (S44))).bind fun y167 => (if 0 ≤ x5_2 then (if x5_2 ≤ (x3_1.length : Int) then ((some (x3_1.drop (x5_2 : Int).toNat : List (S44))).bind fun y170 => (if y167.length + y170.length < 35184372088832 then ((some (y167 ++ y170 : List (S44))).bind fun y174 => ((some (x3_1.take (x5_2 : Int).toNat : List (S44))).bind fun y177 => (if y177.length < 35184372088832 then ((some (y177 ++ [(⟨(rd_T44 l0 x4_1).f0, (rd_T44 l0 x4_1).f1, (rd_T44 l0 x4_1).f2⟩ : S44)] : List (S44))).bind fun y181 => (if y181.length + y174.length < 35184372088832 then (spec_l05Sorted.l0 k2 l0 (y181 ++ y174) (wrap64 (x4_1 + 1))) else (none))) else (none)))) else (none))) else (none)) else (none))))) else (none)) else (none)) = some r := by first | (rw [hji9] at H; exact H) | (simp only [hji9] at H ⊢; exact H)
 have hji9w : (IntKind.i64.wrap (x5_2 - 1)) = ji9 := (i64_w _).trans hji9
 by_cases c10 : 0 ≤ (ji9)
 {
 rw [if_pos c10] at H
 have c10b0 : decide (0 ≤ (ji9)) = true := decide_eq_true c10
 clear c10
 by_cases c11 : (ji9) < (x3_1.length : Int)
 {
 rw [if_pos c11] at H
 have c11b0 : decide ((ji9) < (x3_1.length : Int)) = true := decide_eq_true c11
 clear c11
 replace H := Option.bind_eq_some_iff.mp H
 obtain ⟨t166, A120, H⟩ := H
 replace H : (if t166 = true then (spec_l05Sorted.l1 k2 l0 x3_1 x4_1 ji9) else ((some (([] : List (S44)) : List (S44))).bind fun y167 => (if 0 ≤ x5_2 then (if x5_2 ≤ (x3_1.length : Int) then ((some (x3_1.drop (x5_2 : Int).toNat : List (S44))).bind fun y170 => (if y167.length + y170.length < 35184372088832 then ((some (y167 ++ y170 : List (S44))).bind fun y174 => ((some (x3_1.take (x5_2 : Int).toNat : List (S44))).bind fun y177 => (if y177.length < 35184372088832 then ((some (y177 ++ [(⟨(rd_T44 l0 x4_1).f0, (rd_T44 l0 x4_1).f1, (rd_T44 l0 x4_1).f2⟩ : S44)] : List (S44))).bind fun y181 => (if y181.length + y174.length < 35184372088832 then (spec_l05Sorted.l0 k2 l0 (y181 ++ y174) (wrap64 (x4_1 + 1))) else (none))) else (none)))) else (none))) else (none)) else (none)))) = some r := H
 have A12 := ak A120
 clear A120
 by_cases c13 : t166 = true
 {
 subst c13
 have H1 : (spec_l05Sorted.l1 k2 l0 x3_1 x4_1 ji9) = some r := by rw [if_pos rfl] at H; exact H
 clear H
 have H := H1
 clear H1
 have H' := ak H
 clear H
 try go_wp2
 have n0_ := ak (Kd.R_drew HO_3.out)
 have n1_ := ak (below_drew1 HB.out)
 clear HO_3 HB
 have HO_3 := n0_
 have HB := n1_
 clear n0_ n1_
 have p164 : 0 ≤ (x4_1 : Int) := of_decide_eq_true (by first | (with_reducible assumption) | assumption)
 have q164 : x4_1 < (l0.length : Int) := of_decide_eq_true (by first | (with_reducible assumption) | assumption)
 obtain ⟨ad164, e164, hx164_0, hx164_1, hx164_2⟩ := at_T44 HR0.out x4_1 p164 q164
 have hw164_2 := hx164_2
 have hw164_1 := hx164_1
 have hw164_0 := hx164_0
 cases e164
 replace hx164_0 := (HB.out.cell (World.block_lt_of_cell? w _ hx164_0)).trans hx164_0
 replace hx164_1 := (HB.out.cell (World.block_lt_of_cell? w _ hx164_1)).trans hx164_1
 replace hx164_2 := (HB.out.cell (World.block_lt_of_cell? w _ hx164_2)).trans hx164_2
 replace p164 := eq_true p164
 replace q164 := eq_true q164
 have p165 : 0 ≤ ((ji9) : Int) := of_decide_eq_true (by first | (with_reducible assumption) | assumption)
 have q165 : (ji9) < (x3_1.length : Int) := of_decide_eq_true (by first | (with_reducible assumption) | assumption)
 obtain ⟨ad165, e165, hx165_0, hx165_1, hx165_2⟩ := at_T44 (Kd.R_reads' HO_3.out).2.2 (ji9) p165 q165
 cases e165
 replace p165 := eq_true p165
 replace q165 := eq_true q165
 refine start_ (n := 12) (S := fun w' => w'.cell? (ad164.add ((x4_1).toNat * 3)) = some (.int .i8 ((rd_T44 l0 x4_1).f0)) ∧ w'.cell? ⟨(ad164.add ((x4_1).toNat * 3)).block, (ad164.add ((x4_1).toNat * 3)).off + 1, none⟩ = some (.int .i8 ((rd_T44 l0 x4_1).f1)) ∧ w'.cell? ⟨(ad164.add ((x4_1).toNat * 3)).block, (ad164.add ((x4_1).toNat * 3)).off + 2, none⟩ = some (.int .i16 ((rd_T44 l0 x4_1).f2)) ∧ w'.cell? (ad165.add (((ji9)).toNat * 3)) = some (.int .i8 ((rd_T44 x3_1 (ji9)).f0)) ∧ w'.cell? ⟨(ad165.add (((ji9)).toNat * 3)).block, (ad165.add (((ji9)).toNat * 3)).off + 1, none⟩ = some (.int .i8 ((rd_T44 x3_1 (ji9)).f1)) ∧ w'.cell? ⟨(ad165.add (((ji9)).toNat * 3)).block, (ad165.add (((ji9)).toNat * 3)).off + 2, none⟩ = some (.int .i16 ((rd_T44 x3_1 (ji9)).f2))) (ds := []) #[false, false, false, false, false, false, false, false, false, false, false, false] (by kernel_rfl) rfl rfl ⟨((HB.out.cell (World.block_lt_of_cell? w _ hw164_0)).trans hw164_0), ((HB.out.cell (World.block_lt_of_cell? w _ hw164_1)).trans hw164_1), ((HB.out.cell (World.block_lt_of_cell? w _ hw164_2)).trans hw164_2), hx165_0, hx165_1, hx165_2⟩ (fun hHeld => ?_); refine with_tabW spec_l05Sorted.tab6 spec_l05Sorted.bits6 (fun HT_ HW_ => ?_)
 generalize wr.drew = w14 at HO_3 HB hx164_0 hx164_1 hx164_2 hx165_0 hx165_1 hx165_2 hHeld ⊢
 refine pure_ (i := 0) (N := some 16) (v := ?_) (a' := ?_) #[true, false, false, false, false, false, false, false, false, false, false, false] rfl rfl (any_of HT_.out (by kernel_rfl)) (fun _ _ _ h => h) (Or.inl ⟨by rfl, ?_⟩) ?_ ?_
 rotate_left
 {
 intro w'
 go_simp
 with_reducible rfl
 }
 rotate_left
 · simp only [Act.put, zs, zz, zk, i64_w, i32_w]; rfl
 refine pure_ (i := 1) (N := some 17) (v := ?_) (a' := ?_) #[true, true, false, false, false, false, false, false, false, false, false, false] rfl rfl (any_of HT_.out (by kernel_rfl)) (fun _ _ _ h => h) (Or.inl ⟨by rfl, ?_⟩) ?_ ?_
 rotate_left
 {
 intro w'
 go_simp
 with_reducible rfl
 }
 rotate_left
 · simp only [Act.put, zs, zz, zk, i64_w, i32_w]; rfl
 refine pure_ (i := 2) (N := some 18) (v := ?_) (a' := ?_) #[true, true, true, false, false, false, false, false, false, false, false, false] rfl rfl (any_of HT_.out (by kernel_rfl)) (fun _ _ _ h => h) (Or.inl ⟨by rfl, ?_⟩) ?_ ?_
 rotate_left
 {
 intro w'
 go_simp
 with_reducible rfl
 }
 rotate_left
 · simp only [Act.put, zs, zz, zk, i64_w, i32_w]; rfl
 refine pure_ (i := 3) (N := some 19) (v := ?_) (a' := ?_) #[true, true, true, true, false, false, false, false, false, false, false, false] rfl rfl (any_of HT_.out (by kernel_rfl)) (fun _ _ _ h => h) (Or.inl ⟨by rfl, ?_⟩) ?_ ?_
 rotate_left
 {
 intro w'
 go_simp
 with_reducible rfl
 }
 rotate_left
 · simp only [Act.put, zs, zz, zk, i64_w, i32_w]; rfl
 refine pure_ (i := 4) (N := some 20) (v := ?_) (a' := ?_) #[true, true, true, true, true, false, false, false, false, false, false, false] rfl rfl (any_of HT_.out (by kernel_rfl)) (fun _ _ _ h => h) (Or.inl ⟨by rfl, ?_⟩) ?_ ?_
 rotate_left
 {
 intro w'
 go_simp
 with_reducible rfl
 }
 rotate_left
 · simp only [Act.put, zs, zz, zk, i64_w, i32_w]; rfl
 refine pure_ (i := 5) (N := some 21) (v := ?_) (a' := ?_) #[true, true, true, true, true, true, false, false, false, false, false, false] rfl rfl (any_of HT_.out (by kernel_rfl)) (fun _ _ _ h => h) (Or.inl ⟨by rfl, ?_⟩) ?_ ?_
 rotate_left
 {
 intro w'
 go_simp
 with_reducible rfl
 }
 rotate_left
 · simp only [Act.put, zs, zz, zk, i64_w, i32_w]; rfl
 refine pure_ (i := 6) (N := some 22) (v := ?_) (a' := ?_) #[true, true, true, true, true, true, true, false, false, false, false, false] rfl rfl (any_of HT_.out (by kernel_rfl)) (fun _ _ _ h => h) (Or.inl ⟨by rfl, ?_⟩) ?_ ?_
 rotate_left
 {
 intro w'
 go_simp
 with_reducible rfl
 }
 rotate_left
 · simp only [Act.put, zs, zz, zk, i64_w, i32_w]; rfl
 refine pure_ (i := 7) (N := some 23) (v := ?_) (a' := ?_) #[true, true, true, true, true, true, true, true, false, false, false, false] rfl rfl (any_of HT_.out (by kernel_rfl)) (fun _ _ _ h => h) (Or.inl ⟨by rfl, ?_⟩) ?_ ?_
 rotate_left
 {
 intro w'
 go_simp
 with_reducible rfl
 }
 rotate_left
 · simp only [Act.put, zs, zz, zk, i64_w, i32_w]; rfl
 refine pure_ (i := 8) (N := some 24) (v := ?_) (a' := ?_) #[true, true, true, true, true, true, true, true, true, false, false, false] rfl rfl (any_of HT_.out (by kernel_rfl)) (fun _ _ _ h => h) (Or.inl ⟨by rfl, ?_⟩) ?_ ?_
 rotate_left
 {
 intro w'
 go_simp
 with_reducible rfl
 }
 rotate_left
 · simp only [Act.put, zs, zz, zk, i64_w, i32_w]; rfl
 refine pure_ (i := 9) (N := some 25) (v := ?_) (a' := ?_) #[true, true, true, true, true, true, true, true, true, true, false, false] rfl rfl (any_of HT_.out (by kernel_rfl)) (fun _ _ _ h => h) (Or.inl ⟨by rfl, ?_⟩) ?_ ?_
 rotate_left
 {
 intro w'
 go_simp
 with_reducible rfl
 }
 rotate_left
 · simp only [Act.put, zs, zz, zk, i64_w, i32_w]; rfl
 refine one_ (i := 10) (N := some 26) #[true, true, true, true, true, true, true, true, true, true, true, false] rfl rfl (one_of HT_.out (by kernel_rfl)) (by decide) (fun K hK => ?_)
 refine goes_ Try.func49 (by kernel_rfl) rfl #[.pointer (some (ad164.add ((x4_1).toNat * 3))), .pointer (some (ad165.add (((ji9)).toNat * 3)))] (by rfl) rfl rfl (by (try simp only [List.map_toArray, List.map_cons, List.map_nil]); first | done | (simp only [hji9]; rfl) | rfl | (simp only [List.length_drop, List.length_take]; rfl)) ?_
 with_reducible refine (spec_l05Before.calls (ad164.add ((x4_1).toNat * 3)) ((rd_T44 l0 x4_1).f0) ((rd_T44 l0 x4_1).f1) ((rd_T44 l0 x4_1).f2) (ad165.add (((ji9)).toNat * 3)) ((rd_T44 x3_1 (ji9)).f0) ((rd_T44 x3_1 (ji9)).f1) ((rd_T44 x3_1 (ji9)).f2) true _ ?side1 ?side2 ?side3 ?side4 ?side5 ?side6 A12.out).mono ?_
 (case side1 => exact hx164_0)
 (case side2 => exact hx164_1)
 (case side3 => exact hx164_2)
 (case side4 => exact hx165_0)
 (case side5 => exact hx165_1)
 (case side6 => exact hx165_2)
 rintro e w' ⟨rfl, ⟨nd, rfl⟩⟩
 refine ⟨_, rfl, ?_⟩
 refine hK.out _ _ ⟨((HB.out.cell (World.block_lt_of_cell? w _ hw164_0)).trans hw164_0), ((HB.out.cell (World.block_lt_of_cell? w _ hw164_1)).trans hw164_1), ((HB.out.cell (World.block_lt_of_cell? w _ hw164_2)).trans hw164_2), hHeld.2.2.2.1, hHeld.2.2.2.2.1, hHeld.2.2.2.2.2⟩ (fun hHeld => ?_)
 clear hK K
 refine norm_ (a' := ?_) ?_ ?_
 rotate_left
 {
 show Act.put _ (some 26) _ = _
 simp only [Act.put, zs, zz, zk, i64_w, i32_w]
 rfl
 }
 refine pure_ (i := 11) (N := some 27) (v := ?_) (a' := ?_) #[true, true, true, true, true, true, true, true, true, true, true, true] rfl rfl (any_of HT_.out (by kernel_rfl)) (fun _ _ _ h => h) (Or.inl ⟨by rfl, ?_⟩) ?_ ?_
 rotate_left
 {
 intro w'
 go_simp
 with_reducible rfl
 }
 rotate_left
 · simp only [Act.put, zs, zz, zk, i64_w, i32_w]; rfl
 refine done_ (done_of HT_.out (by kernel_rfl)) ?_
 try go_wp2
 go_roundg k2
 case measure => have := HK1.out; have := HK2.out; omega
 case rel => exact ⟨(ji9), (by first | rfl | (simp; done) | (simp only [← hji9] <;> (first | rfl | simp)) | (simp [*]; done)), H', ⟨by have := HK1.out; have := HK2.out; omega⟩, ⟨by (with_reducible repeat (first | apply Kd.R_alloc | apply Kd.R_drewN | apply Kd.R_drew)); exact HO_3.out⟩, ⟨by repeat (first | (with_reducible first | exact HB.out | apply below_alloc | apply pw_below_drewN | apply below_drew1) | exact HB.out)⟩⟩
 }
 {
 replace c13 := Bool.eq_false_iff.mpr c13
 subst c13
 have H1 : ((some (([] : List (S44)) : List (S44))).bind fun y167 => (if 0 ≤ x5_2 then (if x5_2 ≤ (x3_1.length : Int) then ((some (x3_1.drop (x5_2 : Int).toNat : List (S44))).bind fun y170 => (if y167.length + y170.length < 35184372088832 then ((some (y167 ++ y170 : List (S44))).bind fun y174 => ((some (x3_1.take (x5_2 : Int).toNat : List (S44))).bind fun y177 => (if y177.length < 35184372088832 then ((some (y177 ++ [(⟨(rd_T44 l0 x4_1).f0, (rd_T44 l0 x4_1).f1, (rd_T44 l0 x4_1).f2⟩ : S44)] : List (S44))).bind fun y181 => (if y181.length + y174.length < 35184372088832 then (spec_l05Sorted.l0 k2 l0 (y181 ++ y174) (wrap64 (x4_1 + 1))) else (none))) else (none)))) else (none))) else (none)) else (none))) = some r := by rw [if_neg (show ¬ (false = true) by decide)] at H; exact H
 clear H
 have H := H1
 clear H1
 obtain ⟨y167, hy167⟩ : ∃ y_ : List (S44), y_ = (([] : List (S44))) := ⟨_, rfl⟩
 replace H : (if 0 ≤ x5_2 then (if x5_2 ≤ (x3_1.length : Int) then ((some (x3_1.drop (x5_2 : Int).toNat : List (S44))).bind fun y170 => (if y167.length + y170.length < 35184372088832 then ((some (y167 ++ y170 : List (S44))).bind fun y174 => ((some (x3_1.take (x5_2 : Int).toNat : List (S44))).bind fun y177 => (if y177.length < 35184372088832 then ((some (y177 ++ [(⟨(rd_T44 l0 x4_1).f0, (rd_T44 l0 x4_1).f1, (rd_T44 l0 x4_1).f2⟩ : S44)] : List (S44))).bind fun y181 => (if y181.length + y174.length < 35184372088832 then (spec_l05Sorted.l0 k2 l0 (y181 ++ y174) (wrap64 (x4_1 + 1))) else (none))) else (none)))) else (none))) else (none)) else (none)) = some r := by first | (rw [hy167]; with_reducible exact H) | (have H2_ := (Option.bind_some _ _).symm.trans H; rw [hy167]; with_reducible exact H2_) | (have H2_ := (Option.bind_some _ _).symm.trans H; with_reducible exact H2_) | with_reducible exact H | (rw [hy167]; exact H) | exact H
 have Ny167 := ak hy167
 clear hy167
 by_cases c15 : 0 ≤ x5_2
 {
 rw [if_pos c15] at H
 have c15b0 := eq_true c15
 have c15b1 : decide (0 ≤ x5_2) = true := decide_eq_true c15
 clear c15
 by_cases c16 : x5_2 ≤ (x3_1.length : Int)
 {
 rw [if_pos c16] at H
 have c16b0 := eq_true c16
 have c16b1 : decide (x5_2 ≤ (x3_1.length : Int)) = true := decide_eq_true c16
 clear c16
 obtain ⟨y170, hy170⟩ : ∃ y_ : List (S44), y_ = (x3_1.drop (x5_2 : Int).toNat) := ⟨_, rfl⟩
 replace H : (if y167.length + y170.length < 35184372088832 then ((some (y167 ++ y170 : List (S44))).bind fun y174 => ((some (x3_1.take (x5_2 : Int).toNat : List (S44))).bind fun y177 => (if y177.length < 35184372088832 then ((some (y177 ++ [(⟨(rd_T44 l0 x4_1).f0, (rd_T44 l0 x4_1).f1, (rd_T44 l0 x4_1).f2⟩ : S44)] : List (S44))).bind fun y181 => (if y181.length + y174.length < 35184372088832 then (spec_l05Sorted.l0 k2 l0 (y181 ++ y174) (wrap64 (x4_1 + 1))) else (none))) else (none)))) else (none)) = some r := by first | (rw [hy170]; with_reducible exact H) | (have H2_ := (Option.bind_some _ _).symm.trans H; rw [hy170]; with_reducible exact H2_) | (have H2_ := (Option.bind_some _ _).symm.trans H; with_reducible exact H2_) | with_reducible exact H | (rw [hy170]; exact H) | exact H
 have Ny170 := ak hy170
 clear hy170
 by_cases c17 : y167.length + y170.length < 35184372088832
 {
 rw [if_pos c17] at H
 have LMc17 := ak c17
 clear c17
 obtain ⟨y174, hy174⟩ : ∃ y_ : List (S44), y_ = (y167 ++ y170) := ⟨_, rfl⟩
 replace H : ((some (x3_1.take (x5_2 : Int).toNat : List (S44))).bind fun y177 => (if y177.length < 35184372088832 then ((some (y177 ++ [(⟨(rd_T44 l0 x4_1).f0, (rd_T44 l0 x4_1).f1, (rd_T44 l0 x4_1).f2⟩ : S44)] : List (S44))).bind fun y181 => (if y181.length + y174.length < 35184372088832 then (spec_l05Sorted.l0 k2 l0 (y181 ++ y174) (wrap64 (x4_1 + 1))) else (none))) else (none))) = some r := by first | (rw [hy174]; with_reducible exact H) | (have H2_ := (Option.bind_some _ _).symm.trans H; rw [hy174]; with_reducible exact H2_) | (have H2_ := (Option.bind_some _ _).symm.trans H; with_reducible exact H2_) | with_reducible exact H | (rw [hy174]; exact H) | exact H
 have Ny174 := ak hy174
 clear hy174
 have c18b0 := eq_true (of_decide_eq_true (by first | (with_reducible assumption) | assumption) : x5_2 ≤ (x3_1.length : Int))
 obtain ⟨y177, hy177⟩ : ∃ y_ : List (S44), y_ = (x3_1.take (x5_2 : Int).toNat) := ⟨_, rfl⟩
 replace H : (if y177.length < 35184372088832 then ((some (y177 ++ [(⟨(rd_T44 l0 x4_1).f0, (rd_T44 l0 x4_1).f1, (rd_T44 l0 x4_1).f2⟩ : S44)] : List (S44))).bind fun y181 => (if y181.length + y174.length < 35184372088832 then (spec_l05Sorted.l0 k2 l0 (y181 ++ y174) (wrap64 (x4_1 + 1))) else (none))) else (none)) = some r := by first | (rw [hy177]; with_reducible exact H) | (have H2_ := (Option.bind_some _ _).symm.trans H; rw [hy177]; with_reducible exact H2_) | (have H2_ := (Option.bind_some _ _).symm.trans H; with_reducible exact H2_) | with_reducible exact H | (rw [hy177]; exact H) | exact H
 have Ny177 := ak hy177
 clear hy177
 by_cases c19 : y177.length < 35184372088832
 {
 rw [if_pos c19] at H
 have LMc19 := ak c19
 clear c19
 obtain ⟨y181, hy181⟩ : ∃ y_ : List (S44), y_ = (y177 ++ [(⟨(rd_T44 l0 x4_1).f0, (rd_T44 l0 x4_1).f1, (rd_T44 l0 x4_1).f2⟩ : S44)]) := ⟨_, rfl⟩
 replace H : (if y181.length + y174.length < 35184372088832 then (spec_l05Sorted.l0 k2 l0 (y181 ++ y174) (wrap64 (x4_1 + 1))) else (none)) = some r := by first | (rw [hy181]; with_reducible exact H) | (have H2_ := (Option.bind_some _ _).symm.trans H; rw [hy181]; with_reducible exact H2_) | (have H2_ := (Option.bind_some _ _).symm.trans H; with_reducible exact H2_) | with_reducible exact H | (rw [hy181]; exact H) | exact H
 have Ny181 := ak hy181
 clear hy181
 by_cases c20 : y181.length + y174.length < 35184372088832
 {
 rw [if_pos c20] at H
 have LMc20 := ak c20
 clear c20
 obtain ⟨y184, hy184⟩ : ∃ y_ : List (S44), y_ = (y181 ++ y174) := ⟨_, rfl⟩
 replace H : (spec_l05Sorted.l0 k2 l0 y184 (wrap64 (x4_1 + 1))) = some r := by first | (rw [hy184]; with_reducible exact H) | (have H2_ := (Option.bind_some _ _).symm.trans H; rw [hy184]; with_reducible exact H2_) | (have H2_ := (Option.bind_some _ _).symm.trans H; with_reducible exact H2_) | with_reducible exact H | (rw [hy184]; exact H) | exact H
 have Ny184 := ak hy184
 clear hy184
 have H' := ak H
 clear H
 try go_wp2
 have n0_ := ak (Kd.R_drew HO_3.out)
 have n1_ := ak (below_drew1 HB.out)
 clear HO_3 HB
 have HO_3 := n0_
 have HB := n1_
 clear n0_ n1_
 have p164 : 0 ≤ (x4_1 : Int) := of_decide_eq_true (by first | (with_reducible assumption) | assumption)
 have q164 : x4_1 < (l0.length : Int) := of_decide_eq_true (by first | (with_reducible assumption) | assumption)
 obtain ⟨ad164, e164, hx164_0, hx164_1, hx164_2⟩ := at_T44 HR0.out x4_1 p164 q164
 have hw164_2 := hx164_2
 have hw164_1 := hx164_1
 have hw164_0 := hx164_0
 cases e164
 replace hx164_0 := (HB.out.cell (World.block_lt_of_cell? w _ hx164_0)).trans hx164_0
 replace hx164_1 := (HB.out.cell (World.block_lt_of_cell? w _ hx164_1)).trans hx164_1
 replace hx164_2 := (HB.out.cell (World.block_lt_of_cell? w _ hx164_2)).trans hx164_2
 replace p164 := eq_true p164
 replace q164 := eq_true q164
 have p165 : 0 ≤ ((ji9) : Int) := of_decide_eq_true (by first | (with_reducible assumption) | assumption)
 have q165 : (ji9) < (x3_1.length : Int) := of_decide_eq_true (by first | (with_reducible assumption) | assumption)
 obtain ⟨ad165, e165, hx165_0, hx165_1, hx165_2⟩ := at_T44 (Kd.R_reads' HO_3.out).2.2 (ji9) p165 q165
 cases e165
 replace p165 := eq_true p165
 replace q165 := eq_true q165
 refine start_ (n := 12) (S := fun w' => w'.cell? (ad164.add ((x4_1).toNat * 3)) = some (.int .i8 ((rd_T44 l0 x4_1).f0)) ∧ w'.cell? ⟨(ad164.add ((x4_1).toNat * 3)).block, (ad164.add ((x4_1).toNat * 3)).off + 1, none⟩ = some (.int .i8 ((rd_T44 l0 x4_1).f1)) ∧ w'.cell? ⟨(ad164.add ((x4_1).toNat * 3)).block, (ad164.add ((x4_1).toNat * 3)).off + 2, none⟩ = some (.int .i16 ((rd_T44 l0 x4_1).f2)) ∧ w'.cell? (ad165.add (((ji9)).toNat * 3)) = some (.int .i8 ((rd_T44 x3_1 (ji9)).f0)) ∧ w'.cell? ⟨(ad165.add (((ji9)).toNat * 3)).block, (ad165.add (((ji9)).toNat * 3)).off + 1, none⟩ = some (.int .i8 ((rd_T44 x3_1 (ji9)).f1)) ∧ w'.cell? ⟨(ad165.add (((ji9)).toNat * 3)).block, (ad165.add (((ji9)).toNat * 3)).off + 2, none⟩ = some (.int .i16 ((rd_T44 x3_1 (ji9)).f2))) (ds := []) #[false, false, false, false, false, false, false, false, false, false, false, false] (by kernel_rfl) rfl rfl ⟨((HB.out.cell (World.block_lt_of_cell? w _ hw164_0)).trans hw164_0), ((HB.out.cell (World.block_lt_of_cell? w _ hw164_1)).trans hw164_1), ((HB.out.cell (World.block_lt_of_cell? w _ hw164_2)).trans hw164_2), hx165_0, hx165_1, hx165_2⟩ (fun hHeld => ?_); refine with_tabW spec_l05Sorted.tab6 spec_l05Sorted.bits6 (fun HT_ HW_ => ?_)
 generalize wr.drew = w21 at HO_3 HB hx164_0 hx164_1 hx164_2 hx165_0 hx165_1 hx165_2 hHeld ⊢
 refine pure_ (i := 0) (N := some 16) (v := ?_) (a' := ?_) #[true, false, false, false, false, false, false, false, false, false, false, false] rfl rfl (any_of HT_.out (by kernel_rfl)) (fun _ _ _ h => h) (Or.inl ⟨by rfl, ?_⟩) ?_ ?_
 rotate_left
 {
 intro w'
 go_simp
 with_reducible rfl
 }
 rotate_left
 · simp only [Act.put, zs, zz, zk, i64_w, i32_w]; rfl
 refine pure_ (i := 1) (N := some 17) (v := ?_) (a' := ?_) #[true, true, false, false, false, false, false, false, false, false, false, false] rfl rfl (any_of HT_.out (by kernel_rfl)) (fun _ _ _ h => h) (Or.inl ⟨by rfl, ?_⟩) ?_ ?_
 rotate_left
 {
 intro w'
 go_simp
 with_reducible rfl
 }
 rotate_left
 · simp only [Act.put, zs, zz, zk, i64_w, i32_w]; rfl
 refine pure_ (i := 2) (N := some 18) (v := ?_) (a' := ?_) #[true, true, true, false, false, false, false, false, false, false, false, false] rfl rfl (any_of HT_.out (by kernel_rfl)) (fun _ _ _ h => h) (Or.inl ⟨by rfl, ?_⟩) ?_ ?_
 rotate_left
 {
 intro w'
 go_simp
 with_reducible rfl
 }
 rotate_left
 · simp only [Act.put, zs, zz, zk, i64_w, i32_w]; rfl
 refine pure_ (i := 3) (N := some 19) (v := ?_) (a' := ?_) #[true, true, true, true, false, false, false, false, false, false, false, false] rfl rfl (any_of HT_.out (by kernel_rfl)) (fun _ _ _ h => h) (Or.inl ⟨by rfl, ?_⟩) ?_ ?_
 rotate_left
 {
 intro w'
 go_simp
 with_reducible rfl
 }
 rotate_left
 · simp only [Act.put, zs, zz, zk, i64_w, i32_w]; rfl
 refine pure_ (i := 4) (N := some 20) (v := ?_) (a' := ?_) #[true, true, true, true, true, false, false, false, false, false, false, false] rfl rfl (any_of HT_.out (by kernel_rfl)) (fun _ _ _ h => h) (Or.inl ⟨by rfl, ?_⟩) ?_ ?_
 rotate_left
 {
 intro w'
 go_simp
 with_reducible rfl
 }
 rotate_left
 · simp only [Act.put, zs, zz, zk, i64_w, i32_w]; rfl
 refine pure_ (i := 5) (N := some 21) (v := ?_) (a' := ?_) #[true, true, true, true, true, true, false, false, false, false, false, false] rfl rfl (any_of HT_.out (by kernel_rfl)) (fun _ _ _ h => h) (Or.inl ⟨by rfl, ?_⟩) ?_ ?_
 rotate_left
 {
 intro w'
 go_simp
 with_reducible rfl
 }
 rotate_left
 · simp only [Act.put, zs, zz, zk, i64_w, i32_w]; rfl
 refine pure_ (i := 6) (N := some 22) (v := ?_) (a' := ?_) #[true, true, true, true, true, true, true, false, false, false, false, false] rfl rfl (any_of HT_.out (by kernel_rfl)) (fun _ _ _ h => h) (Or.inl ⟨by rfl, ?_⟩) ?_ ?_
 rotate_left
 {
 intro w'
 go_simp
 with_reducible rfl
 }
 rotate_left
 · simp only [Act.put, zs, zz, zk, i64_w, i32_w]; rfl
 refine pure_ (i := 7) (N := some 23) (v := ?_) (a' := ?_) #[true, true, true, true, true, true, true, true, false, false, false, false] rfl rfl (any_of HT_.out (by kernel_rfl)) (fun _ _ _ h => h) (Or.inl ⟨by rfl, ?_⟩) ?_ ?_
 rotate_left
 {
 intro w'
 go_simp
 with_reducible rfl
 }
 rotate_left
 · simp only [Act.put, zs, zz, zk, i64_w, i32_w]; rfl
 refine pure_ (i := 8) (N := some 24) (v := ?_) (a' := ?_) #[true, true, true, true, true, true, true, true, true, false, false, false] rfl rfl (any_of HT_.out (by kernel_rfl)) (fun _ _ _ h => h) (Or.inl ⟨by rfl, ?_⟩) ?_ ?_
 rotate_left
 {
 intro w'
 go_simp
 with_reducible rfl
 }
 rotate_left
 · simp only [Act.put, zs, zz, zk, i64_w, i32_w]; rfl
 refine pure_ (i := 9) (N := some 25) (v := ?_) (a' := ?_) #[true, true, true, true, true, true, true, true, true, true, false, false] rfl rfl (any_of HT_.out (by kernel_rfl)) (fun _ _ _ h => h) (Or.inl ⟨by rfl, ?_⟩) ?_ ?_
 rotate_left
 {
 intro w'
 go_simp
 with_reducible rfl
 }
 rotate_left
 · simp only [Act.put, zs, zz, zk, i64_w, i32_w]; rfl
 refine one_ (i := 10) (N := some 26) #[true, true, true, true, true, true, true, true, true, true, true, false] rfl rfl (one_of HT_.out (by kernel_rfl)) (by decide) (fun K hK => ?_)
 refine goes_ Try.func49 (by kernel_rfl) rfl #[.pointer (some (ad164.add ((x4_1).toNat * 3))), .pointer (some (ad165.add (((ji9)).toNat * 3)))] (by rfl) rfl rfl (by (try simp only [List.map_toArray, List.map_cons, List.map_nil]); first | done | (simp only [hji9]; rfl) | rfl | (simp only [List.length_drop, List.length_take]; rfl)) ?_
 with_reducible refine (spec_l05Before.calls (ad164.add ((x4_1).toNat * 3)) ((rd_T44 l0 x4_1).f0) ((rd_T44 l0 x4_1).f1) ((rd_T44 l0 x4_1).f2) (ad165.add (((ji9)).toNat * 3)) ((rd_T44 x3_1 (ji9)).f0) ((rd_T44 x3_1 (ji9)).f1) ((rd_T44 x3_1 (ji9)).f2) false _ ?side1 ?side2 ?side3 ?side4 ?side5 ?side6 A12.out).mono ?_
 (case side1 => exact hx164_0)
 (case side2 => exact hx164_1)
 (case side3 => exact hx164_2)
 (case side4 => exact hx165_0)
 (case side5 => exact hx165_1)
 (case side6 => exact hx165_2)
 rintro e w' ⟨rfl, ⟨nd, rfl⟩⟩
 refine ⟨_, rfl, ?_⟩
 refine hK.out _ _ ⟨((HB.out.cell (World.block_lt_of_cell? w _ hw164_0)).trans hw164_0), ((HB.out.cell (World.block_lt_of_cell? w _ hw164_1)).trans hw164_1), ((HB.out.cell (World.block_lt_of_cell? w _ hw164_2)).trans hw164_2), hHeld.2.2.2.1, hHeld.2.2.2.2.1, hHeld.2.2.2.2.2⟩ (fun hHeld => ?_)
 clear hK K
 refine norm_ (a' := ?_) ?_ ?_
 rotate_left
 {
 show Act.put _ (some 26) _ = _
 simp only [Act.put, zs, zz, zk, i64_w, i32_w]
 rfl
 }
 refine pure_ (i := 11) (N := some 27) (v := ?_) (a' := ?_) #[true, true, true, true, true, true, true, true, true, true, true, true] rfl rfl (any_of HT_.out (by kernel_rfl)) (fun _ _ _ h => h) (Or.inl ⟨by rfl, ?_⟩) ?_ ?_
 rotate_left
 {
 intro w'
 go_simp
 with_reducible rfl
 }
 rotate_left
 · simp only [Act.put, zs, zz, zk, i64_w, i32_w]; rfl
 refine done_ (done_of HT_.out (by kernel_rfl)) ?_
 try go_wp2_with (first | ((with_reducible refine gate_dst (N := 30) rfl ?_); refine Kd.R_lit k44 _ 44 ?hg (N := 30) ?hd (xs := ([] : List (S44))) (inner := []) (ok := fun _ => True) (okp := fun _ => True) ?hr ?hp (fun _ hk => hk) trivial (Below.refl _ _) (Nat.le_refl _) (by simp) ?_; (case hd => rfl); (case hg => rfl); (case hr => first | (go_simp; done) | (go_simp; rfl)); (case hp => exact (Reps.none _ _)); intro v168 w22 ho23 hb hg_ hnew_; clear hg_ hnew_; (first | rw [← Ny167.out] at ho23 | (simp only [Int.reduceToNat] at ho23; rw [← Ny167.out] at ho23)); have n0_ := ak (Kd.R_elder' (zR HO_3.out) (Kd.R_base ho23) hb); have n1_ := ak (Kd.R_lower (Kd.R_new' ho23 (Kd.R_lt (zR HO_3.out))) (below_size (zB HB.out))); have n2_ := ak (below_step (zB HB.out) hb); clear HO_3 HB; have HO_3 := n0_; have HO169 := n1_; have HB := n2_; clear n0_ n1_ n2_; clear hb ho23; have q24 : (x5_2 : Int) ≤ ((x3_1.length : Int) : Int) := of_decide_eq_true (by first | (with_reducible assumption) | assumption); obtain ⟨i024, hi024, _, hsz24, _⟩ := info_parts info44; have hroom24 : x3_1.length ≤ co5 := (Kd.R_reads' HO_3.out).2.1; have hC24 : Kd.C k44 _ (some ad165) x3_1.length x3_1 := (Kd.R_reads' HO_3.out).2.2; have q024 : (0 : Int) ≤ (x5_2 : Int) := of_decide_eq_true (by first | (with_reducible assumption) | assumption); have hcut24 := cut_from (P := Try.prog) 24 44 .i64 Try.underlying24 hi024 3 hsz24 (some ad165) x3_1.length co5 x5_2 q024 q24; have hr24 := Kd.C_drop (m := (x5_2 : Int).toNat) (c := co5) hC24 (by omega) hroom24; obtain ⟨A24, hA24⟩ : ∃ Aq_, Aq_ = (if co5 = (x5_2 : Int).toNat then (some ad165) else ((some ad165) : Option Addr).map (·.add ((x5_2 : Int).toNat * 3))) := ⟨_, rfl⟩; obtain ⟨c24, hc24⟩ : ∃ cq_, cq_ = co5 - (x5_2 : Int).toNat := ⟨_, rfl⟩; have hy24 : y170.length = x3_1.length - (x5_2 : Int).toNat := (by rw [Ny170.out, List.length_drop] <;> omega); rw [show (x3_1).drop (x5_2 : Int).toNat = y170 from Ny170.out.symm] at hr24; replace hr24 : Kd.C k44 _ A24 y170.length y170 := (by rw [hA24]; exact hr24); rw [← hy24, ← hA24, ← hc24] at hcut24; have HR173 := ak hr24; have HC173 := ak (show y170.length ≤ c24 from by rw [hy24, hc24]; exact Nat.sub_le_sub_right hroom24 _); clear hr24 hC24 hroom24 hi024 hsz24 hc24; have KY24 := ak hy24; have KA24 := ak hA24; clear hy24 hA24; have KL24 := ak (show (x5_2 : Int).toNat ≤ x3_1.length from by omega); replace q24 := eq_true q24) | ((with_reducible refine gate_builtin (b := .append) (xs := #[.tmp 30, .tmp 33]) rfl ?_); at_builtin; refine Kd.R_append_rows k44 (w0 := w) w.heap.size rfl (.tmp 30) (.tmp 33) 24 44 (.agg #[(.int .i8 0), (.int .i8 0), (.int .i16 0)]) 4 rfl Try.underlying24 info44 rfl (by decide) (by omega) v168 y167 y170 _ _ _ (fun k_ => some k_ ≠ (.slice (some ad165) x3_1.length co5 : Value).ownBlock) (fun _ => False) rfl rfl ?aO ?aR (fun _ _ h => h) (fun _ h => h.elim) ?aF ?aB ?aS ?aL ?_; (case aR => repeat (first | exact (zC HR173.out) | (with_reducible refine Kd.C_alloc ?_ _) | (with_reducible refine Kd.C_drewN ?_ _) | (with_reducible refine Kd.C_drew ?_))); (case aB => exact (zB HB.out)); (case aF => exact (fun k_ hk => Kd.fresh' (Kd.R_lt (zR HO_3.out)) k_ hk)); (case aO => exact (by (with_reducible repeat (first | apply Kd.R_alloc | apply Kd.R_drewN | apply Kd.R_drew)); exact Kd.R_mono HO169.out (fun _ hk => hk.2))); (case aS => exact (below_size (zB HB.out))); (case aL => have := LMc17.out; omega); intro v175 w25 ho hb hg hat; rw [← Ny174.out] at ho; have n0_ := ak (Kd.R_after (ok := (fun _ => True)) (zR HO_3.out) hg hat); have n1_ := ak (hb); have n2_ := ak ((show Kd.C k44 w25 A24 y170.length y170 from by rw [Ny170.out, KA24.out]; exact Kd.C_drop (m := (x5_2 : Int).toNat) (c := co5) ((Kd.R_reads' (Kd.R_after (ok := (fun _ => True)) (zR HO_3.out) hg hat)).2.2) KL24.out ((Kd.R_reads' (Kd.R_after (ok := (fun _ => True)) (zR HO_3.out) hg hat)).2.1))); have n3_ := ak (ho); clear HO_3 HB HR173 HO169; have HO_3 := n0_; have HB := n1_; have HR173 := n2_; have HO176 := n3_; clear n0_ n1_ n2_ n3_; clear ho hb hg hat))
 have n0_ := ak (Kd.R_drew HO_3.out)
 have n1_ := ak (Kd.R_drew HO176.out)
 have n2_ := ak (Kd.C_drew HR173.out)
 have n3_ := ak (below_drew1 HB.out)
 clear HO_3 HO176 HR173 HB
 have HO_3 := n0_
 have HO176 := n1_
 have HR173 := n2_
 have HB := n3_
 clear n0_ n1_ n2_ n3_
 have q27 : (x5_2 : Int) ≤ ((x3_1.length : Int) : Int) := of_decide_eq_true (by first | (with_reducible assumption) | assumption)
 obtain ⟨i027, hi027, _, hsz27, _⟩ := info_parts info44
 have hcut27 := cut_to (P := Try.prog) 24 44 .i64 Try.underlying24 hi027 (some ad165) x3_1.length co5 x5_2 (of_decide_eq_true (by first | (with_reducible assumption) | assumption)) q27 (Kd.R_reads' HO_3.out).2.1
 have hr27 := Kd.R_take (m := (x5_2 : Int).toNat) HO_3.out (by omega)
 have hy27 : y177.length = (x5_2 : Int).toNat := (by rw [Ny177.out, List.length_take]; omega)
 rw [← Ny177.out] at hr27
 rw [← hy27] at hr27 hcut27
 clear hy27 hi027 hsz27 HO_3
 have HO179 := ak hr27
 clear hr27
 replace q27 := eq_true q27
 have p180 : 0 ≤ (x4_1 : Int) := of_decide_eq_true (by first | (with_reducible assumption) | assumption)
 have q180 : x4_1 < (l0.length : Int) := of_decide_eq_true (by first | (with_reducible assumption) | assumption)
 obtain ⟨ad180, e180, hx180_0, hx180_1, hx180_2⟩ := at_T44 HR0.out x4_1 p180 q180
 have hw180_2 := hx180_2
 have hw180_1 := hx180_1
 have hw180_0 := hx180_0
 obtain rfl : ad164 = ad180 := (by injection e180)
 replace hx180_0 := (HB.out.cell (World.block_lt_of_cell? w _ hx180_0)).trans hx180_0
 replace hx180_1 := (HB.out.cell (World.block_lt_of_cell? w _ hx180_1)).trans hx180_1
 replace hx180_2 := (HB.out.cell (World.block_lt_of_cell? w _ hx180_2)).trans hx180_2
 replace p180 := eq_true p180
 replace q180 := eq_true q180
 refine start_ (n := 12) (S := fun w' => w'.cell? (ad164.add ((x4_1).toNat * 3)) = some (.int .i8 ((rd_T44 l0 x4_1).f0)) ∧ w'.cell? ⟨(ad164.add ((x4_1).toNat * 3)).block, (ad164.add ((x4_1).toNat * 3)).off + 1, none⟩ = some (.int .i8 ((rd_T44 l0 x4_1).f1)) ∧ w'.cell? ⟨(ad164.add ((x4_1).toNat * 3)).block, (ad164.add ((x4_1).toNat * 3)).off + 2, none⟩ = some (.int .i16 ((rd_T44 l0 x4_1).f2))) (ds := []) #[false, false, false, false, false, false, false, false, false, false, false, false] (by kernel_rfl) rfl rfl ⟨((HB.out.cell (World.block_lt_of_cell? w _ hw180_0)).trans hw180_0), ((HB.out.cell (World.block_lt_of_cell? w _ hw180_1)).trans hw180_1), ((HB.out.cell (World.block_lt_of_cell? w _ hw180_2)).trans hw180_2)⟩ (fun hHeld => ?_); refine with_tabW spec_l05Sorted.tab9 spec_l05Sorted.bits9 (fun HT_ HW_ => ?_)
 generalize w25.drew = w26 at HO_3 HO176 HR173 HB HO179 hx180_0 hx180_1 hx180_2 hHeld ⊢
 refine pure_ (i := 0) (N := some 35) (v := ?_) (a' := ?_) #[true, false, false, false, false, false, false, false, false, false, false, false] rfl rfl (any_of HT_.out (by kernel_rfl)) (fun _ _ _ h => h) (Or.inl ⟨by rfl, ?_⟩) ?_ ?_
 rotate_left
 {
 intro w'
 go_simp
 with_reducible rfl
 }
 rotate_left
 · simp only [Act.put, zs, zz, zk, i64_w, i32_w]; rfl
 refine pure_ (i := 1) (N := some 36) (v := ?_) (a' := ?_) #[true, true, false, false, false, false, false, false, false, false, false, false] rfl rfl (any_of HT_.out (by kernel_rfl)) (fun _ _ _ h => h) (Or.inl ⟨by rfl, ?_⟩) ?_ ?_
 rotate_left
 {
 intro w'
 go_simp
 with_reducible rfl
 }
 rotate_left
 · simp only [Act.put, zs, zz, zk, i64_w, i32_w]; rfl
 refine pure_ (i := 2) (N := some 37) (v := ?_) (a' := ?_) #[true, true, true, false, false, false, false, false, false, false, false, false] rfl rfl (any_of HT_.out (by kernel_rfl)) (fun _ _ _ h => h) (Or.inl ⟨by rfl, ?_⟩) ?_ ?_
 rotate_left
 {
 intro w'
 go_simp
 with_reducible rfl
 }
 rotate_left
 · simp only [Act.put, zs, zz, zk, i64_w, i32_w]; rfl
 refine pure_ (i := 3) (N := some 38) (v := ?_) (a' := ?_) #[true, true, true, true, false, false, false, false, false, false, false, false] rfl rfl (any_of HT_.out (by kernel_rfl)) (fun _ _ _ h => h) (Or.inl ⟨by rfl, ?_⟩) ?_ ?_
 rotate_left
 {
 intro w'
 go_simp
 with_reducible rfl
 }
 rotate_left
 · simp only [Act.put, zs, zz, zk, i64_w, i32_w]; rfl
 refine pure_ (i := 4) (N := some 39) (v := ?_) (a' := ?_) #[true, true, true, true, true, false, false, false, false, false, false, false] rfl rfl (any_of HT_.out (by kernel_rfl)) (fun _ _ _ h => h) (Or.inl ⟨by rfl, ?_⟩) ?_ ?_
 rotate_left
 {
 intro w'
 go_simp
 with_reducible rfl
 }
 rotate_left
 · simp only [Act.put, zs, zz, zk, i64_w, i32_w]; rfl
 refine pure_ (i := 5) (N := some 40) (v := ?_) (a' := ?_) #[true, true, true, true, true, true, false, false, false, false, false, false] rfl rfl (any_of HT_.out (by kernel_rfl)) (fun _ _ _ h => h) (Or.inl ⟨by rfl, ?_⟩) ?_ ?_
 rotate_left
 {
 intro w'
 go_simp
 with_reducible rfl
 }
 rotate_left
 · simp only [Act.put, zs, zz, zk, i64_w, i32_w]; rfl
 refine pure_ (i := 9) (N := some 44) (v := ?_) (a' := ?_) #[true, true, true, true, true, true, false, false, false, true, false, false] rfl rfl (any_of HT_.out (by kernel_rfl)) (fun _ _ _ h => h) (Or.inl ⟨by rfl, ?_⟩) ?_ ?_
 rotate_left
 {
 intro w'
 go_simp
 with_reducible rfl
 }
 rotate_left
 · simp only [Act.put, zs, zz, zk, i64_w, i32_w]; rfl
 refine take_ (i := 6) (N := some 41) (v := ?_) (a' := ?_) #[true, true, true, true, true, true, true, false, false, true, false, false] rfl rfl (take_ofW HT_.out HW_.out (by kernel_rfl)) (fun _ _ _ h => h) (Or.inl ⟨by rfl, ?_⟩) hHeld ?_ ?_
 rotate_left
 {
 rintro w' ⟨s0, s1, s2⟩
 go_simp
 with_reducible rfl
 }
 rotate_left
 · simp only [Act.put, zs, zz, zk, i64_w, i32_w]; rfl
 refine one_ (i := 7) (N := some 42) #[true, true, true, true, true, true, true, true, false, true, false, false] rfl rfl (one_of HT_.out (by kernel_rfl)) (by decide) (fun K hK => ?_)
 refine value_ (w1 := ?_) (v := ?_) (by rfl) rfl ?_ ?_
 rotate_left 2
 {
 go_simp
 constructor
 · rfl
 · rfl
 }
 refine hK.out _ _ ⟨(World.cell?_alloc_lt _ _ _ (World.block_lt_of_cell? _ _ (((HB.out.cell (World.block_lt_of_cell? w _ hw180_0)).trans hw180_0)))).trans (((HB.out.cell (World.block_lt_of_cell? w _ hw180_0)).trans hw180_0)), (World.cell?_alloc_lt _ _ _ (World.block_lt_of_cell? _ _ (((HB.out.cell (World.block_lt_of_cell? w _ hw180_1)).trans hw180_1)))).trans (((HB.out.cell (World.block_lt_of_cell? w _ hw180_1)).trans hw180_1)), (World.cell?_alloc_lt _ _ _ (World.block_lt_of_cell? _ _ (((HB.out.cell (World.block_lt_of_cell? w _ hw180_2)).trans hw180_2)))).trans (((HB.out.cell (World.block_lt_of_cell? w _ hw180_2)).trans hw180_2))⟩ (fun hHeld => ?_)
 clear hK K
 refine norm_ (a' := ?_) ?_ ?_
 rotate_left
 {
 show Act.put _ (some 42) _ = _
 simp only [Act.put, zs, zz, zk, i64_w, i32_w]
 rfl
 }
 refine one_ (i := 8) (N := some 43) #[true, true, true, true, true, true, true, true, true, true, false, false] rfl rfl (one_of HT_.out (by kernel_rfl)) (by decide) (fun K hK => ?_)
 refine Kd.R_append_step k44 (w0 := w) w.heap.size (by rfl) (.tmp 37) (.tmp 42) 24 44 (.agg #[(.int .i8 0), (.int .i8 0), (.int .i16 0)]) 4 rfl Try.underlying24 info44 rfl (by decide) (by omega) (.slice (some ad165) y177.length co5) y177 (⟨(rd_T44 l0 x4_1).f0, (rd_T44 l0 x4_1).f1, (rd_T44 l0 x4_1).f2⟩ : S44) [.int .i8 ((rd_T44 l0 x4_1).f0), .int .i8 ((rd_T44 l0 x4_1).f1), .int .i16 ((rd_T44 l0 x4_1).f2)] (fun k_ => some k_ ≠ (v175 : Value).ownBlock) (fun _ => False) rfl rfl ?aP (fun _ hk => hk.elim) ?aF ?aO ?aB ?aS ?aL ?_
 (case aP => exact k44_mkM _ _ _ (⟨(rd_T44 l0 x4_1).f0, (rd_T44 l0 x4_1).f1, (rd_T44 l0 x4_1).f2⟩ : S44))
 (case aB => exact (zB HB.out))
 (case aF => exact (fun k_ hk => Kd.fresh' (Kd.R_lt (zR HO176.out)) k_ hk))
 (case aO => exact (by (with_reducible repeat (first | apply Kd.R_alloc | apply Kd.R_drewN | apply Kd.R_drew)); exact Kd.R_mono HO179.out (fun _ hk => hk.2)))
 (case aS => exact (below_size (zB HB.out)))
 (case aL => have := LMc19.out; omega)
 intro v182 w28 ho hb hg hat
 rw [← Ny181.out] at ho
 have n0_ := ak (Kd.R_after (ok := (fun _ => True)) (by (with_reducible repeat (first | apply Kd.R_alloc | apply Kd.R_drewN | apply Kd.R_drew)); exact Kd.R_mono HO176.out (fun _ hk => ⟨trivial, by first | exact hk | exact own_len_ hk⟩)) hg hat)
 have n1_ := ak (hb)
 have n2_ := ak (ho)
 clear HO176 HB HO179
 have HO176 := n0_
 have HB := n1_
 have HO183 := n2_
 clear n0_ n1_ n2_ ho hb hg hat
 obtain ⟨Ao30, co30, eo30⟩ := Kd.R_slice HO176.out
 (first | subst eo30 | (injection eo30 with f1_ f2_ f3_; have f4_ := f1_.symm; have f5_ := f3_.symm; clear f1_ f2_ f3_; subst f4_; subst f5_))
 refine hK.out _ _ ⟨((HB.out.cell (World.block_lt_of_cell? w _ hw180_0)).trans hw180_0), ((HB.out.cell (World.block_lt_of_cell? w _ hw180_1)).trans hw180_1), ((HB.out.cell (World.block_lt_of_cell? w _ hw180_2)).trans hw180_2)⟩ (fun hHeld => ?_)
 clear hK K
 refine norm_ (a' := ?_) ?_ ?_
 rotate_left
 {
 show Act.put _ (some 43) _ = _
 simp only [Act.put, zs, zz, zk, i64_w, i32_w]
 rfl
 }
 refine one_ (i := 10) (N := some 45) #[true, true, true, true, true, true, true, true, true, true, true, false] rfl rfl (one_of HT_.out (by kernel_rfl)) (by decide) (fun K hK => ?_)
 refine Kd.R_append_rows_step k44 (w0 := w) w.heap.size (by rfl) (.tmp 43) (.tmp 44) 24 44 (.agg #[(.int .i8 0), (.int .i8 0), (.int .i16 0)]) 4 rfl Try.underlying24 info44 rfl (by decide) (by omega) v182 y181 y174 _ _ _ (fun k_ => some k_ ≠ (.slice Ao30 y174.length co30 : Value).ownBlock) (fun _ => False) rfl rfl ?aO ?aR (fun _ _ h => h) (fun _ h => h.elim) ?aF ?aB ?aS ?aL ?_
 (case aR => exact zC (Kd.R_reads' HO176.out).2.2)
 (case aB => exact (zB HB.out))
 (case aF => exact (fun k_ hk => Kd.fresh' (Kd.R_lt (zR HO176.out)) k_ hk))
 (case aO => exact (zR HO183.out))
 (case aS => exact (below_size (zB HB.out)))
 (case aL => have := LMc20.out; omega)
 intro v185 w29 ho hb hg hat
 rw [← Ny184.out] at ho
 have n0_ := ak (Kd.R_after (ok := (fun _ => True)) (zR HO176.out) hg hat)
 have n1_ := ak (hb)
 have n2_ := ak (ho)
 clear HO176 HB HO183
 have HO176 := n0_
 have HB := n1_
 have HO186 := n2_
 clear n0_ n1_ n2_ ho hb hg hat
 refine hK.out _ _ ⟨((HB.out.cell (World.block_lt_of_cell? w _ hw180_0)).trans hw180_0), ((HB.out.cell (World.block_lt_of_cell? w _ hw180_1)).trans hw180_1), ((HB.out.cell (World.block_lt_of_cell? w _ hw180_2)).trans hw180_2)⟩ (fun hHeld => ?_)
 clear hK K
 refine norm_ (a' := ?_) ?_ ?_
 rotate_left
 {
 show Act.put _ (some 45) _ = _
 simp only [Act.put, zs, zz, zk, i64_w, i32_w]
 rfl
 }
 refine pure_ (i := 11) (N := some 3) (v := ?_) (a' := ?_) #[true, true, true, true, true, true, true, true, true, true, true, true] rfl rfl (any_of HT_.out (by kernel_rfl)) (fun _ _ _ h => h) (Or.inl ⟨by rfl, ?_⟩) ?_ ?_
 rotate_left
 {
 intro w'
 go_simp
 with_reducible rfl
 }
 rotate_left
 · simp only [Act.put, zs, zz, zk, i64_w, i32_w]; rfl
 refine done_ (done_of HT_.out (by kernel_rfl)) ?_
 try go_wp2
 go_roundg k2
 case measure => have := HK1.out; have := HK2.out; omega
 case rel => exact ⟨(y184), (wrap64 (x4_1 + 1)), (by first | rfl | (simp; done) | (simp [*]; done)), H', ⟨by have := HK1.out; have := HK2.out; omega⟩, ⟨by (with_reducible repeat (first | apply Kd.R_alloc | apply Kd.R_drewN | apply Kd.R_drew)); exact Kd.R_mono HO186.out (fun _ hk => trivial)⟩, ⟨by repeat (first | (with_reducible first | exact HB.out | apply below_alloc | apply pw_below_drewN | apply below_drew1) | exact HB.out)⟩⟩
 }
 · rw [if_neg c20] at H; exact absurd H (by simp)
 }
 · rw [if_neg c19] at H; exact absurd H (by simp)
 }
 · rw [if_neg c17] at H; exact absurd H (by simp)
 }
 · rw [if_neg c16] at H; exact absurd H (by simp)
 }
 · rw [if_neg c15] at H; exact absurd H (by simp)
 }
 }
 · rw [if_neg c11] at H; exact absurd H (by simp)
 }
 · rw [if_neg c10] at H; exact absurd H (by simp)
 }
 · rw [if_neg c8] at H; exact absurd H (by simp)
 }
 · rw [if_neg c7] at H; exact absurd H (by simp)
 }
 {
 rw [if_neg c6] at H
 have c6b0 : decide (0 < x5_2) = false := decide_eq_false c6
 clear c6
 obtain ⟨y187, hy187⟩ : ∃ y_ : List (S44), y_ = (([] : List (S44))) := ⟨_, rfl⟩
 replace H : (if 0 ≤ x5_2 then (if x5_2 ≤ (x3_1.length : Int) then ((some (x3_1.drop (x5_2 : Int).toNat : List (S44))).bind fun y190 => (if y187.length + y190.length < 35184372088832 then ((some (y187 ++ y190 : List (S44))).bind fun y194 => ((some (x3_1.take (x5_2 : Int).toNat : List (S44))).bind fun y197 => (if 0 ≤ x4_1 then (if x4_1 < (l0.length : Int) then (if y197.length < 35184372088832 then ((some (y197 ++ [(⟨(rd_T44 l0 x4_1).f0, (rd_T44 l0 x4_1).f1, (rd_T44 l0 x4_1).f2⟩ : S44)] : List (S44))).bind fun y201 => (if y201.length + y194.length < 35184372088832 then (spec_l05Sorted.l0 k2 l0 (y201 ++ y194) (wrap64 (x4_1 + 1))) else (none))) else (none)) else (none)) else (none)))) else (none))) else (none)) else (none)) = some r := by first | (rw [hy187]; with_reducible exact H) | (have H2_ := (Option.bind_some _ _).symm.trans H; rw [hy187]; with_reducible exact H2_) | (have H2_ := (Option.bind_some _ _).symm.trans H; with_reducible exact H2_) | with_reducible exact H | (rw [hy187]; exact H) | exact H
 have Ny187 := ak hy187
 clear hy187
 by_cases c31 : 0 ≤ x5_2
 {
 rw [if_pos c31] at H
 have c31b0 := eq_true c31
 have c31b1 : decide (0 ≤ x5_2) = true := decide_eq_true c31
 clear c31
 by_cases c32 : x5_2 ≤ (x3_1.length : Int)
 {
 rw [if_pos c32] at H
 have c32b0 := eq_true c32
 have c32b1 : decide (x5_2 ≤ (x3_1.length : Int)) = true := decide_eq_true c32
 clear c32
 obtain ⟨y190, hy190⟩ : ∃ y_ : List (S44), y_ = (x3_1.drop (x5_2 : Int).toNat) := ⟨_, rfl⟩
 replace H : (if y187.length + y190.length < 35184372088832 then ((some (y187 ++ y190 : List (S44))).bind fun y194 => ((some (x3_1.take (x5_2 : Int).toNat : List (S44))).bind fun y197 => (if 0 ≤ x4_1 then (if x4_1 < (l0.length : Int) then (if y197.length < 35184372088832 then ((some (y197 ++ [(⟨(rd_T44 l0 x4_1).f0, (rd_T44 l0 x4_1).f1, (rd_T44 l0 x4_1).f2⟩ : S44)] : List (S44))).bind fun y201 => (if y201.length + y194.length < 35184372088832 then (spec_l05Sorted.l0 k2 l0 (y201 ++ y194) (wrap64 (x4_1 + 1))) else (none))) else (none)) else (none)) else (none)))) else (none)) = some r := by first | (rw [hy190]; with_reducible exact H) | (have H2_ := (Option.bind_some _ _).symm.trans H; rw [hy190]; with_reducible exact H2_) | (have H2_ := (Option.bind_some _ _).symm.trans H; with_reducible exact H2_) | with_reducible exact H | (rw [hy190]; exact H) | exact H
 have Ny190 := ak hy190
 clear hy190
 by_cases c33 : y187.length + y190.length < 35184372088832
 {
 rw [if_pos c33] at H
 have LMc33 := ak c33
 clear c33
 obtain ⟨y194, hy194⟩ : ∃ y_ : List (S44), y_ = (y187 ++ y190) := ⟨_, rfl⟩
 replace H : ((some (x3_1.take (x5_2 : Int).toNat : List (S44))).bind fun y197 => (if 0 ≤ x4_1 then (if x4_1 < (l0.length : Int) then (if y197.length < 35184372088832 then ((some (y197 ++ [(⟨(rd_T44 l0 x4_1).f0, (rd_T44 l0 x4_1).f1, (rd_T44 l0 x4_1).f2⟩ : S44)] : List (S44))).bind fun y201 => (if y201.length + y194.length < 35184372088832 then (spec_l05Sorted.l0 k2 l0 (y201 ++ y194) (wrap64 (x4_1 + 1))) else (none))) else (none)) else (none)) else (none))) = some r := by first | (rw [hy194]; with_reducible exact H) | (have H2_ := (Option.bind_some _ _).symm.trans H; rw [hy194]; with_reducible exact H2_) | (have H2_ := (Option.bind_some _ _).symm.trans H; with_reducible exact H2_) | with_reducible exact H | (rw [hy194]; exact H) | exact H
 have Ny194 := ak hy194
 clear hy194
 have c34b0 := eq_true (of_decide_eq_true (by first | (with_reducible assumption) | assumption) : x5_2 ≤ (x3_1.length : Int))
 obtain ⟨y197, hy197⟩ : ∃ y_ : List (S44), y_ = (x3_1.take (x5_2 : Int).toNat) := ⟨_, rfl⟩
 replace H : (if 0 ≤ x4_1 then (if x4_1 < (l0.length : Int) then (if y197.length < 35184372088832 then ((some (y197 ++ [(⟨(rd_T44 l0 x4_1).f0, (rd_T44 l0 x4_1).f1, (rd_T44 l0 x4_1).f2⟩ : S44)] : List (S44))).bind fun y201 => (if y201.length + y194.length < 35184372088832 then (spec_l05Sorted.l0 k2 l0 (y201 ++ y194) (wrap64 (x4_1 + 1))) else (none))) else (none)) else (none)) else (none)) = some r := by first | (rw [hy197]; with_reducible exact H) | (have H2_ := (Option.bind_some _ _).symm.trans H; rw [hy197]; with_reducible exact H2_) | (have H2_ := (Option.bind_some _ _).symm.trans H; with_reducible exact H2_) | with_reducible exact H | (rw [hy197]; exact H) | exact H
 have Ny197 := ak hy197
 clear hy197
 by_cases c35 : 0 ≤ x4_1
 {
 rw [if_pos c35] at H
 have c35b0 : decide (0 ≤ x4_1) = true := decide_eq_true c35
 clear c35
 by_cases c36 : x4_1 < (l0.length : Int)
 {
 rw [if_pos c36] at H
 have c36b0 : decide (x4_1 < (l0.length : Int)) = true := decide_eq_true c36
 clear c36
 by_cases c37 : y197.length < 35184372088832
 {
 rw [if_pos c37] at H
 have LMc37 := ak c37
 clear c37
 obtain ⟨y201, hy201⟩ : ∃ y_ : List (S44), y_ = (y197 ++ [(⟨(rd_T44 l0 x4_1).f0, (rd_T44 l0 x4_1).f1, (rd_T44 l0 x4_1).f2⟩ : S44)]) := ⟨_, rfl⟩
 replace H : (if y201.length + y194.length < 35184372088832 then (spec_l05Sorted.l0 k2 l0 (y201 ++ y194) (wrap64 (x4_1 + 1))) else (none)) = some r := by first | (rw [hy201]; with_reducible exact H) | (have H2_ := (Option.bind_some _ _).symm.trans H; rw [hy201]; with_reducible exact H2_) | (have H2_ := (Option.bind_some _ _).symm.trans H; with_reducible exact H2_) | with_reducible exact H | (rw [hy201]; exact H) | exact H
 have Ny201 := ak hy201
 clear hy201
 by_cases c38 : y201.length + y194.length < 35184372088832
 {
 rw [if_pos c38] at H
 have LMc38 := ak c38
 clear c38
 obtain ⟨y204, hy204⟩ : ∃ y_ : List (S44), y_ = (y201 ++ y194) := ⟨_, rfl⟩
 replace H : (spec_l05Sorted.l0 k2 l0 y204 (wrap64 (x4_1 + 1))) = some r := by first | (rw [hy204]; with_reducible exact H) | (have H2_ := (Option.bind_some _ _).symm.trans H; rw [hy204]; with_reducible exact H2_) | (have H2_ := (Option.bind_some _ _).symm.trans H; with_reducible exact H2_) | with_reducible exact H | (rw [hy204]; exact H) | exact H
 have Ny204 := ak hy204
 clear hy204
 have H' := ak H
 clear H
 try go_wp2
 have n0_ := ak (Kd.R_drew HO_3.out)
 have n1_ := ak (below_drew1 HB.out)
 clear HO_3 HB
 have HO_3 := n0_
 have HB := n1_
 clear n0_ n1_
 refine start_ (n := 12) (S := fun w' => True) (ds := []) #[false, false, false, false, false, false, false, false, false, false, false, false] (by kernel_rfl) rfl rfl trivial (fun hHeld => ?_); refine with_tabW spec_l05Sorted.tab6 spec_l05Sorted.bits6 (fun HT_ HW_ => ?_)
 generalize wr.drew = w39 at HO_3 HB hHeld ⊢
 refine pure_ (i := 0) (N := some 16) (v := ?_) (a' := ?_) #[true, false, false, false, false, false, false, false, false, false, false, false] rfl rfl (any_of HT_.out (by kernel_rfl)) (fun _ _ _ h => h) (Or.inl ⟨by rfl, ?_⟩) ?_ ?_
 rotate_left
 {
 intro w'
 go_simp
 with_reducible rfl
 }
 rotate_left
 · simp only [Act.put, zs, zz, zk, i64_w, i32_w]; rfl
 refine pure_ (i := 1) (N := some 17) (v := ?_) (a' := ?_) #[true, true, false, false, false, false, false, false, false, false, false, false] rfl rfl (any_of HT_.out (by kernel_rfl)) (fun _ _ _ h => h) (Or.inl ⟨by rfl, ?_⟩) ?_ ?_
 rotate_left
 {
 intro w'
 go_simp
 with_reducible rfl
 }
 rotate_left
 · simp only [Act.put, zs, zz, zk, i64_w, i32_w]; rfl
 refine pure_ (i := 2) (N := some 18) (v := ?_) (a' := ?_) #[true, true, true, false, false, false, false, false, false, false, false, false] rfl rfl (any_of HT_.out (by kernel_rfl)) (fun _ _ _ h => h) (Or.inl ⟨by rfl, ?_⟩) ?_ ?_
 rotate_left
 {
 intro w'
 go_simp
 with_reducible rfl
 }
 rotate_left
 · simp only [Act.put, zs, zz, zk, i64_w, i32_w]; rfl
 refine pure_ (i := 3) (N := some 19) (v := undef) (a' := ?_) #[true, true, true, true, false, false, false, false, false, false, false, false] rfl rfl (any_of HT_.out (by kernel_rfl)) (fun _ _ _ h => h) (Or.inr ⟨by rfl, rfl⟩) ?_ ?_
 rotate_left
 · simp only [Act.put, zs, zz, zk, i64_w, i32_w]; rfl
 refine pure_ (i := 4) (N := some 20) (v := undef) (a' := ?_) #[true, true, true, true, true, false, false, false, false, false, false, false] rfl rfl (any_of HT_.out (by kernel_rfl)) (fun _ _ _ h => h) (Or.inr ⟨by rfl, rfl⟩) ?_ ?_
 rotate_left
 · simp only [Act.put, zs, zz, zk, i64_w, i32_w]; rfl
 refine pure_ (i := 5) (N := some 21) (v := undef) (a' := ?_) #[true, true, true, true, true, true, false, false, false, false, false, false] rfl rfl (any_of HT_.out (by kernel_rfl)) (fun _ _ _ h => h) (Or.inr ⟨by rfl, rfl⟩) ?_ ?_
 rotate_left
 · simp only [Act.put, zs, zz, zk, i64_w, i32_w]; rfl
 refine pure_ (i := 6) (N := some 22) (v := undef) (a' := ?_) #[true, true, true, true, true, true, true, false, false, false, false, false] rfl rfl (any_of HT_.out (by kernel_rfl)) (fun _ _ _ h => h) (Or.inr ⟨by rfl, rfl⟩) ?_ ?_
 rotate_left
 · simp only [Act.put, zs, zz, zk, i64_w, i32_w]; rfl
 refine pure_ (i := 7) (N := some 23) (v := undef) (a' := ?_) #[true, true, true, true, true, true, true, true, false, false, false, false] rfl rfl (any_of HT_.out (by kernel_rfl)) (fun _ _ _ h => h) (Or.inr ⟨by rfl, rfl⟩) ?_ ?_
 rotate_left
 · simp only [Act.put, zs, zz, zk, i64_w, i32_w]; rfl
 refine pure_ (i := 8) (N := some 24) (v := undef) (a' := ?_) #[true, true, true, true, true, true, true, true, true, false, false, false] rfl rfl (any_of HT_.out (by kernel_rfl)) (fun _ _ _ h => h) (Or.inr ⟨by rfl, rfl⟩) ?_ ?_
 rotate_left
 · simp only [Act.put, zs, zz, zk, i64_w, i32_w]; rfl
 refine pure_ (i := 9) (N := some 25) (v := undef) (a' := ?_) #[true, true, true, true, true, true, true, true, true, true, false, false] rfl rfl (any_of HT_.out (by kernel_rfl)) (fun _ _ _ h => h) (Or.inr ⟨by rfl, rfl⟩) ?_ ?_
 rotate_left
 · simp only [Act.put, zs, zz, zk, i64_w, i32_w]; rfl
 refine pure_ (i := 10) (N := some 26) (v := undef) (a' := ?_) #[true, true, true, true, true, true, true, true, true, true, true, false] rfl rfl (any_of HT_.out (by kernel_rfl)) (fun _ _ _ h => h) (Or.inr ⟨by rfl, rfl⟩) ?_ ?_
 rotate_left
 · simp only [Act.put, zs, zz, zk, i64_w, i32_w]; rfl
 refine pure_ (i := 11) (N := some 27) (v := ?_) (a' := ?_) #[true, true, true, true, true, true, true, true, true, true, true, true] rfl rfl (any_of HT_.out (by kernel_rfl)) (fun _ _ _ h => h) (Or.inl ⟨by rfl, ?_⟩) ?_ ?_
 rotate_left
 {
 intro w'
 go_simp
 with_reducible rfl
 }
 rotate_left
 · simp only [Act.put, zs, zz, zk, i64_w, i32_w]; rfl
 refine done_ (done_of HT_.out (by kernel_rfl)) ?_
 try go_wp2_with (first | ((with_reducible refine gate_dst (N := 30) rfl ?_); refine Kd.R_lit k44 _ 44 ?hg (N := 30) ?hd (xs := ([] : List (S44))) (inner := []) (ok := fun _ => True) (okp := fun _ => True) ?hr ?hp (fun _ hk => hk) trivial (Below.refl _ _) (Nat.le_refl _) (by simp) ?_; (case hd => rfl); (case hg => rfl); (case hr => first | (go_simp; done) | (go_simp; rfl)); (case hp => exact (Reps.none _ _)); intro v188 w40 ho41 hb hg_ hnew_; clear hg_ hnew_; (first | rw [← Ny187.out] at ho41 | (simp only [Int.reduceToNat] at ho41; rw [← Ny187.out] at ho41)); have n0_ := ak (Kd.R_elder' (zR HO_3.out) (Kd.R_base ho41) hb); have n1_ := ak (Kd.R_lower (Kd.R_new' ho41 (Kd.R_lt (zR HO_3.out))) (below_size (zB HB.out))); have n2_ := ak (below_step (zB HB.out) hb); clear HO_3 HB; have HO_3 := n0_; have HO189 := n1_; have HB := n2_; clear n0_ n1_ n2_; clear hb ho41; have q42 : (x5_2 : Int) ≤ ((x3_1.length : Int) : Int) := of_decide_eq_true (by first | (with_reducible assumption) | assumption); obtain ⟨i042, hi042, _, hsz42, _⟩ := info_parts info44; have hroom42 : x3_1.length ≤ co5 := (Kd.R_reads' HO_3.out).2.1; have hC42 : Kd.C k44 _ Ao5 x3_1.length x3_1 := (Kd.R_reads' HO_3.out).2.2; have q042 : (0 : Int) ≤ (x5_2 : Int) := of_decide_eq_true (by first | (with_reducible assumption) | assumption); have hcut42 := cut_from (P := Try.prog) 24 44 .i64 Try.underlying24 hi042 3 hsz42 Ao5 x3_1.length co5 x5_2 q042 q42; have hr42 := Kd.C_drop (m := (x5_2 : Int).toNat) (c := co5) hC42 (by omega) hroom42; obtain ⟨A42, hA42⟩ : ∃ Aq_, Aq_ = (if co5 = (x5_2 : Int).toNat then Ao5 else (Ao5 : Option Addr).map (·.add ((x5_2 : Int).toNat * 3))) := ⟨_, rfl⟩; obtain ⟨c42, hc42⟩ : ∃ cq_, cq_ = co5 - (x5_2 : Int).toNat := ⟨_, rfl⟩; have hy42 : y190.length = x3_1.length - (x5_2 : Int).toNat := (by rw [Ny190.out, List.length_drop] <;> omega); rw [show (x3_1).drop (x5_2 : Int).toNat = y190 from Ny190.out.symm] at hr42; replace hr42 : Kd.C k44 _ A42 y190.length y190 := (by rw [hA42]; exact hr42); rw [← hy42, ← hA42, ← hc42] at hcut42; have HR193 := ak hr42; have HC193 := ak (show y190.length ≤ c42 from by rw [hy42, hc42]; exact Nat.sub_le_sub_right hroom42 _); clear hr42 hC42 hroom42 hi042 hsz42 hc42; have KY42 := ak hy42; have KA42 := ak hA42; clear hy42 hA42; have KL42 := ak (show (x5_2 : Int).toNat ≤ x3_1.length from by omega); replace q42 := eq_true q42) | ((with_reducible refine gate_builtin (b := .append) (xs := #[.tmp 30, .tmp 33]) rfl ?_); at_builtin; refine Kd.R_append_rows k44 (w0 := w) w.heap.size rfl (.tmp 30) (.tmp 33) 24 44 (.agg #[(.int .i8 0), (.int .i8 0), (.int .i16 0)]) 4 rfl Try.underlying24 info44 rfl (by decide) (by omega) v188 y187 y190 _ _ _ (fun k_ => some k_ ≠ (.slice Ao5 x3_1.length co5 : Value).ownBlock) (fun _ => False) rfl rfl ?aO ?aR (fun _ _ h => h) (fun _ h => h.elim) ?aF ?aB ?aS ?aL ?_; (case aR => repeat (first | exact (zC HR193.out) | (with_reducible refine Kd.C_alloc ?_ _) | (with_reducible refine Kd.C_drewN ?_ _) | (with_reducible refine Kd.C_drew ?_))); (case aB => exact (zB HB.out)); (case aF => exact (fun k_ hk => Kd.fresh' (Kd.R_lt (zR HO_3.out)) k_ hk)); (case aO => exact (by (with_reducible repeat (first | apply Kd.R_alloc | apply Kd.R_drewN | apply Kd.R_drew)); exact Kd.R_mono HO189.out (fun _ hk => hk.2))); (case aS => exact (below_size (zB HB.out))); (case aL => have := LMc33.out; omega); intro v195 w43 ho hb hg hat; rw [← Ny194.out] at ho; have n0_ := ak (Kd.R_after (ok := (fun _ => True)) (zR HO_3.out) hg hat); have n1_ := ak (hb); have n2_ := ak ((show Kd.C k44 w43 A42 y190.length y190 from by rw [Ny190.out, KA42.out]; exact Kd.C_drop (m := (x5_2 : Int).toNat) (c := co5) ((Kd.R_reads' (Kd.R_after (ok := (fun _ => True)) (zR HO_3.out) hg hat)).2.2) KL42.out ((Kd.R_reads' (Kd.R_after (ok := (fun _ => True)) (zR HO_3.out) hg hat)).2.1))); have n3_ := ak (ho); clear HO_3 HB HR193 HO189; have HO_3 := n0_; have HB := n1_; have HR193 := n2_; have HO196 := n3_; clear n0_ n1_ n2_ n3_; clear ho hb hg hat))
 have n0_ := ak (Kd.R_drew HO_3.out)
 have n1_ := ak (Kd.R_drew HO196.out)
 have n2_ := ak (Kd.C_drew HR193.out)
 have n3_ := ak (below_drew1 HB.out)
 clear HO_3 HO196 HR193 HB
 have HO_3 := n0_
 have HO196 := n1_
 have HR193 := n2_
 have HB := n3_
 clear n0_ n1_ n2_ n3_
 have q45 : (x5_2 : Int) ≤ ((x3_1.length : Int) : Int) := of_decide_eq_true (by first | (with_reducible assumption) | assumption)
 obtain ⟨i045, hi045, _, hsz45, _⟩ := info_parts info44
 have hcut45 := cut_to (P := Try.prog) 24 44 .i64 Try.underlying24 hi045 Ao5 x3_1.length co5 x5_2 (of_decide_eq_true (by first | (with_reducible assumption) | assumption)) q45 (Kd.R_reads' HO_3.out).2.1
 have hr45 := Kd.R_take (m := (x5_2 : Int).toNat) HO_3.out (by omega)
 have hy45 : y197.length = (x5_2 : Int).toNat := (by rw [Ny197.out, List.length_take]; omega)
 rw [← Ny197.out] at hr45
 rw [← hy45] at hr45 hcut45
 clear hy45 hi045 hsz45 HO_3
 have HO199 := ak hr45
 clear hr45
 replace q45 := eq_true q45
 have p200 : 0 ≤ (x4_1 : Int) := of_decide_eq_true (by first | (with_reducible assumption) | assumption)
 have q200 : x4_1 < (l0.length : Int) := of_decide_eq_true (by first | (with_reducible assumption) | assumption)
 obtain ⟨ad200, e200, hx200_0, hx200_1, hx200_2⟩ := at_T44 HR0.out x4_1 p200 q200
 have hw200_2 := hx200_2
 have hw200_1 := hx200_1
 have hw200_0 := hx200_0
 cases e200
 replace hx200_0 := (HB.out.cell (World.block_lt_of_cell? w _ hx200_0)).trans hx200_0
 replace hx200_1 := (HB.out.cell (World.block_lt_of_cell? w _ hx200_1)).trans hx200_1
 replace hx200_2 := (HB.out.cell (World.block_lt_of_cell? w _ hx200_2)).trans hx200_2
 replace p200 := eq_true p200
 replace q200 := eq_true q200
 refine start_ (n := 12) (S := fun w' => w'.cell? (ad200.add ((x4_1).toNat * 3)) = some (.int .i8 ((rd_T44 l0 x4_1).f0)) ∧ w'.cell? ⟨(ad200.add ((x4_1).toNat * 3)).block, (ad200.add ((x4_1).toNat * 3)).off + 1, none⟩ = some (.int .i8 ((rd_T44 l0 x4_1).f1)) ∧ w'.cell? ⟨(ad200.add ((x4_1).toNat * 3)).block, (ad200.add ((x4_1).toNat * 3)).off + 2, none⟩ = some (.int .i16 ((rd_T44 l0 x4_1).f2))) (ds := []) #[false, false, false, false, false, false, false, false, false, false, false, false] (by kernel_rfl) rfl rfl ⟨((HB.out.cell (World.block_lt_of_cell? w _ hw200_0)).trans hw200_0), ((HB.out.cell (World.block_lt_of_cell? w _ hw200_1)).trans hw200_1), ((HB.out.cell (World.block_lt_of_cell? w _ hw200_2)).trans hw200_2)⟩ (fun hHeld => ?_); refine with_tabW spec_l05Sorted.tab9 spec_l05Sorted.bits9 (fun HT_ HW_ => ?_)
 generalize w43.drew = w44 at HO_3 HO196 HR193 HB HO199 hx200_0 hx200_1 hx200_2 hHeld ⊢
 refine pure_ (i := 0) (N := some 35) (v := ?_) (a' := ?_) #[true, false, false, false, false, false, false, false, false, false, false, false] rfl rfl (any_of HT_.out (by kernel_rfl)) (fun _ _ _ h => h) (Or.inl ⟨by rfl, ?_⟩) ?_ ?_
 rotate_left
 {
 intro w'
 go_simp
 with_reducible rfl
 }
 rotate_left
 · simp only [Act.put, zs, zz, zk, i64_w, i32_w]; rfl
 refine pure_ (i := 1) (N := some 36) (v := ?_) (a' := ?_) #[true, true, false, false, false, false, false, false, false, false, false, false] rfl rfl (any_of HT_.out (by kernel_rfl)) (fun _ _ _ h => h) (Or.inl ⟨by rfl, ?_⟩) ?_ ?_
 rotate_left
 {
 intro w'
 go_simp
 with_reducible rfl
 }
 rotate_left
 · simp only [Act.put, zs, zz, zk, i64_w, i32_w]; rfl
 refine pure_ (i := 2) (N := some 37) (v := ?_) (a' := ?_) #[true, true, true, false, false, false, false, false, false, false, false, false] rfl rfl (any_of HT_.out (by kernel_rfl)) (fun _ _ _ h => h) (Or.inl ⟨by rfl, ?_⟩) ?_ ?_
 rotate_left
 {
 intro w'
 go_simp
 with_reducible rfl
 }
 rotate_left
 · simp only [Act.put, zs, zz, zk, i64_w, i32_w]; rfl
 refine pure_ (i := 3) (N := some 38) (v := ?_) (a' := ?_) #[true, true, true, true, false, false, false, false, false, false, false, false] rfl rfl (any_of HT_.out (by kernel_rfl)) (fun _ _ _ h => h) (Or.inl ⟨by rfl, ?_⟩) ?_ ?_
 rotate_left
 {
 intro w'
 go_simp
 with_reducible rfl
 }
 rotate_left
 · simp only [Act.put, zs, zz, zk, i64_w, i32_w]; rfl
 refine pure_ (i := 4) (N := some 39) (v := ?_) (a' := ?_) #[true, true, true, true, true, false, false, false, false, false, false, false] rfl rfl (any_of HT_.out (by kernel_rfl)) (fun _ _ _ h => h) (Or.inl ⟨by rfl, ?_⟩) ?_ ?_
 rotate_left
 {
 intro w'
 go_simp
 with_reducible rfl
 }
 rotate_left
 · simp only [Act.put, zs, zz, zk, i64_w, i32_w]; rfl
 refine pure_ (i := 5) (N := some 40) (v := ?_) (a' := ?_) #[true, true, true, true, true, true, false, false, false, false, false, false] rfl rfl (any_of HT_.out (by kernel_rfl)) (fun _ _ _ h => h) (Or.inl ⟨by rfl, ?_⟩) ?_ ?_
 rotate_left
 {
 intro w'
 go_simp
 with_reducible rfl
 }
 rotate_left
 · simp only [Act.put, zs, zz, zk, i64_w, i32_w]; rfl
 refine pure_ (i := 9) (N := some 44) (v := ?_) (a' := ?_) #[true, true, true, true, true, true, false, false, false, true, false, false] rfl rfl (any_of HT_.out (by kernel_rfl)) (fun _ _ _ h => h) (Or.inl ⟨by rfl, ?_⟩) ?_ ?_
 rotate_left
 {
 intro w'
 go_simp
 with_reducible rfl
 }
 rotate_left
 · simp only [Act.put, zs, zz, zk, i64_w, i32_w]; rfl
 refine take_ (i := 6) (N := some 41) (v := ?_) (a' := ?_) #[true, true, true, true, true, true, true, false, false, true, false, false] rfl rfl (take_ofW HT_.out HW_.out (by kernel_rfl)) (fun _ _ _ h => h) (Or.inl ⟨by rfl, ?_⟩) hHeld ?_ ?_
 rotate_left
 {
 rintro w' ⟨s0, s1, s2⟩
 go_simp
 with_reducible rfl
 }
 rotate_left
 · simp only [Act.put, zs, zz, zk, i64_w, i32_w]; rfl
 refine one_ (i := 7) (N := some 42) #[true, true, true, true, true, true, true, true, false, true, false, false] rfl rfl (one_of HT_.out (by kernel_rfl)) (by decide) (fun K hK => ?_)
 refine value_ (w1 := ?_) (v := ?_) (by rfl) rfl ?_ ?_
 rotate_left 2
 {
 go_simp
 constructor
 · rfl
 · rfl
 }
 refine hK.out _ _ ⟨(World.cell?_alloc_lt _ _ _ (World.block_lt_of_cell? _ _ (((HB.out.cell (World.block_lt_of_cell? w _ hw200_0)).trans hw200_0)))).trans (((HB.out.cell (World.block_lt_of_cell? w _ hw200_0)).trans hw200_0)), (World.cell?_alloc_lt _ _ _ (World.block_lt_of_cell? _ _ (((HB.out.cell (World.block_lt_of_cell? w _ hw200_1)).trans hw200_1)))).trans (((HB.out.cell (World.block_lt_of_cell? w _ hw200_1)).trans hw200_1)), (World.cell?_alloc_lt _ _ _ (World.block_lt_of_cell? _ _ (((HB.out.cell (World.block_lt_of_cell? w _ hw200_2)).trans hw200_2)))).trans (((HB.out.cell (World.block_lt_of_cell? w _ hw200_2)).trans hw200_2))⟩ (fun hHeld => ?_)
 clear hK K
 refine norm_ (a' := ?_) ?_ ?_
 rotate_left
 {
 show Act.put _ (some 42) _ = _
 simp only [Act.put, zs, zz, zk, i64_w, i32_w]
 rfl
 }
 refine one_ (i := 8) (N := some 43) #[true, true, true, true, true, true, true, true, true, true, false, false] rfl rfl (one_of HT_.out (by kernel_rfl)) (by decide) (fun K hK => ?_)
 refine Kd.R_append_step k44 (w0 := w) w.heap.size (by rfl) (.tmp 37) (.tmp 42) 24 44 (.agg #[(.int .i8 0), (.int .i8 0), (.int .i16 0)]) 4 rfl Try.underlying24 info44 rfl (by decide) (by omega) (.slice Ao5 y197.length co5) y197 (⟨(rd_T44 l0 x4_1).f0, (rd_T44 l0 x4_1).f1, (rd_T44 l0 x4_1).f2⟩ : S44) [.int .i8 ((rd_T44 l0 x4_1).f0), .int .i8 ((rd_T44 l0 x4_1).f1), .int .i16 ((rd_T44 l0 x4_1).f2)] (fun k_ => some k_ ≠ (v195 : Value).ownBlock) (fun _ => False) rfl rfl ?aP (fun _ hk => hk.elim) ?aF ?aO ?aB ?aS ?aL ?_
 (case aP => exact k44_mkM _ _ _ (⟨(rd_T44 l0 x4_1).f0, (rd_T44 l0 x4_1).f1, (rd_T44 l0 x4_1).f2⟩ : S44))
 (case aB => exact (zB HB.out))
 (case aF => exact (fun k_ hk => Kd.fresh' (Kd.R_lt (zR HO196.out)) k_ hk))
 (case aO => exact (by (with_reducible repeat (first | apply Kd.R_alloc | apply Kd.R_drewN | apply Kd.R_drew)); exact Kd.R_mono HO199.out (fun _ hk => hk.2)))
 (case aS => exact (below_size (zB HB.out)))
 (case aL => have := LMc37.out; omega)
 intro v202 w46 ho hb hg hat
 rw [← Ny201.out] at ho
 have n0_ := ak (Kd.R_after (ok := (fun _ => True)) (by (with_reducible repeat (first | apply Kd.R_alloc | apply Kd.R_drewN | apply Kd.R_drew)); exact Kd.R_mono HO196.out (fun _ hk => ⟨trivial, by first | exact hk | exact own_len_ hk⟩)) hg hat)
 have n1_ := ak (hb)
 have n2_ := ak (ho)
 clear HO196 HB HO199
 have HO196 := n0_
 have HB := n1_
 have HO203 := n2_
 clear n0_ n1_ n2_ ho hb hg hat
 obtain ⟨Ao48, co48, eo48⟩ := Kd.R_slice HO196.out
 (first | subst eo48 | (injection eo48 with f1_ f2_ f3_; have f4_ := f1_.symm; have f5_ := f3_.symm; clear f1_ f2_ f3_; subst f4_; subst f5_))
 refine hK.out _ _ ⟨((HB.out.cell (World.block_lt_of_cell? w _ hw200_0)).trans hw200_0), ((HB.out.cell (World.block_lt_of_cell? w _ hw200_1)).trans hw200_1), ((HB.out.cell (World.block_lt_of_cell? w _ hw200_2)).trans hw200_2)⟩ (fun hHeld => ?_)
 clear hK K
 refine norm_ (a' := ?_) ?_ ?_
 rotate_left
 {
 show Act.put _ (some 43) _ = _
 simp only [Act.put, zs, zz, zk, i64_w, i32_w]
 rfl
 }
 refine one_ (i := 10) (N := some 45) #[true, true, true, true, true, true, true, true, true, true, true, false] rfl rfl (one_of HT_.out (by kernel_rfl)) (by decide) (fun K hK => ?_)
 refine Kd.R_append_rows_step k44 (w0 := w) w.heap.size (by rfl) (.tmp 43) (.tmp 44) 24 44 (.agg #[(.int .i8 0), (.int .i8 0), (.int .i16 0)]) 4 rfl Try.underlying24 info44 rfl (by decide) (by omega) v202 y201 y194 _ _ _ (fun k_ => some k_ ≠ (.slice Ao48 y194.length co48 : Value).ownBlock) (fun _ => False) rfl rfl ?aO ?aR (fun _ _ h => h) (fun _ h => h.elim) ?aF ?aB ?aS ?aL ?_
 (case aR => exact zC (Kd.R_reads' HO196.out).2.2)
 (case aB => exact (zB HB.out))
 (case aF => exact (fun k_ hk => Kd.fresh' (Kd.R_lt (zR HO196.out)) k_ hk))
 (case aO => exact (zR HO203.out))
 (case aS => exact (below_size (zB HB.out)))
 (case aL => have := LMc38.out; omega)
 intro v205 w47 ho hb hg hat
 rw [← Ny204.out] at ho
 have n0_ := ak (Kd.R_after (ok := (fun _ => True)) (zR HO196.out) hg hat)
 have n1_ := ak (hb)
 have n2_ := ak (ho)
 clear HO196 HB HO203
 have HO196 := n0_
 have HB := n1_
 have HO206 := n2_
 clear n0_ n1_ n2_ ho hb hg hat
 refine hK.out _ _ ⟨((HB.out.cell (World.block_lt_of_cell? w _ hw200_0)).trans hw200_0), ((HB.out.cell (World.block_lt_of_cell? w _ hw200_1)).trans hw200_1), ((HB.out.cell (World.block_lt_of_cell? w _ hw200_2)).trans hw200_2)⟩ (fun hHeld => ?_)
 clear hK K
 refine norm_ (a' := ?_) ?_ ?_
 rotate_left
 {
 show Act.put _ (some 45) _ = _
 simp only [Act.put, zs, zz, zk, i64_w, i32_w]
 rfl
 }
 refine pure_ (i := 11) (N := some 3) (v := ?_) (a' := ?_) #[true, true, true, true, true, true, true, true, true, true, true, true] rfl rfl (any_of HT_.out (by kernel_rfl)) (fun _ _ _ h => h) (Or.inl ⟨by rfl, ?_⟩) ?_ ?_
 rotate_left
 {
 intro w'
 go_simp
 with_reducible rfl
 }
 rotate_left
 · simp only [Act.put, zs, zz, zk, i64_w, i32_w]; rfl
 refine done_ (done_of HT_.out (by kernel_rfl)) ?_
 try go_wp2
 go_roundg k2
 case measure => have := HK1.out; have := HK2.out; omega
 case rel => exact ⟨(y204), (wrap64 (x4_1 + 1)), (by first | rfl | (simp; done) | (simp [*]; done)), H', ⟨by have := HK1.out; have := HK2.out; omega⟩, ⟨by (with_reducible repeat (first | apply Kd.R_alloc | apply Kd.R_drewN | apply Kd.R_drew)); exact Kd.R_mono HO206.out (fun _ hk => trivial)⟩, ⟨by repeat (first | (with_reducible first | exact HB.out | apply below_alloc | apply pw_below_drewN | apply below_drew1) | exact HB.out)⟩⟩
 }
 · rw [if_neg c38] at H; exact absurd H (by simp)
 }
 · rw [if_neg c37] at H; exact absurd H (by simp)
 }
 · rw [if_neg c36] at H; exact absurd H (by simp)
 }
 · rw [if_neg c35] at H; exact absurd H (by simp)
 }
 · rw [if_neg c33] at H; exact absurd H (by simp)
 }
 · rw [if_neg c32] at H; exact absurd H (by simp)
 }
 · rw [if_neg c31] at H; exact absurd H (by simp)
 }
 )
 )
 }
 {
 rw [if_neg c4] at H
 have c4b0 : decide (x4_1 < (l0.length : Int)) = false := decide_eq_false c4
 clear c4
 obtain rfl := Option.some.inj H
 go_wp2
 go_ret
 exact ⟨_, by first | rfl | (simp [errW_none, errW_some] <;> rfl) | (simp [*, errW_none, errW_some] <;> rfl), by (with_reducible repeat (first | apply Kd.R_alloc | apply Kd.R_drewN | apply Kd.R_drew)); exact HO_3.out, by repeat (first | (with_reducible first | exact HB.out | apply below_alloc | apply pw_below_drewN | apply below_drew1) | exact HB.out)⟩
 }
 )
 )
end Go.Proofs.Ytcjchobajjbhkaa.P
