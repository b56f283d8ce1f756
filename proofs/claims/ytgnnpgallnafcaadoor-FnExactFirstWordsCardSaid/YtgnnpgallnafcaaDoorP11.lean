-- Printed by wip/print (my turned copy of the kit's print) out of the translation; Lean checks it.
import Derived.Test.YtgnnpgallnafcaaDoorP0
import Derived.Test.YtgnnpgallnafcaaDoorP6
import Derived.Test.YtgnnpgallnafcaaDoorP7
import Derived.Test.YtgnnpgallnafcaaDoorP8
import Derived.Test.YtgnnpgallnafcaaDoorP10
namespace Go.Proofs.YtgnnpgallnafcaaDoor.P
open Go.RowKit Go.Proofs.YtgnnpgallnafcaaDoorW.PrintWords Go.Proofs.YtgnnpgallnafcaaDoorW.PrintLast Go.Proofs.YtgnnpgallnafcaaDoorW.PrintMore
attribute [local go_sem] max2_int min2_int max_two min_two max_three min_three max_four min_four   -- for this text's walks alone
set_option linter.unusedVariables false
set_option linter.unusedSimpArgs false

/-! ### laws_markHabitS: function 16 -/
def laws_markHabitS.l0 : Nat → List (S28) → Int → Int → Option (Int × (List (S28)))
  | 0, _, _, _ => none
  | k + 1, x0, x1, x5 => if x5 < (x0.length : Int) then (if 0 ≤ x5 then ((some (x0.set (x5 : Int).toNat (⟨IntKind.i8.wrap (x1), (rd_T28 x0 x5).f1, (rd_T28 x0 x5).f2⟩ : S28) : List (S28))).bind fun y339 => ((some (y339.set (x5 : Int).toNat (⟨(rd_T28 y339 x5).f0, (wrap64 (x1 + 1)) % 256, (rd_T28 y339 x5).f2⟩ : S28) : List (S28))).bind fun y340 => (laws_markHabitS.l0 k (y340.set (x5 : Int).toNat (⟨(rd_T28 y340 x5).f0, (rd_T28 y340 x5).f1, (wrap64 ((wrap64 (x1 + 1)) + 1)) % 256⟩ : S28)) (wrap64 ((wrap64 ((wrap64 (x1 + 1)) + 1)) + 1)) (wrap64 (x5 + 1))))) else (none)) else (some (x1, x0))
def laws_markHabitS.f (k : Nat) (l0 : List (S28)) (a1 : Int) : Option (Int × (List (S28))) := laws_markHabitS.l0 k l0 a1 0
theorem laws_markHabitS.mono_l : ∀ k, (∀ y0 y1 y2, LeO (laws_markHabitS.l0 k y0 y1 y2) (laws_markHabitS.l0 (k + 1) y0 y1 y2))
  | 0 => fun _ _ _ r h => by simp [laws_markHabitS.l0] at h
  | k + 1 => by
    have ih0 := laws_markHabitS.mono_l k
    · intro y0 y1 y2
      unfold laws_markHabitS.l0
      repeat' first
      | (with_reducible exact ih0 _ _ _)
      | (with_reducible exact LeO.refl _)
      | (with_reducible exact LeO.none _)
      | (with_reducible refine LeO.ite ?_ ?_)
      | (with_reducible refine LeO.bind ?_ (fun _ => ?_))
      | exact ih0 _ _ _
      | exact LeO.none _
      | refine LeO.ite ?_ ?_
      | refine LeO.bind ?_ (fun _ => ?_)
theorem laws_markHabitS.mono : ∀ a0 a1 k, LeO (laws_markHabitS.f k a0 a1) (laws_markHabitS.f (k + 1) a0 a1) := by
  intro a0 a1 k
  have ih0 := laws_markHabitS.mono_l k
  unfold laws_markHabitS.f
  repeat' first
      | (with_reducible exact ih0 _ _ _)
      | (with_reducible exact LeO.refl _)
      | (with_reducible exact LeO.none _)
      | (with_reducible refine LeO.ite ?_ ?_)
      | (with_reducible refine LeO.bind ?_ (fun _ => ?_))
      | exact ih0 _ _ _
      | exact LeO.none _
      | refine LeO.ite ?_ ?_
      | refine LeO.bind ?_ (fun _ => ?_)
set_option maxHeartbeats 8000000 in
set_option maxRecDepth 100000 in
theorem laws_markHabitS.calls (k : Nat) (P0_ : Nat → Prop) (u9000_ : Value) (l0 : List (S28)) (a1 : Int) (r1 : Int) (r2 : List (S28)) (w0 w : World) (hB : Below w0.heap.size w0 w) (ho0 : Kd.R k28 28 w w0.heap.size P0_ u9000_ l0) (h : laws_markHabitS.f k l0 a1 = some (r1, r2)) :
    Calls Tryd.prog 16 #[u9000_, .int .i64 a1] w fun e w' => e = .returned (.int .i64 r1) ∧ Kd.R k28 28 w' w0.heap.size (fun k_ => (P0_ k_ ∨ w.heap.size ≤ k_)) u9000_ r2 ∧ Below w0.heap.size w0 w' ∧ Kept w w' (fun k_ => P0_ k_) := by
 have HO0 := ak (show Kd.R k28 28 w w0.heap.size (fun k_ => (P0_ k_ ∨ w.heap.size ≤ k_)) u9000_ l0 from Kd.R_mono ho0 (fun k_ hk => (.inl hk)))
 have HK := ak (Kept.refl w (fun k_ => P0_ k_))
 have HW0 := ak hB.size
 have HB := ak hB
 clear hB
 have H : (laws_markHabitS.l0 k l0 a1 0) = some (r1, r2) := h
 clear h
 have H' := ak H
 clear H
 go_enter Tryd.func16, Tryd.ntmps16
 go_wp2
 go_loopg [1, 5] k (fun kq v1 v5 w' => ∃ (x0_1 : List (S28)) (x1_1 : Int) (x5_1 : Int), v1 = .int .i64 x1_1 ∧ v5 = .int .i64 x5_1 ∧ Aside0 (laws_markHabitS.l0 kq x0_1 x1_1 x5_1 = some (r1, r2)) ∧ Aside0 (kq ≤ k) ∧ Aside0 (Kd.R k28 28 w' w0.heap.size (fun k_ => (P0_ k_ ∨ w.heap.size ≤ k_)) u9000_ x0_1) ∧ Aside0 (Kept w w' (fun k_ => P0_ k_)) ∧ Aside0 (Below w0.heap.size w0 w'))
 case atStart => exact ⟨(l0), (a1), (0), (by first | rfl | (simp; done) | (simp [*]; done)), (by first | rfl | (simp; done) | (simp [*]; done)), H', ⟨Nat.le_refl _⟩, ⟨by (with_reducible repeat (first | apply Kd.R_alloc | apply Kd.R_drewN | apply Kd.R_drew)); exact HO0.out⟩, ⟨by repeat (first | (with_reducible first | exact HK.out | apply Kept.alloc | apply Kept.drewN | apply Kept.drew) | exact HK.out)⟩, ⟨by repeat (first | (with_reducible first | exact HB.out | apply below_alloc | apply pw_below_drewN | apply below_drew1) | exact HB.out)⟩⟩
 case round => (
 clear H'
 try clear c1
 try clear p2
 obtain ⟨x0_1, x1_1, x5_1, rfl, rfl, HA, HK1, HO_0, HK, HB⟩ := hrel
 cases gk with
 | zero => exact absurd HA.out (by simp [laws_markHabitS.l0])
 | succ k1 => (
 have H := HA.out
 clear HA
 simp only [laws_markHabitS.l0] at H
 by_cases c3 : x5_1 < (x0_1.length : Int)
 {
 rw [if_pos c3] at H
 have c3b0 : decide (x5_1 < (x0_1.length : Int)) = true := decide_eq_true c3
 clear c3
 by_cases c4 : 0 ≤ x5_1
 {
 rw [if_pos c4] at H
 have c4b0 : decide (0 ≤ x5_1) = true := decide_eq_true c4
 clear c4
 obtain ⟨y339, hy339⟩ : ∃ y_ : List (S28), y_ = (x0_1.set (x5_1 : Int).toNat (⟨IntKind.i8.wrap (x1_1), (rd_T28 x0_1 x5_1).f1, (rd_T28 x0_1 x5_1).f2⟩ : S28)) := ⟨_, rfl⟩
 replace H : ((some (y339.set (x5_1 : Int).toNat (⟨(rd_T28 y339 x5_1).f0, (wrap64 (x1_1 + 1)) % 256, (rd_T28 y339 x5_1).f2⟩ : S28) : List (S28))).bind fun y340 => (laws_markHabitS.l0 k1 (y340.set (x5_1 : Int).toNat (⟨(rd_T28 y340 x5_1).f0, (rd_T28 y340 x5_1).f1, (wrap64 ((wrap64 (x1_1 + 1)) + 1)) % 256⟩ : S28)) (wrap64 ((wrap64 ((wrap64 (x1_1 + 1)) + 1)) + 1)) (wrap64 (x5_1 + 1)))) = some (r1, r2) := by first | (rw [hy339]; with_reducible exact H) | (have H2_ := (Option.bind_some _ _).symm.trans H; rw [hy339]; with_reducible exact H2_) | (have H2_ := (Option.bind_some _ _).symm.trans H; with_reducible exact H2_) | with_reducible exact H | (rw [hy339]; exact H) | exact H
 have Ny339 := ak hy339
 clear hy339
 obtain ⟨y340, hy340⟩ : ∃ y_ : List (S28), y_ = (y339.set (x5_1 : Int).toNat (⟨(rd_T28 y339 x5_1).f0, (wrap64 (x1_1 + 1)) % 256, (rd_T28 y339 x5_1).f2⟩ : S28)) := ⟨_, rfl⟩
 replace H : (laws_markHabitS.l0 k1 (y340.set (x5_1 : Int).toNat (⟨(rd_T28 y340 x5_1).f0, (rd_T28 y340 x5_1).f1, (wrap64 ((wrap64 (x1_1 + 1)) + 1)) % 256⟩ : S28)) (wrap64 ((wrap64 ((wrap64 (x1_1 + 1)) + 1)) + 1)) (wrap64 (x5_1 + 1))) = some (r1, r2) := by first | (rw [hy340]; with_reducible exact H) | (have H2_ := (Option.bind_some _ _).symm.trans H; rw [hy340]; with_reducible exact H2_) | (have H2_ := (Option.bind_some _ _).symm.trans H; with_reducible exact H2_) | with_reducible exact H | (rw [hy340]; exact H) | exact H
 have Ny340 := ak hy340
 clear hy340
 obtain ⟨y341, hy341⟩ : ∃ y_ : List (S28), y_ = (y340.set (x5_1 : Int).toNat (⟨(rd_T28 y340 x5_1).f0, (rd_T28 y340 x5_1).f1, (wrap64 ((wrap64 (x1_1 + 1)) + 1)) % 256⟩ : S28)) := ⟨_, rfl⟩
 replace H : (laws_markHabitS.l0 k1 y341 (wrap64 ((wrap64 ((wrap64 (x1_1 + 1)) + 1)) + 1)) (wrap64 (x5_1 + 1))) = some (r1, r2) := by first | (rw [hy341]; with_reducible exact H) | (have H2_ := (Option.bind_some _ _).symm.trans H; rw [hy341]; with_reducible exact H2_) | (have H2_ := (Option.bind_some _ _).symm.trans H; with_reducible exact H2_) | with_reducible exact H | (rw [hy341]; exact H) | exact H
 have Ny341 := ak hy341
 clear hy341
 have H' := ak H
 clear H
 obtain ⟨Ao8, co8, eo8⟩ := Kd.R_slice HO_0.out
 subst eo8
 have p5 : 0 ≤ (x5_1 : Int) := of_decide_eq_true (by first | (with_reducible assumption) | assumption)
 have q5 : (x5_1 : Int) < ((x0_1.length : Int) : Int) := of_decide_eq_true (by first | (with_reducible assumption) | assumption)
 obtain ⟨go5, co5, eo5, gb5, gl5, cl5, HG5⟩ := Kd.R_form HO_0.out (by omega)
 (first | cases eo5 | (injection eo5 with ea_ en_ ec_; (first | subst ea_ | (injection ea_ with ea_; subst ea_)); subst ec_; clear en_))
 have GB5 := ak gb5
 have GG5 := ak HG5
 clear gb5 gl5 HG5
 have HMgo5 := ak (show (P0_ go5 ∨ w.heap.size ≤ go5) from (HO_0.out.1 _ rfl))
 obtain ⟨ce5, hcl5, hM5, hcc5, hfr5⟩ := Kd.R_elem HO_0.out z28 (x5_1 : Int) p5 q5
 obtain rfl := k28_openM hM5
 have hx5_0 : wr.cell? ⟨go5, (x5_1 : Int).toNat * 3, none⟩ = some (.int .i8 ((rd_T28 x0_1 x5_1).f0)) := hcc5 0 _ rfl
 have hx5_1 : wr.cell? ⟨go5, (x5_1 : Int).toNat * 3 + 1, none⟩ = some (.int .u8 ((rd_T28 x0_1 x5_1).f1)) := hcc5 1 _ rfl
 have hx5_2 : wr.cell? ⟨go5, (x5_1 : Int).toNat * 3 + 2, none⟩ = some (.int .u8 ((rd_T28 x0_1 x5_1).f2)) := hcc5 2 _ rfl
 have hf5_0 : wr.frozen? ⟨go5, (x5_1 : Int).toNat * 3, none⟩ = false := hfr5 0
 have hf5_1 : wr.frozen? ⟨go5, (x5_1 : Int).toNat * 3 + 1, none⟩ = false := hfr5 1
 have hf5_2 : wr.frozen? ⟨go5, (x5_1 : Int).toNat * 3 + 2, none⟩ = false := hfr5 2
 clear hcl5 hcc5 hfr5 hM5
 replace p5 := eq_true p5
 replace q5 := eq_true q5
 have HX9 := ak (show Kd.R k28 28 wr w0.heap.size (fun k_ => (P0_ k_ ∨ w.heap.size ≤ k_)) (.slice (some ⟨go5, 0, none⟩) x0_1.length co8) x0_1 from (zR HO_0.out))
 obtain ⟨ce9, hcl9, hM9, hcc9, hfr9⟩ := Kd.R_elem HX9.out z28 (x5_1 : Int) (of_decide_eq_true (by first | (with_reducible assumption) | assumption)) (by have h_ : (x5_1 : Int) < ((x0_1.length : Int) : Int) := of_decide_eq_true (by first | (with_reducible assumption) | assumption); first | exact h_ | (have e_ := (Kd.R_reads' HO_0.out).1; omega) | simpa using h_)
 obtain rfl := k28_openM hM9
 have HP9 := Kd.R_seg HX9.out (x5_1 : Int) (of_decide_eq_true (by first | (with_reducible assumption) | assumption)) (by have h_ : (x5_1 : Int) < ((x0_1.length : Int) : Int) := of_decide_eq_true (by first | (with_reducible assumption) | assumption); first | exact h_ | (have e_ := (Kd.R_reads' HO_0.out).1; omega) | simpa using h_) (seg := [.int .i8 (IntKind.i8.wrap (x1_1))]) (j := 0) hcl9 hcc9 (show 1 ≤ 3 from by decide) (x' := (⟨IntKind.i8.wrap (x1_1), (rd_T28 x0_1 x5_1).f1, (rd_T28 x0_1 x5_1).f2⟩ : S28)) (k28_mkM _ _ _ (⟨IntKind.i8.wrap (x1_1), (rd_T28 x0_1 x5_1).f1, (rd_T28 x0_1 x5_1).f2⟩ : S28) ) (fun _ hk => hk)
 have hx9_0 := hcc9 0 _ rfl
 (try simp only [show (k28).sz = 3 from rfl, Nat.mul_one, Nat.add_zero] at hx9_0)
 have hf9_0 := hfr9 0
 (try simp only [show (k28).sz = 3 from rfl, Nat.mul_one, Nat.add_zero] at hf9_0)
 clear hcl9 hcc9 hfr9 hM9
 go_wp2_with (first | ((with_reducible refine gate_store (t := 22) (p := 17) rfl ?_); refine store_event (t := 22) (p := 17) (v := ?vo_w10) (w1 := (wr.setCell ⟨go5, (x5_1 : Int).toNat * 3, none⟩ (.int .i8 (IntKind.i8.wrap (x1_1))))) ?hg ?ho ?hn ?hr ?_; (case ho => rfl); (case hg => rfl); (case hn => rfl); (case hr => first | (go_simp; done) | (go_simp; rfl)); intro w10 hw; have hg : wr.grownBy w10 (some go5) := (by rw [hw]; exact HP9.2); have hp_ : Kd.R k28 28 w10 w0.heap.size (fun k_ => (P0_ k_ ∨ w.heap.size ≤ k_)) (.slice (some ⟨go5, 0, none⟩) x0_1.length co8) y339 := (by rw [hw, Ny339.out]; exact HP9.1); clear HP9; have n0_ := ak (hp_); have n1_ := ak ((by rw [hw]; exact below_set (HB.out) GB5.out : Below w0.heap.size w0 w10)); have n2_ := ak (Kept.of_grown (S := (fun k_ => P0_ k_)) hg (by repeat (first | (with_reducible first | exact HK.out | apply Kept.alloc | apply Kept.drewN | apply Kept.drew) | exact HK.out)) (fun k_ e_ => (HO_0.out.1 k_ e_))); clear HO_0 HB HK; have HO_0 := n0_; have HB := n1_; have HK := n2_; clear n0_ n1_ n2_; clear hg hw hp_; have p6 : 0 ≤ (x5_1 : Int) := of_decide_eq_true (by first | (with_reducible assumption) | assumption); have q6 : (x5_1 : Int) < ((x0_1.length : Int) : Int) := of_decide_eq_true (by first | (with_reducible assumption) | assumption); obtain ⟨ce6, hcl6, hM6, hcc6, hfr6⟩ := Kd.R_elem HO_0.out z28 (x5_1 : Int) p6 q6; obtain rfl := k28_openM hM6; have hx6_0 : w10.cell? ⟨go5, (x5_1 : Int).toNat * 3, none⟩ = some (.int .i8 ((rd_T28 y339 x5_1).f0)) := hcc6 0 _ rfl; have hx6_1 : w10.cell? ⟨go5, (x5_1 : Int).toNat * 3 + 1, none⟩ = some (.int .u8 ((rd_T28 y339 x5_1).f1)) := hcc6 1 _ rfl; have hx6_2 : w10.cell? ⟨go5, (x5_1 : Int).toNat * 3 + 2, none⟩ = some (.int .u8 ((rd_T28 y339 x5_1).f2)) := hcc6 2 _ rfl; have hf6_0 : w10.frozen? ⟨go5, (x5_1 : Int).toNat * 3, none⟩ = false := hfr6 0; have hf6_1 : w10.frozen? ⟨go5, (x5_1 : Int).toNat * 3 + 1, none⟩ = false := hfr6 1; have hf6_2 : w10.frozen? ⟨go5, (x5_1 : Int).toNat * 3 + 2, none⟩ = false := hfr6 2; clear hcl6 hcc6 hfr6 hM6; replace p6 := eq_true p6; replace q6 := eq_true q6; have HX11 := ak (show Kd.R k28 28 w10 w0.heap.size (fun k_ => (P0_ k_ ∨ w.heap.size ≤ k_)) (.slice (some ⟨go5, 0, none⟩) x0_1.length co8) y339 from (zR HO_0.out)); obtain ⟨ce11, hcl11, hM11, hcc11, hfr11⟩ := Kd.R_elem HX11.out z28 (x5_1 : Int) (of_decide_eq_true (by first | (with_reducible assumption) | assumption)) (by have h_ : (x5_1 : Int) < ((x0_1.length : Int) : Int) := of_decide_eq_true (by first | (with_reducible assumption) | assumption); first | exact h_ | (have e_ := (Kd.R_reads' HO_0.out).1; omega) | simpa using h_); obtain rfl := k28_openM hM11; have HP11 := Kd.R_seg HX11.out (x5_1 : Int) (of_decide_eq_true (by first | (with_reducible assumption) | assumption)) (by have h_ : (x5_1 : Int) < ((x0_1.length : Int) : Int) := of_decide_eq_true (by first | (with_reducible assumption) | assumption); first | exact h_ | (have e_ := (Kd.R_reads' HO_0.out).1; omega) | simpa using h_) (seg := [.int .u8 ((wrap64 (x1_1 + 1)) % 256)]) (j := 1) hcl11 hcc11 (show 2 ≤ 3 from by decide) (x' := (⟨(rd_T28 y339 x5_1).f0, (wrap64 (x1_1 + 1)) % 256, (rd_T28 y339 x5_1).f2⟩ : S28)) (k28_mkM _ _ _ (⟨(rd_T28 y339 x5_1).f0, (wrap64 (x1_1 + 1)) % 256, (rd_T28 y339 x5_1).f2⟩ : S28) ) (fun _ hk => hk); have hx11_1 := hcc11 1 _ rfl; (try simp only [show (k28).sz = 3 from rfl, Nat.mul_one, Nat.add_zero] at hx11_1); have hf11_1 := hfr11 1; (try simp only [show (k28).sz = 3 from rfl, Nat.mul_one, Nat.add_zero] at hf11_1); clear hcl11 hcc11 hfr11 hM11) | ((with_reducible refine gate_store (t := 5) (p := 25) rfl ?_); refine store_event (t := 5) (p := 25) (v := ?vo_w12) (w1 := (w10.setCell ⟨go5, (x5_1 : Int).toNat * 3 + 1, none⟩ (.int .u8 ((wrap64 (x1_1 + 1)) % 256)))) ?hg ?ho ?hn ?hr ?_; (case ho => rfl); (case hg => rfl); (case hn => rfl); (case hr => first | (go_simp; done) | (go_simp; rfl)); intro w12 hw; have hg : w10.grownBy w12 (some go5) := (by rw [hw]; exact HP11.2); have hp_ : Kd.R k28 28 w12 w0.heap.size (fun k_ => (P0_ k_ ∨ w.heap.size ≤ k_)) (.slice (some ⟨go5, 0, none⟩) x0_1.length co8) y340 := (by rw [hw, Ny340.out]; exact HP11.1); clear HP11; have n0_ := ak (hp_); have n1_ := ak ((by rw [hw]; exact below_set (HB.out) GB5.out : Below w0.heap.size w0 w12)); have n2_ := ak (Kept.of_grown (S := (fun k_ => P0_ k_)) hg (by repeat (first | (with_reducible first | exact HK.out | apply Kept.alloc | apply Kept.drewN | apply Kept.drew) | exact HK.out)) (fun k_ e_ => (HO_0.out.1 k_ e_))); clear HO_0 HB HK; have HO_0 := n0_; have HB := n1_; have HK := n2_; clear n0_ n1_ n2_; clear hg hw hp_; have p7 : 0 ≤ (x5_1 : Int) := of_decide_eq_true (by first | (with_reducible assumption) | assumption); have q7 : (x5_1 : Int) < ((x0_1.length : Int) : Int) := of_decide_eq_true (by first | (with_reducible assumption) | assumption); obtain ⟨ce7, hcl7, hM7, hcc7, hfr7⟩ := Kd.R_elem HO_0.out z28 (x5_1 : Int) p7 q7; obtain rfl := k28_openM hM7; have hx7_0 : w12.cell? ⟨go5, (x5_1 : Int).toNat * 3, none⟩ = some (.int .i8 ((rd_T28 y340 x5_1).f0)) := hcc7 0 _ rfl; have hx7_1 : w12.cell? ⟨go5, (x5_1 : Int).toNat * 3 + 1, none⟩ = some (.int .u8 ((rd_T28 y340 x5_1).f1)) := hcc7 1 _ rfl; have hx7_2 : w12.cell? ⟨go5, (x5_1 : Int).toNat * 3 + 2, none⟩ = some (.int .u8 ((rd_T28 y340 x5_1).f2)) := hcc7 2 _ rfl; have hf7_0 : w12.frozen? ⟨go5, (x5_1 : Int).toNat * 3, none⟩ = false := hfr7 0; have hf7_1 : w12.frozen? ⟨go5, (x5_1 : Int).toNat * 3 + 1, none⟩ = false := hfr7 1; have hf7_2 : w12.frozen? ⟨go5, (x5_1 : Int).toNat * 3 + 2, none⟩ = false := hfr7 2; clear hcl7 hcc7 hfr7 hM7; replace p7 := eq_true p7; replace q7 := eq_true q7; have HX13 := ak (show Kd.R k28 28 w12 w0.heap.size (fun k_ => (P0_ k_ ∨ w.heap.size ≤ k_)) (.slice (some ⟨go5, 0, none⟩) x0_1.length co8) y340 from (zR HO_0.out)); obtain ⟨ce13, hcl13, hM13, hcc13, hfr13⟩ := Kd.R_elem HX13.out z28 (x5_1 : Int) (of_decide_eq_true (by first | (with_reducible assumption) | assumption)) (by have h_ : (x5_1 : Int) < ((x0_1.length : Int) : Int) := of_decide_eq_true (by first | (with_reducible assumption) | assumption); first | exact h_ | (have e_ := (Kd.R_reads' HO_0.out).1; omega) | simpa using h_); obtain rfl := k28_openM hM13; have HP13 := Kd.R_seg HX13.out (x5_1 : Int) (of_decide_eq_true (by first | (with_reducible assumption) | assumption)) (by have h_ : (x5_1 : Int) < ((x0_1.length : Int) : Int) := of_decide_eq_true (by first | (with_reducible assumption) | assumption); first | exact h_ | (have e_ := (Kd.R_reads' HO_0.out).1; omega) | simpa using h_) (seg := [.int .u8 ((wrap64 ((wrap64 (x1_1 + 1)) + 1)) % 256)]) (j := 2) hcl13 hcc13 (show 3 ≤ 3 from by decide) (x' := (⟨(rd_T28 y340 x5_1).f0, (rd_T28 y340 x5_1).f1, (wrap64 ((wrap64 (x1_1 + 1)) + 1)) % 256⟩ : S28)) (k28_mkM _ _ _ (⟨(rd_T28 y340 x5_1).f0, (rd_T28 y340 x5_1).f1, (wrap64 ((wrap64 (x1_1 + 1)) + 1)) % 256⟩ : S28) ) (fun _ hk => hk); have hx13_2 := hcc13 2 _ rfl; (try simp only [show (k28).sz = 3 from rfl, Nat.mul_one, Nat.add_zero] at hx13_2); have hf13_2 := hfr13 2; (try simp only [show (k28).sz = 3 from rfl, Nat.mul_one, Nat.add_zero] at hf13_2); clear hcl13 hcc13 hfr13 hM13) | ((with_reducible refine gate_store (t := 5) (p := 33) rfl ?_); refine store_event (t := 5) (p := 33) (v := ?vo_w14) (w1 := (w12.setCell ⟨go5, (x5_1 : Int).toNat * 3 + 2, none⟩ (.int .u8 ((wrap64 ((wrap64 (x1_1 + 1)) + 1)) % 256)))) ?hg ?ho ?hn ?hr ?_; (case ho => rfl); (case hg => rfl); (case hn => rfl); (case hr => first | (go_simp; done) | (go_simp; rfl)); intro w14 hw; have hg : w12.grownBy w14 (some go5) := (by rw [hw]; exact HP13.2); have hp_ : Kd.R k28 28 w14 w0.heap.size (fun k_ => (P0_ k_ ∨ w.heap.size ≤ k_)) (.slice (some ⟨go5, 0, none⟩) x0_1.length co8) y341 := (by rw [hw, Ny341.out]; exact HP13.1); clear HP13; have n0_ := ak (hp_); have n1_ := ak ((by rw [hw]; exact below_set (HB.out) GB5.out : Below w0.heap.size w0 w14)); have n2_ := ak (Kept.of_grown (S := (fun k_ => P0_ k_)) hg (by repeat (first | (with_reducible first | exact HK.out | apply Kept.alloc | apply Kept.drewN | apply Kept.drew) | exact HK.out)) (fun k_ e_ => (HO_0.out.1 k_ e_))); clear HO_0 HB HK; have HO_0 := n0_; have HB := n1_; have HK := n2_; clear n0_ n1_ n2_; clear hg hw hp_))
 go_roundg k1
 case measure => have := HK1.out; omega
 case rel => exact ⟨(y341), (wrap64 ((wrap64 ((wrap64 (x1_1 + 1)) + 1)) + 1)), (wrap64 (x5_1 + 1)), (by first | rfl | (simp; done) | (simp [*]; done)), (by first | rfl | (simp; done) | (simp [*]; done)), H', ⟨by have := HK1.out; omega⟩, ⟨by (with_reducible repeat (first | apply Kd.R_alloc | apply Kd.R_drewN | apply Kd.R_drew)); exact HO_0.out⟩, ⟨by repeat (first | (with_reducible first | exact HK.out | apply Kept.alloc | apply Kept.drewN | apply Kept.drew) | exact HK.out)⟩, ⟨by repeat (first | (with_reducible first | exact HB.out | apply below_alloc | apply pw_below_drewN | apply below_drew1) | exact HB.out)⟩⟩
 }
 · rw [if_neg c4] at H; exact absurd H (by simp)
 }
 {
 rw [if_neg c3] at H
 have c3b0 : decide (x5_1 < (x0_1.length : Int)) = false := decide_eq_false c3
 clear c3
 simp only [Option.some.injEq, Prod.mk.injEq] at H
 obtain ⟨rfl, rfl⟩ := H
 obtain ⟨Ao15, co15, eo15⟩ := Kd.R_slice HO_0.out
 subst eo15
 go_wp2
 go_ret
 exact ⟨by first | rfl | (simp [errW_none, errW_some] <;> rfl) | (simp [*, errW_none, errW_some] <;> rfl), by (with_reducible repeat (first | apply Kd.R_alloc | apply Kd.R_drewN | apply Kd.R_drew)); exact HO_0.out, by repeat (first | (with_reducible first | exact HB.out | apply below_alloc | apply pw_below_drewN | apply below_drew1) | exact HB.out), by repeat (first | (with_reducible first | exact HK.out | apply Kept.alloc | apply Kept.drewN | apply Kept.drew) | exact HK.out)⟩
 }
 )
 )
/-! ### laws_FnExactFirstWords: function 4 -/
mutual
noncomputable def laws_FnExactFirstWords.j0 : Nat → List (S24) → ByteArray → List ByteArray → Int → List (S28) → List ByteArray → Int → Bool → Int → Option (Bool)
  | 0, _, _, _, _, _, _, _, _, _ => none
  | k + 1, x0, x1, x6, x7, x8, x9, x10, x47, x978000 => if x47 = true then (some false) else ((laws_toHabitS.f k x0).bind fun t358 => ((laws_eqHabitS.f k x8 t358).bind fun t361 => (if t361 = true then ((laws_markHabitS.f k x8 1).bind fun bt362 => (if bt362.1 < 0 then (laws_FnExactFirstWords.j1 k x0 x1 x6 x7 x9 true x978000) else ((laws_eqStringS.f k x9 x6).bind fun t364 => (if t364 = true then (laws_FnExactFirstWords.j1 k x0 x1 x6 x7 x9 (x10 != x7) x978000) else (laws_FnExactFirstWords.j1 k x0 x1 x6 x7 x9 true x978000))))) else (some false))))
noncomputable def laws_FnExactFirstWords.j1 : Nat → List (S24) → ByteArray → List ByteArray → Int → List ByteArray → Bool → Int → Option (Bool)
  | 0, _, _, _, _, _, _, _ => none
  | k + 1, x0, x1, x6, x7, x9, x68, x978000 => if x68 = true then (some false) else ((laws_markStringS.f k x9 1).bind fun bt365 => ((laws_heldStringS.f k bt365.2 1).bind fun t367 => (if t367 < 0 then (some false) else (if t367 = bt365.1 then ((laws_toHabitS.f k x0).bind fun t368 => ((impl_FirstWords.f k t368 x1 x978000).bind fun bt371 => ((laws_eqStringS.f k bt371.1 x6).bind fun t375 => (if t375 = true then (laws_FnExactFirstWords.j2 k bt365.2 bt365.1 (bt371.2 != x7)) else (laws_FnExactFirstWords.j2 k bt365.2 bt365.1 true))))) else (some false)))))
noncomputable def laws_FnExactFirstWords.j2 : Nat → List ByteArray → Int → Bool → Option (Bool)
  | 0, _, _, _ => none
  | k + 1, x9, x12, x95 => if x95 = true then (some false) else ((laws_heldStringS.f k x9 1).bind fun t376 => (if t376 < 0 then (some false) else (if t376 = x12 then (some true) else (some false))))
end
noncomputable def laws_FnExactFirstWords.f (k : Nat) (l0 : List (S24)) (a1 : ByteArray) (a977_0 : Int) : Option (Bool) := if (a1.size : Int) > 1048576 then (some true) else ((laws_szHabitS.f l0 1048576).bind fun t342 => (if t342 < 0 then (some true) else ((laws_toHabitS.f k l0).bind fun t343 => ((spec_FirstWords.f k t343 a1).bind fun bt346 => ((laws_toHabitS.f k l0).bind fun t350 => ((impl_FirstWords.f k t350 a1 a977_0).bind fun bt353 => ((laws_eqStringS.f k bt353.1 bt346.1).bind fun t357 => (if t357 = true then (laws_FnExactFirstWords.j0 k l0 a1 bt346.1 bt346.2 t350 bt353.1 bt353.2 (bt353.2 != bt346.2) a977_0) else (laws_FnExactFirstWords.j0 k l0 a1 bt346.1 bt346.2 t350 bt353.1 bt353.2 true a977_0)))))))))
theorem laws_FnExactFirstWords.mono_l : ∀ k, (∀ y0 y1 y2 y3 y4 y5 y6 y7 y8, LeO (laws_FnExactFirstWords.j0 k y0 y1 y2 y3 y4 y5 y6 y7 y8) (laws_FnExactFirstWords.j0 (k + 1) y0 y1 y2 y3 y4 y5 y6 y7 y8)) ∧ (∀ y0 y1 y2 y3 y4 y5 y6, LeO (laws_FnExactFirstWords.j1 k y0 y1 y2 y3 y4 y5 y6) (laws_FnExactFirstWords.j1 (k + 1) y0 y1 y2 y3 y4 y5 y6)) ∧ (∀ y0 y1 y2, LeO (laws_FnExactFirstWords.j2 k y0 y1 y2) (laws_FnExactFirstWords.j2 (k + 1) y0 y1 y2))
  | 0 => ⟨fun _ _ _ _ _ _ _ _ _ r h => by simp [laws_FnExactFirstWords.j0] at h, fun _ _ _ _ _ _ _ r h => by simp [laws_FnExactFirstWords.j1] at h, fun _ _ _ r h => by simp [laws_FnExactFirstWords.j2] at h⟩
  | k + 1 => by
    obtain ⟨ih0, ih1, ih2⟩ := laws_FnExactFirstWords.mono_l k
    refine ⟨?_, ?_, ?_⟩
    · intro y0 y1 y2 y3 y4 y5 y6 y7 y8
      unfold laws_FnExactFirstWords.j0
      repeat' first
      | (with_reducible exact ih0 _ _ _ _ _ _ _ _ _)
      | (with_reducible exact ih1 _ _ _ _ _ _ _)
      | (with_reducible exact ih2 _ _ _)
      | (with_reducible exact impl_FirstWords.mono _ _ _ _)
      | (with_reducible exact laws_eqHabitS.mono _ _ _)
      | (with_reducible exact laws_eqStringS.mono _ _ _)
      | (with_reducible exact laws_heldStringS.mono _ _ _)
      | (with_reducible exact laws_markHabitS.mono _ _ _)
      | (with_reducible exact laws_markStringS.mono _ _ _)
      | (with_reducible exact laws_toHabitS.mono _ _)
      | (with_reducible exact spec_FirstWords.mono _ _ _)
      | (with_reducible exact LeO.refl _)
      | (with_reducible exact LeO.none _)
      | (with_reducible refine LeO.ite ?_ ?_)
      | (with_reducible refine LeO.bind ?_ (fun _ => ?_))
      | exact ih0 _ _ _ _ _ _ _ _ _
      | exact ih1 _ _ _ _ _ _ _
      | exact ih2 _ _ _
      | exact impl_FirstWords.mono _ _ _ _
      | exact laws_eqHabitS.mono _ _ _
      | exact laws_eqStringS.mono _ _ _
      | exact laws_heldStringS.mono _ _ _
      | exact laws_markHabitS.mono _ _ _
      | exact laws_markStringS.mono _ _ _
      | exact laws_toHabitS.mono _ _
      | exact spec_FirstWords.mono _ _ _
      | exact LeO.none _
      | refine LeO.ite ?_ ?_
      | refine LeO.bind ?_ (fun _ => ?_)
    · intro y0 y1 y2 y3 y4 y5 y6
      unfold laws_FnExactFirstWords.j1
      repeat' first
      | (with_reducible exact ih0 _ _ _ _ _ _ _ _ _)
      | (with_reducible exact ih1 _ _ _ _ _ _ _)
      | (with_reducible exact ih2 _ _ _)
      | (with_reducible exact impl_FirstWords.mono _ _ _ _)
      | (with_reducible exact laws_eqHabitS.mono _ _ _)
      | (with_reducible exact laws_eqStringS.mono _ _ _)
      | (with_reducible exact laws_heldStringS.mono _ _ _)
      | (with_reducible exact laws_markHabitS.mono _ _ _)
      | (with_reducible exact laws_markStringS.mono _ _ _)
      | (with_reducible exact laws_toHabitS.mono _ _)
      | (with_reducible exact spec_FirstWords.mono _ _ _)
      | (with_reducible exact LeO.refl _)
      | (with_reducible exact LeO.none _)
      | (with_reducible refine LeO.ite ?_ ?_)
      | (with_reducible refine LeO.bind ?_ (fun _ => ?_))
      | exact ih0 _ _ _ _ _ _ _ _ _
      | exact ih1 _ _ _ _ _ _ _
      | exact ih2 _ _ _
      | exact impl_FirstWords.mono _ _ _ _
      | exact laws_eqHabitS.mono _ _ _
      | exact laws_eqStringS.mono _ _ _
      | exact laws_heldStringS.mono _ _ _
      | exact laws_markHabitS.mono _ _ _
      | exact laws_markStringS.mono _ _ _
      | exact laws_toHabitS.mono _ _
      | exact spec_FirstWords.mono _ _ _
      | exact LeO.none _
      | refine LeO.ite ?_ ?_
      | refine LeO.bind ?_ (fun _ => ?_)
    · intro y0 y1 y2
      unfold laws_FnExactFirstWords.j2
      repeat' first
      | (with_reducible exact ih0 _ _ _ _ _ _ _ _ _)
      | (with_reducible exact ih1 _ _ _ _ _ _ _)
      | (with_reducible exact ih2 _ _ _)
      | (with_reducible exact impl_FirstWords.mono _ _ _ _)
      | (with_reducible exact laws_eqHabitS.mono _ _ _)
      | (with_reducible exact laws_eqStringS.mono _ _ _)
      | (with_reducible exact laws_heldStringS.mono _ _ _)
      | (with_reducible exact laws_markHabitS.mono _ _ _)
      | (with_reducible exact laws_markStringS.mono _ _ _)
      | (with_reducible exact laws_toHabitS.mono _ _)
      | (with_reducible exact spec_FirstWords.mono _ _ _)
      | (with_reducible exact LeO.refl _)
      | (with_reducible exact LeO.none _)
      | (with_reducible refine LeO.ite ?_ ?_)
      | (with_reducible refine LeO.bind ?_ (fun _ => ?_))
      | exact ih0 _ _ _ _ _ _ _ _ _
      | exact ih1 _ _ _ _ _ _ _
      | exact ih2 _ _ _
      | exact impl_FirstWords.mono _ _ _ _
      | exact laws_eqHabitS.mono _ _ _
      | exact laws_eqStringS.mono _ _ _
      | exact laws_heldStringS.mono _ _ _
      | exact laws_markHabitS.mono _ _ _
      | exact laws_markStringS.mono _ _ _
      | exact laws_toHabitS.mono _ _
      | exact spec_FirstWords.mono _ _ _
      | exact LeO.none _
      | refine LeO.ite ?_ ?_
      | refine LeO.bind ?_ (fun _ => ?_)
theorem laws_FnExactFirstWords.mono : ∀ a0 a1 a2 k, LeO (laws_FnExactFirstWords.f k a0 a1 a2) (laws_FnExactFirstWords.f (k + 1) a0 a1 a2) := by
  intro a0 a1 a2 k
  obtain ⟨ih0, ih1, ih2⟩ := laws_FnExactFirstWords.mono_l k
  unfold laws_FnExactFirstWords.f
  repeat' first
      | (with_reducible exact ih0 _ _ _ _ _ _ _ _ _)
      | (with_reducible exact ih1 _ _ _ _ _ _ _)
      | (with_reducible exact ih2 _ _ _)
      | (with_reducible exact impl_FirstWords.mono _ _ _ _)
      | (with_reducible exact laws_eqHabitS.mono _ _ _)
      | (with_reducible exact laws_eqStringS.mono _ _ _)
      | (with_reducible exact laws_heldStringS.mono _ _ _)
      | (with_reducible exact laws_markHabitS.mono _ _ _)
      | (with_reducible exact laws_markStringS.mono _ _ _)
      | (with_reducible exact laws_toHabitS.mono _ _)
      | (with_reducible exact spec_FirstWords.mono _ _ _)
      | (with_reducible exact LeO.refl _)
      | (with_reducible exact LeO.none _)
      | (with_reducible refine LeO.ite ?_ ?_)
      | (with_reducible refine LeO.bind ?_ (fun _ => ?_))
      | exact ih0 _ _ _ _ _ _ _ _ _
      | exact ih1 _ _ _ _ _ _ _
      | exact ih2 _ _ _
      | exact impl_FirstWords.mono _ _ _ _
      | exact laws_eqHabitS.mono _ _ _
      | exact laws_eqStringS.mono _ _ _
      | exact laws_heldStringS.mono _ _ _
      | exact laws_markHabitS.mono _ _ _
      | exact laws_markStringS.mono _ _ _
      | exact laws_toHabitS.mono _ _
      | exact spec_FirstWords.mono _ _ _
      | exact LeO.none _
      | refine LeO.ite ?_ ?_
      | refine LeO.bind ?_ (fun _ => ?_)
set_option maxHeartbeats 8000000 in
set_option maxRecDepth 100000 in
theorem laws_FnExactFirstWords.calls (k : Nat) (A0 : Option Addr) (c0 : Nat) (l0 : List (S24)) (a1 : ByteArray) (a977_0 : Int) (r : Bool) (w : World) (hr0 : Kd.C k24 w A0 l0.length l0) (hc0 : l0.length ≤ c0) (hx977 : w.heap[0]? = some (.cells #[.int .i64 a977_0] 3 (0, 0))) (hT : r = true) (h : laws_FnExactFirstWords.f k l0 a1 a977_0 = some r) :
    Calls Tryd.prog 4 #[.slice A0 l0.length c0, .string a1] w fun e w' => e = .returned (.bool r) ∧ Below w.heap.size w w' := by
 have HR0 := ak hr0
 have HC0 := ak hc0
 clear hr0 hc0
 have HT := ak hT
 clear hT
 have BK977 := ak hx977
 clear hx977
 have HB := ak (Below.refl w.heap.size w)
 have H : (if (a1.size : Int) > 1048576 then (some true) else ((laws_szHabitS.f l0 1048576).bind fun t342 => (if t342 < 0 then (some true) else ((laws_toHabitS.f k l0).bind fun t343 => ((spec_FirstWords.f k t343 a1).bind fun bt346 => ((laws_toHabitS.f k l0).bind fun t350 => ((impl_FirstWords.f k t350 a1 a977_0).bind fun bt353 => ((laws_eqStringS.f k bt353.1 bt346.1).bind fun t357 => (if t357 = true then (laws_FnExactFirstWords.j0 k l0 a1 bt346.1 bt346.2 t350 bt353.1 bt353.2 (bt353.2 != bt346.2) a977_0) else (laws_FnExactFirstWords.j0 k l0 a1 bt346.1 bt346.2 t350 bt353.1 bt353.2 true a977_0)))))))))) = some r := h
 clear h
 by_cases c4 : (a1.size : Int) > 1048576
 {
 rw [if_pos c4] at H
 have c4b0 : decide (1048576 < (a1.size : Int)) = true := decide_eq_true c4
 have c4b1 : decide (1048576 < a1.size) = true := decide_eq_true (by omega)
 clear c4
 obtain rfl := Option.some.inj H
 go_enter Tryd.func4, Tryd.ntmps4
 go_wp2
 go_ret
 exact ⟨by first | rfl | (simp [errW_none, errW_some] <;> rfl) | (simp [*, errW_none, errW_some] <;> rfl), by repeat (first | (with_reducible first | exact HB.out | apply below_alloc | apply pw_below_drewN | apply below_drew1 | refine below_set ?_ GE977.out) | exact HB.out)⟩
 }
 {
 rw [if_neg c4] at H
 have c4b0 : decide (1048576 < (a1.size : Int)) = false := decide_eq_false c4
 have c4b1 : decide (1048576 < a1.size) = false := decide_eq_false (by omega)
 clear c4
 replace H := Option.bind_eq_some_iff.mp H
 obtain ⟨t342, A50, H⟩ := H
 replace H : (if t342 < 0 then (some true) else ((laws_toHabitS.f k l0).bind fun t343 => ((spec_FirstWords.f k t343 a1).bind fun bt346 => ((laws_toHabitS.f k l0).bind fun t350 => ((impl_FirstWords.f k t350 a1 a977_0).bind fun bt353 => ((laws_eqStringS.f k bt353.1 bt346.1).bind fun t357 => (if t357 = true then (laws_FnExactFirstWords.j0 k l0 a1 bt346.1 bt346.2 t350 bt353.1 bt353.2 (bt353.2 != bt346.2) a977_0) else (laws_FnExactFirstWords.j0 k l0 a1 bt346.1 bt346.2 t350 bt353.1 bt353.2 true a977_0)))))))) = some r := H
 have A5 := ak A50
 clear A50
 by_cases c6 : t342 < 0
 {
 rw [if_pos c6] at H
 have c6b0 : decide (t342 < 0) = true := decide_eq_true c6
 clear c6
 obtain rfl := Option.some.inj H
 go_enter Tryd.func4, Tryd.ntmps4
 go_wp2_with (first | ((with_reducible refine gate_callee (f := 11) rfl ?_); refine goesL_ (some 21) rfl rfl Tryd.func11 (by kernel_rfl) rfl #[.slice A0 l0.length c0, .int .i64 1048576] rfl (by (try simp only [List.map_toArray, List.map_cons, List.map_nil]); first | done | rfl | (simp only [List.length_drop, List.length_take]; rfl)) ?_; (with_reducible refine (laws_szHabitS.calls _ _ l0 1048576 t342 _ ?side1 ?side2 A5.out).mono ?_); (case side1 => repeat (first | exact HR0.out | (with_reducible refine Kd.C_alloc ?_ _) | (with_reducible refine Kd.C_drewN ?_ _) | (with_reducible refine Kd.C_drew ?_))); (case side2 => exact HC0.out); rintro e w' ⟨rfl, ⟨nd, rfl⟩⟩; refine ⟨_, rfl, ?_⟩))
 go_ret
 exact ⟨by first | rfl | (simp [errW_none, errW_some] <;> rfl) | (simp [*, errW_none, errW_some] <;> rfl), by repeat (first | (with_reducible first | exact HB.out | apply below_alloc | apply pw_below_drewN | apply below_drew1 | refine below_set ?_ GE977.out) | exact HB.out)⟩
 }
 {
 rw [if_neg c6] at H
 have c6b0 : decide (t342 < 0) = false := decide_eq_false c6
 clear c6
 replace H := Option.bind_eq_some_iff.mp H
 obtain ⟨t343, A70, H⟩ := H
 replace H : ((spec_FirstWords.f k t343 a1).bind fun bt346 => ((laws_toHabitS.f k l0).bind fun t350 => ((impl_FirstWords.f k t350 a1 a977_0).bind fun bt353 => ((laws_eqStringS.f k bt353.1 bt346.1).bind fun t357 => (if t357 = true then (laws_FnExactFirstWords.j0 k l0 a1 bt346.1 bt346.2 t350 bt353.1 bt353.2 (bt353.2 != bt346.2) a977_0) else (laws_FnExactFirstWords.j0 k l0 a1 bt346.1 bt346.2 t350 bt353.1 bt353.2 true a977_0)))))) = some r := H
 have A7 := ak A70
 clear A70
 replace H := Option.bind_eq_some_iff.mp H
 obtain ⟨⟨t346, t347⟩, A80, H⟩ := H
 replace H : ((laws_toHabitS.f k l0).bind fun t350 => ((impl_FirstWords.f k t350 a1 a977_0).bind fun bt353 => ((laws_eqStringS.f k bt353.1 t346).bind fun t357 => (if t357 = true then (laws_FnExactFirstWords.j0 k l0 a1 t346 t347 t350 bt353.1 bt353.2 (bt353.2 != t347) a977_0) else (laws_FnExactFirstWords.j0 k l0 a1 t346 t347 t350 bt353.1 bt353.2 true a977_0))))) = some r := H
 have A8 := ak A80
 clear A80
 replace H := Option.bind_eq_some_iff.mp H
 obtain ⟨t350, A90, H⟩ := H
 replace H : ((impl_FirstWords.f k t350 a1 a977_0).bind fun bt353 => ((laws_eqStringS.f k bt353.1 t346).bind fun t357 => (if t357 = true then (laws_FnExactFirstWords.j0 k l0 a1 t346 t347 t350 bt353.1 bt353.2 (bt353.2 != t347) a977_0) else (laws_FnExactFirstWords.j0 k l0 a1 t346 t347 t350 bt353.1 bt353.2 true a977_0)))) = some r := H
 have A9 := ak A90
 clear A90
 replace H := Option.bind_eq_some_iff.mp H
 obtain ⟨⟨t353, t356⟩, A100, H⟩ := H
 replace H : ((laws_eqStringS.f k t353 t346).bind fun t357 => (if t357 = true then (laws_FnExactFirstWords.j0 k l0 a1 t346 t347 t350 t353 t356 (t356 != t347) a977_0) else (laws_FnExactFirstWords.j0 k l0 a1 t346 t347 t350 t353 t356 true a977_0))) = some r := H
 have A10 := ak A100
 clear A100
 have HC11 := ak H
 clear H
 go_enter Tryd.func4, Tryd.ntmps4
 go_upto_region 10 with (first | ((with_reducible refine gate_callee (f := 11) rfl ?_); refine goesL_ (some 21) rfl rfl Tryd.func11 (by kernel_rfl) rfl #[.slice A0 l0.length c0, .int .i64 1048576] rfl (by (try simp only [List.map_toArray, List.map_cons, List.map_nil]); first | done | rfl | (simp only [List.length_drop, List.length_take]; rfl)) ?_; (with_reducible refine (laws_szHabitS.calls _ _ l0 1048576 t342 _ ?side1 ?side2 A5.out).mono ?_); (case side1 => repeat (first | exact HR0.out | (with_reducible refine Kd.C_alloc ?_ _) | (with_reducible refine Kd.C_drewN ?_ _) | (with_reducible refine Kd.C_drew ?_))); (case side2 => exact HC0.out); rintro e w' ⟨rfl, ⟨nd, rfl⟩⟩; refine ⟨_, rfl, ?_⟩) | ((with_reducible refine gate_callee (f := 13) rfl ?_); refine goesL_ (some 26) rfl rfl Tryd.func13 (by kernel_rfl) rfl #[.slice A0 l0.length c0] rfl (by (try simp only [List.map_toArray, List.map_cons, List.map_nil]); first | done | rfl | (simp only [List.length_drop, List.length_take]; rfl)) ?_; (with_reducible refine (laws_toHabitS.calls k _ _ l0 t343 _ ?side1 ?side2 A7.out).mono ?_); (case side1 => repeat (first | exact HR0.out | (with_reducible refine Kd.C_alloc ?_ _) | (with_reducible refine Kd.C_drewN ?_ _) | (with_reducible refine Kd.C_drew ?_))); (case side2 => exact HC0.out); rintro e w12 ⟨v344, rfl, ho0, hb⟩; refine ⟨_, rfl, ?_⟩; have n0_ := ak (Kd.R_lower ho0 (below_size (zB HB.out))); have n1_ := ak (blk_below (g := 0) (o := .cells #[.int .i64 a977_0] 3 (0, 0)) (zK BK977.out) hb); have n2_ := ak (below_step (zB HB.out) hb); clear BK977 HB; have HO345 := n0_; have BK977 := n1_; have HB := n2_; clear n0_ n1_ n2_; (try clear hb); (try clear hb2); (try clear hk); (try clear hi); (try clear ho0); obtain ⟨Ao13, co13, eo13⟩ := Kd.R_slice HO345.out; subst eo13) | ((with_reducible refine gate_callee (f := 12) rfl ?_); refine goesL_ (some 28) rfl rfl Tryd.func12 (by kernel_rfl) rfl #[.slice Ao13 t343.length co13, .string a1] rfl (by (try simp only [List.map_toArray, List.map_cons, List.map_nil]); first | done | rfl | (simp only [List.length_drop, List.length_take]; rfl)) ?_; (with_reducible refine (spec_FirstWords.calls k _ _ t343 a1 t346 t347 _ ?side1 ?side2 A8.out).mono ?_); (case side1 => exact zC (Kd.R_reads' HO345.out).2.2); (case side2 => exact (Kd.R_reads' HO345.out).2.1); rintro e w14 ⟨v348, rfl, ho0, hb⟩; refine ⟨_, rfl, ?_⟩; have n0_ := ak (Kd.R_below (zR HO345.out) hb); have n1_ := ak (Kd.R_lower ho0 (below_size (zB HB.out))); have n2_ := ak (blk_below (g := 0) (o := .cells #[.int .i64 a977_0] 3 (0, 0)) (zK BK977.out) hb); have n3_ := ak (below_step (zB HB.out) hb); clear HO345 BK977 HB; have HO345 := n0_; have HO349 := n1_; have BK977 := n2_; have HB := n3_; clear n0_ n1_ n2_ n3_; (try clear hb); (try clear hb2); (try clear hk); (try clear hi); (try clear ho0)) | ((with_reducible refine gate_callee (f := 13) rfl ?_); refine goesL_ (some 32) rfl rfl Tryd.func13 (by kernel_rfl) rfl #[.slice A0 l0.length c0] rfl (by (try simp only [List.map_toArray, List.map_cons, List.map_nil]); first | done | rfl | (simp only [List.length_drop, List.length_take]; rfl)) ?_; (with_reducible refine (laws_toHabitS.calls k _ _ l0 t350 _ ?side1 ?side2 A9.out).mono ?_); (case side1 => repeat (first | exact (Kd.C_below HR0.out HB.out) | (with_reducible refine Kd.C_alloc ?_ _) | (with_reducible refine Kd.C_drewN ?_ _) | (with_reducible refine Kd.C_drew ?_))); (case side2 => exact HC0.out); rintro e w15 ⟨v351, rfl, ho0, hb⟩; refine ⟨_, rfl, ?_⟩; have n0_ := ak (Kd.R_elder' (zR HO345.out) (Kd.R_base ho0) hb); have n1_ := ak (Kd.R_below (zR HO349.out) hb); have n2_ := ak (Kd.R_lower (Kd.R_new' ho0 (Kd.R_lt (zR HO345.out))) (below_size (zB HB.out))); have n3_ := ak (blk_below (g := 0) (o := .cells #[.int .i64 a977_0] 3 (0, 0)) (zK BK977.out) hb); have n4_ := ak (below_step (zB HB.out) hb); clear HO345 HO349 BK977 HB; have HO345 := n0_; have HO349 := n1_; have HO352 := n2_; have BK977 := n3_; have HB := n4_; clear n0_ n1_ n2_ n3_ n4_; (try clear hb); (try clear hb2); (try clear hk); (try clear hi); (try clear ho0); obtain ⟨Ao16, co16, eo16⟩ := Kd.R_slice HO352.out; subst eo16) | ((with_reducible refine gate_callee (f := 14) rfl ?_); refine goesL_ (some 36) rfl rfl Tryd.func14 (by kernel_rfl) rfl #[.slice Ao16 t350.length co16, .string a1] rfl (by (try simp only [List.map_toArray, List.map_cons, List.map_nil]); first | done | rfl | (simp only [List.length_drop, List.length_take]; rfl)) ?_; (with_reducible refine (impl_FirstWords.calls k _ _ t350 a1 a977_0 t353 t356 _ ?side1 ?side2 ?side3 A10.out).mono ?_); (case side1 => exact zC (Kd.R_reads' HO352.out).2.2); (case side2 => exact (Kd.R_reads' HO352.out).2.1); (case side3 => exact (by first | exact BK977.out | ((with_reducible repeat (first | refine blk_drewN ?_ _ | refine blk_drew ?_ | refine blk_alloc ?_ _)); exact BK977.out))); rintro e w17 ⟨v354, rfl, ho0, hb⟩; refine ⟨_, rfl, ?_⟩; have n0_ := ak (Kd.R_below (zR HO345.out) hb); have n1_ := ak (Kd.R_elder' (zR HO349.out) (Kd.R_base ho0) hb); have n2_ := ak (Kd.R_below (zR HO352.out) hb); have n3_ := ak (Kd.R_lower (Kd.R_new' ho0 (Kd.R_lt (zR HO349.out))) (below_size (zB HB.out))); have n4_ := ak (blk_below (g := 0) (o := .cells #[.int .i64 a977_0] 3 (0, 0)) (zK BK977.out) hb); have n5_ := ak (below_step (zB HB.out) hb); clear HO345 HO349 HO352 BK977 HB; have HO345 := n0_; have HO349 := n1_; have HO352 := n2_; have HO355 := n3_; have BK977 := n4_; have HB := n5_; clear n0_ n1_ n2_ n3_ n4_ n5_; (try clear hb); (try clear hb2); (try clear hk); (try clear hi); (try clear ho0)))
 (try simp only [Act.put, zs, zz, zk])
 go_cut [47] (fun v47 wc => ∃ (kq : Nat) (x47_10 : Bool), v47 = .bool x47_10 ∧ Aside0 (laws_FnExactFirstWords.j0 kq l0 a1 t346 t347 t350 t353 t356 x47_10 a977_0 = some r) ∧ Aside0 (kq ≤ k) ∧ Aside0 (Kd.R Kd.string 9 wc w.heap.size (fun k_ => some k_ ≠ (v354 : Value).ownBlock) v348 t346) ∧ Aside0 (Kd.R k28 28 wc w.heap.size (fun _ => True) (.slice Ao16 t350.length co16) t350) ∧ Aside0 (Kd.R Kd.string 9 wc w.heap.size (fun k_ => some k_ ≠ (v348 : Value).ownBlock) v354 t353) ∧ Aside0 (wc.heap[0]? = some (.cells #[.int .i64 a977_0] 3 (0, 0))) ∧ Aside0 (Below w.heap.size w wc))
 case first => (
 have H := HC11.out
 clear HC11
 replace H := Option.bind_eq_some_iff.mp H
 obtain ⟨t357, A180, H⟩ := H
 replace H : (if t357 = true then (laws_FnExactFirstWords.j0 k l0 a1 t346 t347 t350 t353 t356 (t356 != t347) a977_0) else (laws_FnExactFirstWords.j0 k l0 a1 t346 t347 t350 t353 t356 true a977_0)) = some r := H
 have A18 := ak A180
 clear A180
 by_cases c19 : t357 = true
 {
 subst c19
 have H1 : (laws_FnExactFirstWords.j0 k l0 a1 t346 t347 t350 t353 t356 (t356 != t347) a977_0) = some r := by rw [if_pos rfl] at H; exact H
 clear H
 have H := H1
 clear H1
 have H' := ak H
 clear H
 obtain ⟨Ao20, co20, eo20⟩ := Kd.R_slice HO355.out
 subst eo20
 obtain ⟨Ao21, co21, eo21⟩ := Kd.R_slice HO349.out
 subst eo21
 go_wp2_with (first | ((with_reducible refine gate_callee (f := 8) rfl ?_); refine goesL_ (some 41) rfl rfl Tryd.func8 (by kernel_rfl) rfl #[.slice Ao20 t353.length co20, .slice Ao21 t346.length co21] rfl (by (try simp only [List.map_toArray, List.map_cons, List.map_nil]); first | done | rfl | (simp only [List.length_drop, List.length_take]; rfl)) ?_; (with_reducible refine (laws_eqStringS.calls k _ _ t353 _ _ t346 true _ ?side1 ?side2 ?side3 ?side4 A18.out).mono ?_); (case side1 => exact zC (Kd.R_reads' HO355.out).2.2); (case side2 => exact (Kd.R_reads' HO355.out).2.1); (case side3 => exact zC (Kd.R_reads' HO349.out).2.2); (case side4 => exact (Kd.R_reads' HO349.out).2.1); rintro e w' ⟨rfl, ⟨nd, rfl⟩⟩; refine ⟨_, rfl, ?_⟩))
 go_meet
 case rel => exact ⟨_, ((t356 != t347)), (by first | rfl | (simp; done) | (simp [*]; done)), H', ⟨by first | omega | exact Nat.le_refl _⟩, ⟨by (with_reducible repeat (first | apply Kd.R_alloc | apply Kd.R_drewN | apply Kd.R_drew)); exact Kd.R_mono HO349.out (fun _ hk => hk.2)⟩, ⟨by (with_reducible repeat (first | apply Kd.R_alloc | apply Kd.R_drewN | apply Kd.R_drew)); exact Kd.R_mono HO352.out (fun _ hk => trivial)⟩, ⟨by (with_reducible repeat (first | apply Kd.R_alloc | apply Kd.R_drewN | apply Kd.R_drew)); exact Kd.R_mono HO355.out (fun _ hk => hk.2)⟩, ⟨by (with_reducible repeat (first | refine blk_drewN ?_ _ | refine blk_drew ?_ | refine blk_alloc ?_ _)); exact BK977.out⟩, ⟨by repeat (first | (with_reducible first | exact HB.out | apply below_alloc | apply pw_below_drewN | apply below_drew1 | refine below_set ?_ GE977.out) | exact HB.out)⟩⟩
 }
 {
 replace c19 := Bool.eq_false_iff.mpr c19
 subst c19
 have H1 : (laws_FnExactFirstWords.j0 k l0 a1 t346 t347 t350 t353 t356 true a977_0) = some r := by rw [if_neg (show ¬ (false = true) by decide)] at H; exact H
 clear H
 have H := H1
 clear H1
 have H' := ak H
 clear H
 obtain ⟨Ao22, co22, eo22⟩ := Kd.R_slice HO355.out
 subst eo22
 obtain ⟨Ao23, co23, eo23⟩ := Kd.R_slice HO349.out
 subst eo23
 go_wp2_with (first | ((with_reducible refine gate_callee (f := 8) rfl ?_); refine goesL_ (some 41) rfl rfl Tryd.func8 (by kernel_rfl) rfl #[.slice Ao22 t353.length co22, .slice Ao23 t346.length co23] rfl (by (try simp only [List.map_toArray, List.map_cons, List.map_nil]); first | done | rfl | (simp only [List.length_drop, List.length_take]; rfl)) ?_; (with_reducible refine (laws_eqStringS.calls k _ _ t353 _ _ t346 false _ ?side1 ?side2 ?side3 ?side4 A18.out).mono ?_); (case side1 => exact zC (Kd.R_reads' HO355.out).2.2); (case side2 => exact (Kd.R_reads' HO355.out).2.1); (case side3 => exact zC (Kd.R_reads' HO349.out).2.2); (case side4 => exact (Kd.R_reads' HO349.out).2.1); rintro e w' ⟨rfl, ⟨nd, rfl⟩⟩; refine ⟨_, rfl, ?_⟩))
 go_meet
 case rel => exact ⟨_, (true), (by first | rfl | (simp; done) | (simp [*]; done)), H', ⟨by first | omega | exact Nat.le_refl _⟩, ⟨by (with_reducible repeat (first | apply Kd.R_alloc | apply Kd.R_drewN | apply Kd.R_drew)); exact Kd.R_mono HO349.out (fun _ hk => hk.2)⟩, ⟨by (with_reducible repeat (first | apply Kd.R_alloc | apply Kd.R_drewN | apply Kd.R_drew)); exact Kd.R_mono HO352.out (fun _ hk => trivial)⟩, ⟨by (with_reducible repeat (first | apply Kd.R_alloc | apply Kd.R_drewN | apply Kd.R_drew)); exact Kd.R_mono HO355.out (fun _ hk => hk.2)⟩, ⟨by (with_reducible repeat (first | refine blk_drewN ?_ _ | refine blk_drew ?_ | refine blk_alloc ?_ _)); exact BK977.out⟩, ⟨by repeat (first | (with_reducible first | exact HB.out | apply below_alloc | apply pw_below_drewN | apply below_drew1 | refine below_set ?_ GE977.out) | exact HB.out)⟩⟩
 }
 )
 case rest => (
 clear HC11
 try clear c1
 try clear p2
 try clear c4
 try clear c4b0
 try clear c4b1
 try clear c6
 try clear c6b0
 try clear c8
 try clear hx9
 try clear c11
 try clear c12
 try clear c13
 try clear c14
 try clear c19
 obtain ⟨kq, x47_10, rfl, HA, HJ10, HO_6, HO_8, HO_9, BK977, HB⟩ := hcut
 cases kq with
 | zero => exact absurd HA.out (by simp [laws_FnExactFirstWords.j0])
 | succ kj10 => (
 have H := HA.out
 clear HA
 simp only [laws_FnExactFirstWords.j0] at H
 by_cases c24 : x47_10 = true
 {
 subst c24
 have H1 : (some false) = some r := by rw [if_pos rfl] at H; exact H
 clear H
 have H := H1
 clear H1
 exact absurd ((Option.some.inj H).trans HT.out) (by decide)
 }
 {
 replace c24 := Bool.eq_false_iff.mpr c24
 subst c24
 have H1 : ((laws_toHabitS.f kj10 l0).bind fun t358 => ((laws_eqHabitS.f kj10 t350 t358).bind fun t361 => (if t361 = true then ((laws_markHabitS.f kj10 t350 1).bind fun bt362 => (if bt362.1 < 0 then (laws_FnExactFirstWords.j1 kj10 l0 a1 t346 t347 t353 true a977_0) else ((laws_eqStringS.f kj10 t353 t346).bind fun t364 => (if t364 = true then (laws_FnExactFirstWords.j1 kj10 l0 a1 t346 t347 t353 (t356 != t347) a977_0) else (laws_FnExactFirstWords.j1 kj10 l0 a1 t346 t347 t353 true a977_0))))) else (some false)))) = some r := by rw [if_neg (show ¬ (false = true) by decide)] at H; exact H
 clear H
 have H := H1
 clear H1
 replace H := Option.bind_eq_some_iff.mp H
 obtain ⟨t358, A250, H⟩ := H
 replace H : ((laws_eqHabitS.f kj10 t350 t358).bind fun t361 => (if t361 = true then ((laws_markHabitS.f kj10 t350 1).bind fun bt362 => (if bt362.1 < 0 then (laws_FnExactFirstWords.j1 kj10 l0 a1 t346 t347 t353 true a977_0) else ((laws_eqStringS.f kj10 t353 t346).bind fun t364 => (if t364 = true then (laws_FnExactFirstWords.j1 kj10 l0 a1 t346 t347 t353 (t356 != t347) a977_0) else (laws_FnExactFirstWords.j1 kj10 l0 a1 t346 t347 t353 true a977_0))))) else (some false))) = some r := H
 have A25 := ak A250
 clear A250
 replace H := Option.bind_eq_some_iff.mp H
 obtain ⟨t361, A260, H⟩ := H
 replace H : (if t361 = true then ((laws_markHabitS.f kj10 t350 1).bind fun bt362 => (if bt362.1 < 0 then (laws_FnExactFirstWords.j1 kj10 l0 a1 t346 t347 t353 true a977_0) else ((laws_eqStringS.f kj10 t353 t346).bind fun t364 => (if t364 = true then (laws_FnExactFirstWords.j1 kj10 l0 a1 t346 t347 t353 (t356 != t347) a977_0) else (laws_FnExactFirstWords.j1 kj10 l0 a1 t346 t347 t353 true a977_0))))) else (some false)) = some r := H
 have A26 := ak A260
 clear A260
 by_cases c27 : t361 = true
 {
 subst c27
 have H1 : ((laws_markHabitS.f kj10 t350 1).bind fun bt362 => (if bt362.1 < 0 then (laws_FnExactFirstWords.j1 kj10 l0 a1 t346 t347 t353 true a977_0) else ((laws_eqStringS.f kj10 t353 t346).bind fun t364 => (if t364 = true then (laws_FnExactFirstWords.j1 kj10 l0 a1 t346 t347 t353 (t356 != t347) a977_0) else (laws_FnExactFirstWords.j1 kj10 l0 a1 t346 t347 t353 true a977_0))))) = some r := by rw [if_pos rfl] at H; exact H
 clear H
 have H := H1
 clear H1
 replace H := Option.bind_eq_some_iff.mp H
 obtain ⟨⟨t362, t363⟩, A280, H⟩ := H
 replace H : (if t362 < 0 then (laws_FnExactFirstWords.j1 kj10 l0 a1 t346 t347 t353 true a977_0) else ((laws_eqStringS.f kj10 t353 t346).bind fun t364 => (if t364 = true then (laws_FnExactFirstWords.j1 kj10 l0 a1 t346 t347 t353 (t356 != t347) a977_0) else (laws_FnExactFirstWords.j1 kj10 l0 a1 t346 t347 t353 true a977_0)))) = some r := H
 have A28 := ak A280
 clear A280
 have HC29 := ak H
 clear H
 go_upto_region 16 with (first | ((with_reducible refine gate_callee (f := 13) rfl ?_); refine goesL_ (some 50) rfl rfl Tryd.func13 (by kernel_rfl) rfl #[.slice A0 l0.length c0] rfl (by (try simp only [List.map_toArray, List.map_cons, List.map_nil]); first | done | rfl | (simp only [List.length_drop, List.length_take]; rfl)) ?_; (with_reducible refine (laws_toHabitS.calls kj10 _ _ l0 t358 _ ?side1 ?side2 A25.out).mono ?_); (case side1 => repeat (first | exact (Kd.C_below HR0.out HB.out) | (with_reducible refine Kd.C_alloc ?_ _) | (with_reducible refine Kd.C_drewN ?_ _) | (with_reducible refine Kd.C_drew ?_))); (case side2 => exact HC0.out); rintro e w30 ⟨v359, rfl, ho0, hb⟩; refine ⟨_, rfl, ?_⟩; have n0_ := ak (Kd.R_below (zR HO_6.out) hb); have n1_ := ak (Kd.R_elder' (zR HO_8.out) (Kd.R_base ho0) hb); have n2_ := ak (Kd.R_below (zR HO_9.out) hb); have n3_ := ak (Kd.R_lower (Kd.R_new' ho0 (Kd.R_lt (zR HO_8.out))) (below_size (zB HB.out))); have n4_ := ak (blk_below (g := 0) (o := .cells #[.int .i64 a977_0] 3 (0, 0)) (zK BK977.out) hb); have n5_ := ak (below_step (zB HB.out) hb); clear HO_6 HO_8 HO_9 BK977 HB; have HO_6 := n0_; have HO_8 := n1_; have HO_9 := n2_; have HO360 := n3_; have BK977 := n4_; have HB := n5_; clear n0_ n1_ n2_ n3_ n4_ n5_; (try clear hb); (try clear hb2); (try clear hk); (try clear hi); (try clear ho0); obtain ⟨Ao31, co31, eo31⟩ := Kd.R_slice HO360.out; subst eo31) | ((with_reducible refine gate_callee (f := 15) rfl ?_); refine goesL_ (some 51) rfl rfl Tryd.func15 (by kernel_rfl) rfl #[.slice Ao16 t350.length co16, .slice Ao31 t358.length co31] rfl (by (try simp only [List.map_toArray, List.map_cons, List.map_nil]); first | done | rfl | (simp only [List.length_drop, List.length_take]; rfl)) ?_; (with_reducible refine (laws_eqHabitS.calls kj10 _ _ t350 _ _ t358 true _ ?side1 ?side2 ?side3 ?side4 A26.out).mono ?_); (case side1 => exact zC (Kd.R_reads' HO_8.out).2.2); (case side2 => exact (Kd.R_reads' HO_8.out).2.1); (case side3 => exact zC (Kd.R_reads' HO360.out).2.2); (case side4 => exact (Kd.R_reads' HO360.out).2.1); rintro e w32 ⟨rfl, hb⟩; refine ⟨_, rfl, ?_⟩; have n0_ := ak (Kd.R_below (zR HO_6.out) hb); have n1_ := ak (Kd.R_below (zR HO_8.out) hb); have n2_ := ak (Kd.R_below (zR HO_9.out) hb); have n3_ := ak (Kd.R_below (zR HO360.out) hb); have n4_ := ak (blk_below (g := 0) (o := .cells #[.int .i64 a977_0] 3 (0, 0)) (zK BK977.out) hb); have n5_ := ak (below_step (zB HB.out) hb); clear HO_6 HO_8 HO_9 HO360 BK977 HB; have HO_6 := n0_; have HO_8 := n1_; have HO_9 := n2_; have HO360 := n3_; have BK977 := n4_; have HB := n5_; clear n0_ n1_ n2_ n3_ n4_ n5_; (try clear hb); (try clear hb2); (try clear hk); (try clear hi)) | ((with_reducible refine gate_callee (f := 16) rfl ?_); refine goesL_ (some 55) rfl rfl Tryd.func16 (by kernel_rfl) rfl #[.slice Ao16 t350.length co16, .int .i64 1] rfl (by (try simp only [List.map_toArray, List.map_cons, List.map_nil]); first | done | rfl | (simp only [List.length_drop, List.length_take]; rfl)) ?_; (with_reducible refine (laws_markHabitS.calls kj10 (fun k_ => some k_ = (.slice Ao16 t350.length co16 : Value).ownBlock) (.slice Ao16 t350.length co16) t350 1 t362 t363 w _ ?side1 ?side2 A28.out).mono ?_); (case side1 => repeat (first | (with_reducible first | exact HB.out | apply below_alloc | apply pw_below_drewN | apply below_drew1 | refine below_set ?_ GE977.out) | exact HB.out)); (case side2 => exact Kd.R_tight rfl HO_8.out); rintro e w33 ⟨rfl, hy0, hb, hkp⟩; refine ⟨_, rfl, ?_⟩; have n0_ := ak (Kd.R_mono (ok' := fun k_ => some k_ ≠ (v354 : Value).ownBlock) (Kd.R_keptB ((Kd.R_apart' HO_6.out (Kd.R_typed HO_8.out) (by decide))) hkp (fun k_ hk_ hs_ => (hk_.2) hs_)) (fun k_ hk_ => hk_.1.1)); have n1_ := ak (Kd.R_reok rfl hy0 (fun k_ e_ => HO_8.out.1 k_ e_)); have n2_ := ak (Kd.R_mono (ok' := fun k_ => some k_ ≠ (v348 : Value).ownBlock) (Kd.R_keptB ((Kd.R_apart' HO_9.out (Kd.R_typed HO_8.out) (by decide))) hkp (fun k_ hk_ hs_ => (hk_.2) hs_)) (fun k_ hk_ => hk_.1.1)); have n3_ := ak (blk_kept (zK BK977.out) hkp (fun hs_ => (fun e_ => (Kd.R_ne HO_8.out BK977.out (by decide)) e_) hs_)); have n4_ := ak (Kd.R_mono (ok' := fun k_ => some k_ ≠ (.slice Ao16 t350.length co16 : Value).ownBlock) (Kd.R_keptB (HO360.out) hkp (fun k_ hk_ hs_ => (hk_.2) hs_)) (fun k_ hk_ => hk_.1.2)); have n5_ := ak (hb); clear HO_6 HO_8 HO_9 BK977 HO360 HB; have HO_6 := n0_; have HO_8 := n1_; have HO_9 := n2_; have BK977 := n3_; have HO360 := n4_; have HB := n5_; clear n0_ n1_ n2_ n3_ n4_ n5_; (try clear hb); (try clear hkp); (try clear hy0)))
 (try simp only [Act.put, zs, zz, zk])
 go_cut [68] (fun v68 wc => ∃ (kq : Nat) (x68_28 : Bool), v68 = .bool x68_28 ∧ Aside0 (laws_FnExactFirstWords.j1 kq l0 a1 t346 t347 t353 x68_28 a977_0 = some r) ∧ Aside0 (kq ≤ kj10) ∧ Aside0 (Kd.R Kd.string 9 wc w.heap.size (fun k_ => some k_ ≠ (v354 : Value).ownBlock) v348 t346) ∧ Aside0 (Kd.R Kd.string 9 wc w.heap.size (fun k_ => some k_ ≠ (v348 : Value).ownBlock) v354 t353) ∧ Aside0 (wc.heap[0]? = some (.cells #[.int .i64 a977_0] 3 (0, 0))) ∧ Aside0 (Below w.heap.size w wc))
 case first => (
 have H := HC29.out
 clear HC29
 by_cases c34 : t362 < 0
 {
 rw [if_pos c34] at H
 have c34b0 : decide (t362 < 0) = true := decide_eq_true c34
 clear c34
 (first | rw [c34b0] | (simp only [i64_w, i32_w]; rw [c34b0]) | skip)
 have H' := ak H
 clear H
 go_wp2
 go_meet
 case rel => exact ⟨_, (true), (by first | rfl | (simp; done) | (simp [*]; done)), H', ⟨by have := HJ10.out; first | omega | exact Nat.le_refl _⟩, ⟨by (with_reducible repeat (first | apply Kd.R_alloc | apply Kd.R_drewN | apply Kd.R_drew)); exact HO_6.out⟩, ⟨by (with_reducible repeat (first | apply Kd.R_alloc | apply Kd.R_drewN | apply Kd.R_drew)); exact HO_9.out⟩, ⟨by (with_reducible repeat (first | refine blk_drewN ?_ _ | refine blk_drew ?_ | refine blk_alloc ?_ _)); exact BK977.out⟩, ⟨by repeat (first | (with_reducible first | exact HB.out | apply below_alloc | apply pw_below_drewN | apply below_drew1 | refine below_set ?_ GE977.out) | exact HB.out)⟩⟩
 }
 {
 rw [if_neg c34] at H
 have c34b0 : decide (t362 < 0) = false := decide_eq_false c34
 clear c34
 (first | rw [c34b0] | (simp only [i64_w, i32_w]; rw [c34b0]) | skip)
 replace H := Option.bind_eq_some_iff.mp H
 obtain ⟨t364, A350, H⟩ := H
 replace H : (if t364 = true then (laws_FnExactFirstWords.j1 kj10 l0 a1 t346 t347 t353 (t356 != t347) a977_0) else (laws_FnExactFirstWords.j1 kj10 l0 a1 t346 t347 t353 true a977_0)) = some r := H
 have A35 := ak A350
 clear A350
 by_cases c36 : t364 = true
 {
 subst c36
 have H1 : (laws_FnExactFirstWords.j1 kj10 l0 a1 t346 t347 t353 (t356 != t347) a977_0) = some r := by rw [if_pos rfl] at H; exact H
 clear H
 have H := H1
 clear H1
 have H' := ak H
 clear H
 obtain ⟨Ao37, co37, eo37⟩ := Kd.R_slice HO_9.out
 subst eo37
 obtain ⟨Ao38, co38, eo38⟩ := Kd.R_slice HO_6.out
 subst eo38
 go_wp2_with (first | (go_at_call 8; (with_reducible refine (laws_eqStringS.calls kj10 _ _ t353 _ _ t346 true _ ?side1 ?side2 ?side3 ?side4 A35.out).mono ?_); (case side1 => exact zC (Kd.R_reads' HO_9.out).2.2); (case side2 => exact (Kd.R_reads' HO_9.out).2.1); (case side3 => exact zC (Kd.R_reads' HO_6.out).2.2); (case side4 => exact (Kd.R_reads' HO_6.out).2.1); rintro e w' ⟨rfl, ⟨nd, rfl⟩⟩))
 go_meet
 case rel => exact ⟨_, ((t356 != t347)), (by first | rfl | (simp; done) | (simp [*]; done)), H', ⟨by have := HJ10.out; first | omega | exact Nat.le_refl _⟩, ⟨by (with_reducible repeat (first | apply Kd.R_alloc | apply Kd.R_drewN | apply Kd.R_drew)); exact HO_6.out⟩, ⟨by (with_reducible repeat (first | apply Kd.R_alloc | apply Kd.R_drewN | apply Kd.R_drew)); exact HO_9.out⟩, ⟨by (with_reducible repeat (first | refine blk_drewN ?_ _ | refine blk_drew ?_ | refine blk_alloc ?_ _)); exact BK977.out⟩, ⟨by repeat (first | (with_reducible first | exact HB.out | apply below_alloc | apply pw_below_drewN | apply below_drew1 | refine below_set ?_ GE977.out) | exact HB.out)⟩⟩
 }
 {
 replace c36 := Bool.eq_false_iff.mpr c36
 subst c36
 have H1 : (laws_FnExactFirstWords.j1 kj10 l0 a1 t346 t347 t353 true a977_0) = some r := by rw [if_neg (show ¬ (false = true) by decide)] at H; exact H
 clear H
 have H := H1
 clear H1
 have H' := ak H
 clear H
 obtain ⟨Ao39, co39, eo39⟩ := Kd.R_slice HO_9.out
 subst eo39
 obtain ⟨Ao40, co40, eo40⟩ := Kd.R_slice HO_6.out
 subst eo40
 go_wp2_with (first | (go_at_call 8; (with_reducible refine (laws_eqStringS.calls kj10 _ _ t353 _ _ t346 false _ ?side1 ?side2 ?side3 ?side4 A35.out).mono ?_); (case side1 => exact zC (Kd.R_reads' HO_9.out).2.2); (case side2 => exact (Kd.R_reads' HO_9.out).2.1); (case side3 => exact zC (Kd.R_reads' HO_6.out).2.2); (case side4 => exact (Kd.R_reads' HO_6.out).2.1); rintro e w' ⟨rfl, ⟨nd, rfl⟩⟩))
 go_meet
 case rel => exact ⟨_, (true), (by first | rfl | (simp; done) | (simp [*]; done)), H', ⟨by have := HJ10.out; first | omega | exact Nat.le_refl _⟩, ⟨by (with_reducible repeat (first | apply Kd.R_alloc | apply Kd.R_drewN | apply Kd.R_drew)); exact HO_6.out⟩, ⟨by (with_reducible repeat (first | apply Kd.R_alloc | apply Kd.R_drewN | apply Kd.R_drew)); exact HO_9.out⟩, ⟨by (with_reducible repeat (first | refine blk_drewN ?_ _ | refine blk_drew ?_ | refine blk_alloc ?_ _)); exact BK977.out⟩, ⟨by repeat (first | (with_reducible first | exact HB.out | apply below_alloc | apply pw_below_drewN | apply below_drew1 | refine below_set ?_ GE977.out) | exact HB.out)⟩⟩
 }
 }
 )
 case rest => (
 clear HC29
 try clear c1
 try clear c2
 try clear p2
 try clear c3
 try clear c4
 try clear c4b0
 try clear c4b1
 try clear c6
 try clear c6b0
 try clear c8
 try clear hx9
 try clear c11
 try clear c12
 try clear c13
 try clear c14
 try clear c15
 try clear c16
 try clear c19
 try clear c24
 try clear c27
 try clear c34
 try clear c34b0
 try clear c36
 try clear p2
 obtain ⟨kq, x68_28, rfl, HA, HJ28, HO_6, HO_9, BK977, HB⟩ := hcut
 cases kq with
 | zero => exact absurd HA.out (by simp [laws_FnExactFirstWords.j1])
 | succ kj28 => (
 have H := HA.out
 clear HA
 simp only [laws_FnExactFirstWords.j1] at H
 by_cases c41 : x68_28 = true
 {
 subst c41
 have H1 : (some false) = some r := by rw [if_pos rfl] at H; exact H
 clear H
 have H := H1
 clear H1
 exact absurd ((Option.some.inj H).trans HT.out) (by decide)
 }
 {
 replace c41 := Bool.eq_false_iff.mpr c41
 subst c41
 have H1 : ((laws_markStringS.f kj28 t353 1).bind fun bt365 => ((laws_heldStringS.f kj28 bt365.2 1).bind fun t367 => (if t367 < 0 then (some false) else (if t367 = bt365.1 then ((laws_toHabitS.f kj28 l0).bind fun t368 => ((impl_FirstWords.f kj28 t368 a1 a977_0).bind fun bt371 => ((laws_eqStringS.f kj28 bt371.1 t346).bind fun t375 => (if t375 = true then (laws_FnExactFirstWords.j2 kj28 bt365.2 bt365.1 (bt371.2 != t347)) else (laws_FnExactFirstWords.j2 kj28 bt365.2 bt365.1 true))))) else (some false))))) = some r := by rw [if_neg (show ¬ (false = true) by decide)] at H; exact H
 clear H
 have H := H1
 clear H1
 replace H := Option.bind_eq_some_iff.mp H
 obtain ⟨⟨t365, t366⟩, A420, H⟩ := H
 replace H : ((laws_heldStringS.f kj28 t366 1).bind fun t367 => (if t367 < 0 then (some false) else (if t367 = t365 then ((laws_toHabitS.f kj28 l0).bind fun t368 => ((impl_FirstWords.f kj28 t368 a1 a977_0).bind fun bt371 => ((laws_eqStringS.f kj28 bt371.1 t346).bind fun t375 => (if t375 = true then (laws_FnExactFirstWords.j2 kj28 t366 t365 (bt371.2 != t347)) else (laws_FnExactFirstWords.j2 kj28 t366 t365 true))))) else (some false)))) = some r := H
 have A42 := ak A420
 clear A420
 replace H := Option.bind_eq_some_iff.mp H
 obtain ⟨t367, A430, H⟩ := H
 replace H : (if t367 < 0 then (some false) else (if t367 = t365 then ((laws_toHabitS.f kj28 l0).bind fun t368 => ((impl_FirstWords.f kj28 t368 a1 a977_0).bind fun bt371 => ((laws_eqStringS.f kj28 bt371.1 t346).bind fun t375 => (if t375 = true then (laws_FnExactFirstWords.j2 kj28 t366 t365 (bt371.2 != t347)) else (laws_FnExactFirstWords.j2 kj28 t366 t365 true))))) else (some false))) = some r := H
 have A43 := ak A430
 clear A430
 by_cases c44 : t367 < 0
 · rw [if_pos c44] at H; have c44b0 : decide (t367 < 0) = true := decide_eq_true c44; clear c44; exact absurd ((Option.some.inj H).trans HT.out) (by decide)
 {
 rw [if_neg c44] at H
 have c44b0 : decide (t367 < 0) = false := decide_eq_false c44
 clear c44
 by_cases c45 : t367 = t365
 {
 rw [if_pos c45] at H
 have c45b0 : (t367 == t365) = true := beq_iff_eq.mpr c45
 have c45b1 : (t367 != t365) = false := bne_eq_false_iff_eq.mpr c45
 clear c45
 replace H := Option.bind_eq_some_iff.mp H
 obtain ⟨t368, A460, H⟩ := H
 replace H : ((impl_FirstWords.f kj28 t368 a1 a977_0).bind fun bt371 => ((laws_eqStringS.f kj28 bt371.1 t346).bind fun t375 => (if t375 = true then (laws_FnExactFirstWords.j2 kj28 t366 t365 (bt371.2 != t347)) else (laws_FnExactFirstWords.j2 kj28 t366 t365 true)))) = some r := H
 have A46 := ak A460
 clear A460
 replace H := Option.bind_eq_some_iff.mp H
 obtain ⟨⟨t371, t374⟩, A470, H⟩ := H
 replace H : ((laws_eqStringS.f kj28 t371 t346).bind fun t375 => (if t375 = true then (laws_FnExactFirstWords.j2 kj28 t366 t365 (t374 != t347)) else (laws_FnExactFirstWords.j2 kj28 t366 t365 true))) = some r := H
 have A47 := ak A470
 clear A470
 have HC48 := ak H
 clear H
 obtain ⟨Ao49, co49, eo49⟩ := Kd.R_slice HO_9.out
 subst eo49
 go_upto_region 27 with (first | ((with_reducible refine gate_callee (f := 9) rfl ?_); refine goesL_ (some 71) rfl rfl Tryd.func9 (by kernel_rfl) rfl #[.slice Ao49 t353.length co49, .int .i64 1] rfl (by (try simp only [List.map_toArray, List.map_cons, List.map_nil]); first | done | rfl | (simp only [List.length_drop, List.length_take]; rfl)) ?_; (with_reducible refine (laws_markStringS.calls kj28 (fun k_ => some k_ = (.slice Ao49 t353.length co49 : Value).ownBlock) (.slice Ao49 t353.length co49) t353 1 t365 t366 w _ ?side1 ?side2 A42.out).mono ?_); (case side1 => repeat (first | (with_reducible first | exact HB.out | apply below_alloc | apply pw_below_drewN | apply below_drew1 | refine below_set ?_ GE977.out) | exact HB.out)); (case side2 => exact Kd.R_tight rfl HO_9.out); rintro e w50 ⟨rfl, hy0, hb, hkp⟩; refine ⟨_, rfl, ?_⟩; have n0_ := ak (Kd.R_mono (ok' := fun k_ => some k_ ≠ (.slice Ao49 t353.length co49 : Value).ownBlock) (Kd.R_keptB (HO_6.out) hkp (fun k_ hk_ hs_ => (hk_) hs_)) (fun k_ hk_ => hk_.1)); have n1_ := ak (Kd.R_reok rfl hy0 (fun k_ e_ => HO_9.out.1 k_ e_)); have n2_ := ak (blk_kept (zK BK977.out) hkp (fun hs_ => (fun e_ => (Kd.R_ne HO_9.out BK977.out (by decide)) e_) hs_)); have n3_ := ak (hb); clear HO_6 HO_9 BK977 HB; have HO_6 := n0_; have HO_9 := n1_; have BK977 := n2_; have HB := n3_; clear n0_ n1_ n2_ n3_; (try clear hb); (try clear hkp); (try clear hy0)) | ((with_reducible refine gate_callee (f := 10) rfl ?_); refine goesL_ (some 74) rfl rfl Tryd.func10 (by kernel_rfl) rfl #[.slice Ao49 t366.length co49, .int .i64 1] rfl (by (try simp only [List.map_toArray, List.map_cons, List.map_nil]); first | done | (rw [show t366.length = t353.length from (Kd.R_reads' HO_9.out).1.symm] <;> rfl) | rfl | (simp only [List.length_drop, List.length_take]; rfl)) ?_; (with_reducible refine (laws_heldStringS.calls kj28 _ _ t366 1 t367 _ ?side1 ?side2 A43.out).mono ?_); (case side1 => exact zC (Kd.R_reads' HO_9.out).2.2); (case side2 => rw [show t366.length = t353.length from (Kd.R_reads' HO_9.out).1.symm]; exact (Kd.R_reads' HO_9.out).2.1); rintro e w51 ⟨rfl, hb⟩; refine ⟨_, rfl, ?_⟩; have n0_ := ak (Kd.R_below (zR HO_6.out) hb); have n1_ := ak (Kd.R_below (zR HO_9.out) hb); have n2_ := ak (blk_below (g := 0) (o := .cells #[.int .i64 a977_0] 3 (0, 0)) (zK BK977.out) hb); have n3_ := ak (below_step (zB HB.out) hb); clear HO_6 HO_9 BK977 HB; have HO_6 := n0_; have HO_9 := n1_; have BK977 := n2_; have HB := n3_; clear n0_ n1_ n2_ n3_; (try clear hb); (try clear hb2); (try clear hk); (try clear hi)) | ((with_reducible refine gate_callee (f := 13) rfl ?_); refine goesL_ (some 82) rfl rfl Tryd.func13 (by kernel_rfl) rfl #[.slice A0 l0.length c0] rfl (by (try simp only [List.map_toArray, List.map_cons, List.map_nil]); first | done | rfl | (simp only [List.length_drop, List.length_take]; rfl)) ?_; (with_reducible refine (laws_toHabitS.calls kj28 _ _ l0 t368 _ ?side1 ?side2 A46.out).mono ?_); (case side1 => repeat (first | exact (Kd.C_below HR0.out HB.out) | (with_reducible refine Kd.C_alloc ?_ _) | (with_reducible refine Kd.C_drewN ?_ _) | (with_reducible refine Kd.C_drew ?_))); (case side2 => exact HC0.out); rintro e w52 ⟨v369, rfl, ho0, hb⟩; refine ⟨_, rfl, ?_⟩; have n0_ := ak (Kd.R_below (zR HO_6.out) hb); have n1_ := ak (Kd.R_below (zR HO_9.out) hb); have n2_ := ak (Kd.R_lower ho0 (below_size (zB HB.out))); have n3_ := ak (blk_below (g := 0) (o := .cells #[.int .i64 a977_0] 3 (0, 0)) (zK BK977.out) hb); have n4_ := ak (below_step (zB HB.out) hb); clear HO_6 HO_9 BK977 HB; have HO_6 := n0_; have HO_9 := n1_; have HO370 := n2_; have BK977 := n3_; have HB := n4_; clear n0_ n1_ n2_ n3_ n4_; (try clear hb); (try clear hb2); (try clear hk); (try clear hi); (try clear ho0); obtain ⟨Ao53, co53, eo53⟩ := Kd.R_slice HO370.out; subst eo53) | ((with_reducible refine gate_callee (f := 14) rfl ?_); refine goesL_ (some 84) rfl rfl Tryd.func14 (by kernel_rfl) rfl #[.slice Ao53 t368.length co53, .string a1] rfl (by (try simp only [List.map_toArray, List.map_cons, List.map_nil]); first | done | rfl | (simp only [List.length_drop, List.length_take]; rfl)) ?_; (with_reducible refine (impl_FirstWords.calls kj28 _ _ t368 a1 a977_0 t371 t374 _ ?side1 ?side2 ?side3 A47.out).mono ?_); (case side1 => exact zC (Kd.R_reads' HO370.out).2.2); (case side2 => exact (Kd.R_reads' HO370.out).2.1); (case side3 => exact (by first | exact BK977.out | ((with_reducible repeat (first | refine blk_drewN ?_ _ | refine blk_drew ?_ | refine blk_alloc ?_ _)); exact BK977.out))); rintro e w54 ⟨v372, rfl, ho0, hb⟩; refine ⟨_, rfl, ?_⟩; have n0_ := ak (Kd.R_elder' (zR HO_6.out) (Kd.R_base ho0) hb); have n1_ := ak (Kd.R_elder' (zR HO_9.out) (Kd.R_base ho0) hb); have n2_ := ak (Kd.R_below (zR HO370.out) hb); have n3_ := ak (Kd.R_lower (Kd.R_new' (Kd.R_new' ho0 (Kd.R_lt (zR HO_6.out))) (Kd.R_lt (zR HO_9.out))) (below_size (zB HB.out))); have n4_ := ak (blk_below (g := 0) (o := .cells #[.int .i64 a977_0] 3 (0, 0)) (zK BK977.out) hb); have n5_ := ak (below_step (zB HB.out) hb); clear HO_6 HO_9 HO370 BK977 HB; have HO_6 := n0_; have HO_9 := n1_; have HO370 := n2_; have HO373 := n3_; have BK977 := n4_; have HB := n5_; clear n0_ n1_ n2_ n3_ n4_ n5_; (try clear hb); (try clear hb2); (try clear hk); (try clear hi); (try clear ho0)))
 (try simp only [Act.put, zs, zz, zk])
 go_cut [95] (fun v95 wc => ∃ (kq : Nat) (x95_47 : Bool), v95 = .bool x95_47 ∧ Aside0 (laws_FnExactFirstWords.j2 kq t366 t365 x95_47 = some r) ∧ Aside0 (kq ≤ kj28) ∧ Aside0 (Kd.R Kd.string 9 wc w.heap.size (fun _ => True) (.slice Ao49 t353.length co49) t366) ∧ Aside0 (wc.heap[0]? = some (.cells #[.int .i64 a977_0] 3 (0, 0))) ∧ Aside0 (Below w.heap.size w wc))
 case first => (
 have H := HC48.out
 clear HC48
 replace H := Option.bind_eq_some_iff.mp H
 obtain ⟨t375, A550, H⟩ := H
 replace H : (if t375 = true then (laws_FnExactFirstWords.j2 kj28 t366 t365 (t374 != t347)) else (laws_FnExactFirstWords.j2 kj28 t366 t365 true)) = some r := H
 have A55 := ak A550
 clear A550
 by_cases c56 : t375 = true
 {
 subst c56
 have H1 : (laws_FnExactFirstWords.j2 kj28 t366 t365 (t374 != t347)) = some r := by rw [if_pos rfl] at H; exact H
 clear H
 have H := H1
 clear H1
 have H' := ak H
 clear H
 obtain ⟨Ao57, co57, eo57⟩ := Kd.R_slice HO373.out
 subst eo57
 obtain ⟨Ao58, co58, eo58⟩ := Kd.R_slice HO_6.out
 subst eo58
 go_wp2_with (first | ((with_reducible refine gate_callee (f := 8) rfl ?_); refine goesL_ (some 89) rfl rfl Tryd.func8 (by kernel_rfl) rfl #[.slice Ao57 t371.length co57, .slice Ao58 t346.length co58] rfl (by (try simp only [List.map_toArray, List.map_cons, List.map_nil]); first | done | rfl | (simp only [List.length_drop, List.length_take]; rfl)) ?_; (with_reducible refine (laws_eqStringS.calls kj28 _ _ t371 _ _ t346 true _ ?side1 ?side2 ?side3 ?side4 A55.out).mono ?_); (case side1 => exact zC (Kd.R_reads' HO373.out).2.2); (case side2 => exact (Kd.R_reads' HO373.out).2.1); (case side3 => exact zC (Kd.R_reads' HO_6.out).2.2); (case side4 => exact (Kd.R_reads' HO_6.out).2.1); rintro e w' ⟨rfl, ⟨nd, rfl⟩⟩; refine ⟨_, rfl, ?_⟩))
 go_meet
 case rel => exact ⟨_, ((t374 != t347)), (by first | rfl | (simp; done) | (simp [*]; done)), H', ⟨by have := HJ10.out; have := HJ28.out; first | omega | exact Nat.le_refl _⟩, ⟨by (with_reducible repeat (first | apply Kd.R_alloc | apply Kd.R_drewN | apply Kd.R_drew)); exact Kd.R_mono HO_9.out (fun _ hk => trivial)⟩, ⟨by (with_reducible repeat (first | refine blk_drewN ?_ _ | refine blk_drew ?_ | refine blk_alloc ?_ _)); exact BK977.out⟩, ⟨by repeat (first | (with_reducible first | exact HB.out | apply below_alloc | apply pw_below_drewN | apply below_drew1 | refine below_set ?_ GE977.out) | exact HB.out)⟩⟩
 }
 {
 replace c56 := Bool.eq_false_iff.mpr c56
 subst c56
 have H1 : (laws_FnExactFirstWords.j2 kj28 t366 t365 true) = some r := by rw [if_neg (show ¬ (false = true) by decide)] at H; exact H
 clear H
 have H := H1
 clear H1
 have H' := ak H
 clear H
 obtain ⟨Ao59, co59, eo59⟩ := Kd.R_slice HO373.out
 subst eo59
 obtain ⟨Ao60, co60, eo60⟩ := Kd.R_slice HO_6.out
 subst eo60
 go_wp2_with (first | ((with_reducible refine gate_callee (f := 8) rfl ?_); refine goesL_ (some 89) rfl rfl Tryd.func8 (by kernel_rfl) rfl #[.slice Ao59 t371.length co59, .slice Ao60 t346.length co60] rfl (by (try simp only [List.map_toArray, List.map_cons, List.map_nil]); first | done | rfl | (simp only [List.length_drop, List.length_take]; rfl)) ?_; (with_reducible refine (laws_eqStringS.calls kj28 _ _ t371 _ _ t346 false _ ?side1 ?side2 ?side3 ?side4 A55.out).mono ?_); (case side1 => exact zC (Kd.R_reads' HO373.out).2.2); (case side2 => exact (Kd.R_reads' HO373.out).2.1); (case side3 => exact zC (Kd.R_reads' HO_6.out).2.2); (case side4 => exact (Kd.R_reads' HO_6.out).2.1); rintro e w' ⟨rfl, ⟨nd, rfl⟩⟩; refine ⟨_, rfl, ?_⟩))
 go_meet
 case rel => exact ⟨_, (true), (by first | rfl | (simp; done) | (simp [*]; done)), H', ⟨by have := HJ10.out; have := HJ28.out; first | omega | exact Nat.le_refl _⟩, ⟨by (with_reducible repeat (first | apply Kd.R_alloc | apply Kd.R_drewN | apply Kd.R_drew)); exact Kd.R_mono HO_9.out (fun _ hk => trivial)⟩, ⟨by (with_reducible repeat (first | refine blk_drewN ?_ _ | refine blk_drew ?_ | refine blk_alloc ?_ _)); exact BK977.out⟩, ⟨by repeat (first | (with_reducible first | exact HB.out | apply below_alloc | apply pw_below_drewN | apply below_drew1 | refine below_set ?_ GE977.out) | exact HB.out)⟩⟩
 }
 )
 case rest => (
 clear HC48
 try clear c1
 try clear c2
 try clear p2
 try clear c3
 try clear c4
 try clear c4b0
 try clear c4b1
 try clear c5
 try clear c6
 try clear c6b0
 try clear c8
 try clear c9
 try clear hx9
 try clear c10
 try clear c11
 try clear c12
 try clear c13
 try clear c14
 try clear c15
 try clear c16
 try clear c19
 try clear c24
 try clear c27
 try clear c34
 try clear c34b0
 try clear c36
 try clear c41
 try clear c44
 try clear c44b0
 try clear c45
 try clear c45b0
 try clear c45b1
 try clear c56
 try clear p2
 obtain ⟨kq, x95_47, rfl, HA, HJ47, HO_9, BK977, HB⟩ := hcut
 have hl9_47 := (Kd.R_reads' HO_9.out).1
 rw [hl9_47] at HO_9
 (try simp only [hl9_47])
 (try simp only [hl9_47] at BK977)
 cases kq with
 | zero => exact absurd HA.out (by simp [laws_FnExactFirstWords.j2])
 | succ kj47 => (
 have H := HA.out
 clear HA
 simp only [laws_FnExactFirstWords.j2] at H
 by_cases c61 : x95_47 = true
 {
 subst c61
 have H1 : (some false) = some r := by rw [if_pos rfl] at H; exact H
 clear H
 have H := H1
 clear H1
 exact absurd ((Option.some.inj H).trans HT.out) (by decide)
 }
 {
 replace c61 := Bool.eq_false_iff.mpr c61
 subst c61
 have H1 : ((laws_heldStringS.f kj47 t366 1).bind fun t376 => (if t376 < 0 then (some false) else (if t376 = t365 then (some true) else (some false)))) = some r := by rw [if_neg (show ¬ (false = true) by decide)] at H; exact H
 clear H
 have H := H1
 clear H1
 replace H := Option.bind_eq_some_iff.mp H
 obtain ⟨t376, A620, H⟩ := H
 replace H : (if t376 < 0 then (some false) else (if t376 = t365 then (some true) else (some false))) = some r := H
 have A62 := ak A620
 clear A620
 by_cases c63 : t376 < 0
 · rw [if_pos c63] at H; have c63b0 : decide (t376 < 0) = true := decide_eq_true c63; clear c63; exact absurd ((Option.some.inj H).trans HT.out) (by decide)
 {
 rw [if_neg c63] at H
 have c63b0 : decide (t376 < 0) = false := decide_eq_false c63
 clear c63
 by_cases c64 : t376 = t365
 {
 rw [if_pos c64] at H
 have c64b0 : (t376 == t365) = true := beq_iff_eq.mpr c64
 have c64b1 : (t376 != t365) = false := bne_eq_false_iff_eq.mpr c64
 clear c64
 obtain rfl := Option.some.inj H
 go_wp2_with (first | ((with_reducible refine gate_callee (f := 10) rfl ?_); refine goesL_ (some 98) rfl rfl Tryd.func10 (by kernel_rfl) rfl #[.slice Ao49 t366.length co49, .int .i64 1] rfl (by (try simp only [List.map_toArray, List.map_cons, List.map_nil]); first | done | rfl | (simp only [List.length_drop, List.length_take]; rfl)) ?_; (with_reducible refine (laws_heldStringS.calls kj47 _ _ t366 1 t376 _ ?side1 ?side2 A62.out).mono ?_); (case side1 => exact zC (Kd.R_reads' HO_9.out).2.2); (case side2 => exact (Kd.R_reads' HO_9.out).2.1); rintro e w65 ⟨rfl, hb⟩; refine ⟨_, rfl, ?_⟩; have n0_ := ak (Kd.R_below (zR HO_9.out) hb); have n1_ := ak (blk_below (g := 0) (o := .cells #[.int .i64 a977_0] 3 (0, 0)) (zK BK977.out) hb); have n2_ := ak (below_step (zB HB.out) hb); clear HO_9 BK977 HB; have HO_9 := n0_; have BK977 := n1_; have HB := n2_; clear n0_ n1_ n2_; (try clear hb); (try clear hb2); (try clear hk); (try clear hi)))
 go_ret
 exact ⟨by first | rfl | (simp [errW_none, errW_some] <;> rfl) | (simp [*, errW_none, errW_some] <;> rfl), by repeat (first | (with_reducible first | exact HB.out | apply below_alloc | apply pw_below_drewN | apply below_drew1 | refine below_set ?_ GE977.out) | exact HB.out)⟩
 }
 · rw [if_neg c64] at H; have c64b0 : (t376 == t365) = false := beq_eq_false_iff_ne.mpr c64; have c64b1 : (t376 != t365) = true := bne_iff_ne.mpr c64; exact absurd ((Option.some.inj H).trans HT.out) (by decide)
 }
 }
 )
 )
 }
 · rw [if_neg c45] at H; have c45b0 : (t367 == t365) = false := beq_eq_false_iff_ne.mpr c45; have c45b1 : (t367 != t365) = true := bne_iff_ne.mpr c45; exact absurd ((Option.some.inj H).trans HT.out) (by decide)
 }
 }
 )
 )
 }
 {
 replace c27 := Bool.eq_false_iff.mpr c27
 subst c27
 have H1 : (some false) = some r := by rw [if_neg (show ¬ (false = true) by decide)] at H; exact H
 clear H
 have H := H1
 clear H1
 exact absurd ((Option.some.inj H).trans HT.out) (by decide)
 }
 }
 )
 )
 }
 }
/-- THE ONE PURE STATEMENT of laws_FnExactFirstWords: mine. -/
def laws_FnExactFirstWords.Pure : Prop := ∀ (l0 : List (S24)) (a1 : ByteArray) (a977_0 : Int), (l0.length ≤ 9223372036854775807 ∧ ∀ x_ ∈ l0, (((Lit.int .i8 x_.f0).wf = true) ∧ ((Lit.int .u8 x_.f1).wf = true) ∧ ((Lit.int .u8 x_.f2).wf = true))) → (a1.size ≤ 9223372036854775807) → ∃ k, laws_FnExactFirstWords.f k l0 a1 a977_0 = some true

end Go.Proofs.YtgnnpgallnafcaaDoor.P
