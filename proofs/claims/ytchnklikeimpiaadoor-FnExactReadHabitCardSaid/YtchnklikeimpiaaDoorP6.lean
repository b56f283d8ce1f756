-- Printed by wip/print (my turned copy of the kit's print) out of the translation; Lean checks it.
import Derived.Test.YtchnklikeimpiaaDoorP0
import Derived.Test.YtchnklikeimpiaaDoorP1
import Derived.Test.YtchnklikeimpiaaDoorP5
namespace Go.Proofs.YtchnklikeimpiaaDoor.P
open Go.RowKit Go.Proofs.YtchnklikeimpiaaDoorW.PrintWords Go.Proofs.YtchnklikeimpiaaDoorW.PrintLast Go.Proofs.YtchnklikeimpiaaDoorW.PrintMore
attribute [local go_sem] max2_int min2_int max_two min_two max_three min_three max_four min_four   -- for this text's walks alone
set_option linter.unusedVariables false
set_option linter.unusedSimpArgs false

/-! ### spec_ReadHabit: function 6 -/
mutual
def spec_ReadHabit.l0 : Nat → ByteArray → List ByteArray → List ByteArray → List Int → Int → Option (Int × Int × Int × Int)
  | 0, _, _, _, _, _ => none
  | k + 1, x0, x4, x5, x6, x7 => if x7 < (x5.length : Int) then (if 0 < (x4.length : Int) then (if 0 ≤ x7 then (if (rdOf ByteArray.empty x4 0).toList = (rdOf ByteArray.empty x5 x7).toList then (if x7 < (x6.length : Int) then (spec_ReadHabit.j1 k x0 x4 x5 x6 x7 ((x4.length : Int) != (wrap64 ((rd x6 x7) + 1)))) else (none)) else (spec_ReadHabit.j1 k x0 x4 x5 x6 x7 true)) else (none)) else (none)) else (some (0, 0, 0, 5))
def spec_ReadHabit.j1 : Nat → ByteArray → List ByteArray → List ByteArray → List Int → Int → Bool → Option (Int × Int × Int × Int)
  | 0, _, _, _, _, _, _ => none
  | k + 1, x0, x4, x5, x6, x7, x36 => if x36 = true then (spec_ReadHabit.l0 k x0 x4 x5 x6 (wrap64 (x7 + 1))) else (if (x4.length : Int) > 1 then (if 1 < (x4.length : Int) then (spec_ReadHabit.j2 k x0 x4 x5 x6 x7 (((rdOf ByteArray.empty x4 1).size : Int) == 1) (IntKind.i8.wrap (x7)) 0 0) else (none)) else (spec_ReadHabit.j2 k x0 x4 x5 x6 x7 false (IntKind.i8.wrap (x7)) 0 0))
def spec_ReadHabit.j2 : Nat → ByteArray → List ByteArray → List ByteArray → List Int → Int → Bool → Int → Int → Int → Option (Int × Int × Int × Int)
  | 0, _, _, _, _, _, _, _, _, _ => none
  | k + 1, x0, x4, x5, x6, x7, x49, x136000, x136001, x136002 => if x49 = true then (if 1 < (x4.length : Int) then (if 0 < ((rdOf ByteArray.empty x4 1).size : Int) then (spec_ReadHabit.j3 k x0 x4 x5 x6 x7 x136000 (bt (rdOf ByteArray.empty x4 1) 0) x136002) else (none)) else (none)) else (spec_ReadHabit.j3 k x0 x4 x5 x6 x7 x136000 x136001 x136002)
def spec_ReadHabit.j3 : Nat → ByteArray → List ByteArray → List ByteArray → List Int → Int → Int → Int → Int → Option (Int × Int × Int × Int)
  | 0, _, _, _, _, _, _, _, _ => none
  | k + 1, x0, x4, x5, x6, x7, x136000, x136001, x136002 => if (x4.length : Int) > 2 then (if 2 < (x4.length : Int) then (spec_ReadHabit.j4 k x0 x4 x5 x6 x7 (((rdOf ByteArray.empty x4 2).size : Int) == 1) x136000 x136001 x136002) else (none)) else (spec_ReadHabit.j4 k x0 x4 x5 x6 x7 false x136000 x136001 x136002)
def spec_ReadHabit.j4 : Nat → ByteArray → List ByteArray → List ByteArray → List Int → Int → Bool → Int → Int → Int → Option (Int × Int × Int × Int)
  | 0, _, _, _, _, _, _, _, _, _ => none
  | k + 1, x0, x4, x5, x6, x7, x64, x136000, x136001, x136002 => if x64 = true then (if 2 < (x4.length : Int) then (if 0 < ((rdOf ByteArray.empty x4 2).size : Int) then (spec_ReadHabit.j5 k x0 x4 x5 x6 x7 x136000 x136001 (bt (rdOf ByteArray.empty x4 2) 0)) else (none)) else (none)) else (spec_ReadHabit.j5 k x0 x4 x5 x6 x7 x136000 x136001 x136002)
def spec_ReadHabit.j5 : Nat → ByteArray → List ByteArray → List ByteArray → List Int → Int → Int → Int → Int → Option (Int × Int × Int × Int)
  | 0, _, _, _, _, _, _, _, _ => none
  | k + 1, x0, x4, x5, x6, x7, x136000, x136001, x136002 => (spec_l04Habit.f k x136000 x136001 x136002).bind fun t140 => (if t140 = true then ((spec_l04Text.f x136000 x136001 x136002).bind fun t141 => (if t141.toList = x0.toList then (some (x136000, x136001, x136002, 0)) else (spec_ReadHabit.l0 k x0 x4 x5 x6 (wrap64 (x7 + 1))))) else (spec_ReadHabit.l0 k x0 x4 x5 x6 (wrap64 (x7 + 1))))
end
def spec_ReadHabit.f (k : Nat) (a0 : ByteArray) : Option (Int × Int × Int × Int) := (spec_l01Split.f k a0 32).bind fun t123 => (spec_ReadHabit.l0 k a0 t123 (([(⟨#[110, 111, 110, 101]⟩ : ByteArray), (⟨#[115, 119, 97, 112]⟩ : ByteArray), (⟨#[100, 114, 111, 112]⟩ : ByteArray), (⟨#[100, 111, 117, 98, 108, 101]⟩ : ByteArray), (⟨#[116, 117, 114, 110]⟩ : ByteArray)] : List ByteArray)) (([0, 2, 1, 0, 1] : List Int)) 0)
theorem spec_ReadHabit.mono_l : ∀ k, (∀ y0 y1 y2 y3 y4, LeO (spec_ReadHabit.l0 k y0 y1 y2 y3 y4) (spec_ReadHabit.l0 (k + 1) y0 y1 y2 y3 y4)) ∧ (∀ y0 y1 y2 y3 y4 y5, LeO (spec_ReadHabit.j1 k y0 y1 y2 y3 y4 y5) (spec_ReadHabit.j1 (k + 1) y0 y1 y2 y3 y4 y5)) ∧ (∀ y0 y1 y2 y3 y4 y5 y6 y7 y8, LeO (spec_ReadHabit.j2 k y0 y1 y2 y3 y4 y5 y6 y7 y8) (spec_ReadHabit.j2 (k + 1) y0 y1 y2 y3 y4 y5 y6 y7 y8)) ∧ (∀ y0 y1 y2 y3 y4 y5 y6 y7, LeO (spec_ReadHabit.j3 k y0 y1 y2 y3 y4 y5 y6 y7) (spec_ReadHabit.j3 (k + 1) y0 y1 y2 y3 y4 y5 y6 y7)) ∧ (∀ y0 y1 y2 y3 y4 y5 y6 y7 y8, LeO (spec_ReadHabit.j4 k y0 y1 y2 y3 y4 y5 y6 y7 y8) (spec_ReadHabit.j4 (k + 1) y0 y1 y2 y3 y4 y5 y6 y7 y8)) ∧ (∀ y0 y1 y2 y3 y4 y5 y6 y7, LeO (spec_ReadHabit.j5 k y0 y1 y2 y3 y4 y5 y6 y7) (spec_ReadHabit.j5 (k + 1) y0 y1 y2 y3 y4 y5 y6 y7))
  | 0 => ⟨fun _ _ _ _ _ r h => by simp [spec_ReadHabit.l0] at h, fun _ _ _ _ _ _ r h => by simp [spec_ReadHabit.j1] at h, fun _ _ _ _ _ _ _ _ _ r h => by simp [spec_ReadHabit.j2] at h, fun _ _ _ _ _ _ _ _ r h => by simp [spec_ReadHabit.j3] at h, fun _ _ _ _ _ _ _ _ _ r h => by simp [spec_ReadHabit.j4] at h, fun _ _ _ _ _ _ _ _ r h => by simp [spec_ReadHabit.j5] at h⟩
  | k + 1 => by
    obtain ⟨ih0, ih1, ih2, ih3, ih4, ih5⟩ := spec_ReadHabit.mono_l k
    refine ⟨?_, ?_, ?_, ?_, ?_, ?_⟩
    · intro y0 y1 y2 y3 y4
      unfold spec_ReadHabit.l0
      repeat' first
      | (with_reducible exact ih0 _ _ _ _ _)
      | (with_reducible exact ih1 _ _ _ _ _ _)
      | (with_reducible exact ih2 _ _ _ _ _ _ _ _ _)
      | (with_reducible exact ih3 _ _ _ _ _ _ _ _)
      | (with_reducible exact ih4 _ _ _ _ _ _ _ _ _)
      | (with_reducible exact ih5 _ _ _ _ _ _ _ _)
      | (with_reducible exact spec_l01Split.mono _ _ _)
      | (with_reducible exact spec_l04Habit.mono _ _ _ _)
      | (with_reducible exact LeO.refl _)
      | (with_reducible exact LeO.none _)
      | (with_reducible refine LeO.ite ?_ ?_)
      | (with_reducible refine LeO.bind ?_ (fun _ => ?_))
      | exact ih0 _ _ _ _ _
      | exact ih1 _ _ _ _ _ _
      | exact ih2 _ _ _ _ _ _ _ _ _
      | exact ih3 _ _ _ _ _ _ _ _
      | exact ih4 _ _ _ _ _ _ _ _ _
      | exact ih5 _ _ _ _ _ _ _ _
      | exact spec_l01Split.mono _ _ _
      | exact spec_l04Habit.mono _ _ _ _
      | exact LeO.none _
      | refine LeO.ite ?_ ?_
      | refine LeO.bind ?_ (fun _ => ?_)
    · intro y0 y1 y2 y3 y4 y5
      unfold spec_ReadHabit.j1
      repeat' first
      | (with_reducible exact ih0 _ _ _ _ _)
      | (with_reducible exact ih1 _ _ _ _ _ _)
      | (with_reducible exact ih2 _ _ _ _ _ _ _ _ _)
      | (with_reducible exact ih3 _ _ _ _ _ _ _ _)
      | (with_reducible exact ih4 _ _ _ _ _ _ _ _ _)
      | (with_reducible exact ih5 _ _ _ _ _ _ _ _)
      | (with_reducible exact spec_l01Split.mono _ _ _)
      | (with_reducible exact spec_l04Habit.mono _ _ _ _)
      | (with_reducible exact LeO.refl _)
      | (with_reducible exact LeO.none _)
      | (with_reducible refine LeO.ite ?_ ?_)
      | (with_reducible refine LeO.bind ?_ (fun _ => ?_))
      | exact ih0 _ _ _ _ _
      | exact ih1 _ _ _ _ _ _
      | exact ih2 _ _ _ _ _ _ _ _ _
      | exact ih3 _ _ _ _ _ _ _ _
      | exact ih4 _ _ _ _ _ _ _ _ _
      | exact ih5 _ _ _ _ _ _ _ _
      | exact spec_l01Split.mono _ _ _
      | exact spec_l04Habit.mono _ _ _ _
      | exact LeO.none _
      | refine LeO.ite ?_ ?_
      | refine LeO.bind ?_ (fun _ => ?_)
    · intro y0 y1 y2 y3 y4 y5 y6 y7 y8
      unfold spec_ReadHabit.j2
      repeat' first
      | (with_reducible exact ih0 _ _ _ _ _)
      | (with_reducible exact ih1 _ _ _ _ _ _)
      | (with_reducible exact ih2 _ _ _ _ _ _ _ _ _)
      | (with_reducible exact ih3 _ _ _ _ _ _ _ _)
      | (with_reducible exact ih4 _ _ _ _ _ _ _ _ _)
      | (with_reducible exact ih5 _ _ _ _ _ _ _ _)
      | (with_reducible exact spec_l01Split.mono _ _ _)
      | (with_reducible exact spec_l04Habit.mono _ _ _ _)
      | (with_reducible exact LeO.refl _)
      | (with_reducible exact LeO.none _)
      | (with_reducible refine LeO.ite ?_ ?_)
      | (with_reducible refine LeO.bind ?_ (fun _ => ?_))
      | exact ih0 _ _ _ _ _
      | exact ih1 _ _ _ _ _ _
      | exact ih2 _ _ _ _ _ _ _ _ _
      | exact ih3 _ _ _ _ _ _ _ _
      | exact ih4 _ _ _ _ _ _ _ _ _
      | exact ih5 _ _ _ _ _ _ _ _
      | exact spec_l01Split.mono _ _ _
      | exact spec_l04Habit.mono _ _ _ _
      | exact LeO.none _
      | refine LeO.ite ?_ ?_
      | refine LeO.bind ?_ (fun _ => ?_)
    · intro y0 y1 y2 y3 y4 y5 y6 y7
      unfold spec_ReadHabit.j3
      repeat' first
      | (with_reducible exact ih0 _ _ _ _ _)
      | (with_reducible exact ih1 _ _ _ _ _ _)
      | (with_reducible exact ih2 _ _ _ _ _ _ _ _ _)
      | (with_reducible exact ih3 _ _ _ _ _ _ _ _)
      | (with_reducible exact ih4 _ _ _ _ _ _ _ _ _)
      | (with_reducible exact ih5 _ _ _ _ _ _ _ _)
      | (with_reducible exact spec_l01Split.mono _ _ _)
      | (with_reducible exact spec_l04Habit.mono _ _ _ _)
      | (with_reducible exact LeO.refl _)
      | (with_reducible exact LeO.none _)
      | (with_reducible refine LeO.ite ?_ ?_)
      | (with_reducible refine LeO.bind ?_ (fun _ => ?_))
      | exact ih0 _ _ _ _ _
      | exact ih1 _ _ _ _ _ _
      | exact ih2 _ _ _ _ _ _ _ _ _
      | exact ih3 _ _ _ _ _ _ _ _
      | exact ih4 _ _ _ _ _ _ _ _ _
      | exact ih5 _ _ _ _ _ _ _ _
      | exact spec_l01Split.mono _ _ _
      | exact spec_l04Habit.mono _ _ _ _
      | exact LeO.none _
      | refine LeO.ite ?_ ?_
      | refine LeO.bind ?_ (fun _ => ?_)
    · intro y0 y1 y2 y3 y4 y5 y6 y7 y8
      unfold spec_ReadHabit.j4
      repeat' first
      | (with_reducible exact ih0 _ _ _ _ _)
      | (with_reducible exact ih1 _ _ _ _ _ _)
      | (with_reducible exact ih2 _ _ _ _ _ _ _ _ _)
      | (with_reducible exact ih3 _ _ _ _ _ _ _ _)
      | (with_reducible exact ih4 _ _ _ _ _ _ _ _ _)
      | (with_reducible exact ih5 _ _ _ _ _ _ _ _)
      | (with_reducible exact spec_l01Split.mono _ _ _)
      | (with_reducible exact spec_l04Habit.mono _ _ _ _)
      | (with_reducible exact LeO.refl _)
      | (with_reducible exact LeO.none _)
      | (with_reducible refine LeO.ite ?_ ?_)
      | (with_reducible refine LeO.bind ?_ (fun _ => ?_))
      | exact ih0 _ _ _ _ _
      | exact ih1 _ _ _ _ _ _
      | exact ih2 _ _ _ _ _ _ _ _ _
      | exact ih3 _ _ _ _ _ _ _ _
      | exact ih4 _ _ _ _ _ _ _ _ _
      | exact ih5 _ _ _ _ _ _ _ _
      | exact spec_l01Split.mono _ _ _
      | exact spec_l04Habit.mono _ _ _ _
      | exact LeO.none _
      | refine LeO.ite ?_ ?_
      | refine LeO.bind ?_ (fun _ => ?_)
    · intro y0 y1 y2 y3 y4 y5 y6 y7
      unfold spec_ReadHabit.j5
      repeat' first
      | (with_reducible exact ih0 _ _ _ _ _)
      | (with_reducible exact ih1 _ _ _ _ _ _)
      | (with_reducible exact ih2 _ _ _ _ _ _ _ _ _)
      | (with_reducible exact ih3 _ _ _ _ _ _ _ _)
      | (with_reducible exact ih4 _ _ _ _ _ _ _ _ _)
      | (with_reducible exact ih5 _ _ _ _ _ _ _ _)
      | (with_reducible exact spec_l01Split.mono _ _ _)
      | (with_reducible exact spec_l04Habit.mono _ _ _ _)
      | (with_reducible exact LeO.refl _)
      | (with_reducible exact LeO.none _)
      | (with_reducible refine LeO.ite ?_ ?_)
      | (with_reducible refine LeO.bind ?_ (fun _ => ?_))
      | exact ih0 _ _ _ _ _
      | exact ih1 _ _ _ _ _ _
      | exact ih2 _ _ _ _ _ _ _ _ _
      | exact ih3 _ _ _ _ _ _ _ _
      | exact ih4 _ _ _ _ _ _ _ _ _
      | exact ih5 _ _ _ _ _ _ _ _
      | exact spec_l01Split.mono _ _ _
      | exact spec_l04Habit.mono _ _ _ _
      | exact LeO.none _
      | refine LeO.ite ?_ ?_
      | refine LeO.bind ?_ (fun _ => ?_)
theorem spec_ReadHabit.mono : ∀ a0 k, LeO (spec_ReadHabit.f k a0) (spec_ReadHabit.f (k + 1) a0) := by
  intro a0 k
  obtain ⟨ih0, ih1, ih2, ih3, ih4, ih5⟩ := spec_ReadHabit.mono_l k
  unfold spec_ReadHabit.f
  repeat' first
      | (with_reducible exact ih0 _ _ _ _ _)
      | (with_reducible exact ih1 _ _ _ _ _ _)
      | (with_reducible exact ih2 _ _ _ _ _ _ _ _ _)
      | (with_reducible exact ih3 _ _ _ _ _ _ _ _)
      | (with_reducible exact ih4 _ _ _ _ _ _ _ _ _)
      | (with_reducible exact ih5 _ _ _ _ _ _ _ _)
      | (with_reducible exact spec_l01Split.mono _ _ _)
      | (with_reducible exact spec_l04Habit.mono _ _ _ _)
      | (with_reducible exact LeO.refl _)
      | (with_reducible exact LeO.none _)
      | (with_reducible refine LeO.ite ?_ ?_)
      | (with_reducible refine LeO.bind ?_ (fun _ => ?_))
      | exact ih0 _ _ _ _ _
      | exact ih1 _ _ _ _ _ _
      | exact ih2 _ _ _ _ _ _ _ _ _
      | exact ih3 _ _ _ _ _ _ _ _
      | exact ih4 _ _ _ _ _ _ _ _ _
      | exact ih5 _ _ _ _ _ _ _ _
      | exact spec_l01Split.mono _ _ _
      | exact spec_l04Habit.mono _ _ _ _
      | exact LeO.none _
      | refine LeO.ite ?_ ?_
      | refine LeO.bind ?_ (fun _ => ?_)
set_option maxHeartbeats 8000000 in
set_option maxRecDepth 100000 in
theorem spec_ReadHabit.calls (k : Nat) (a0 : ByteArray) (r1 : Int) (r2 : Int) (r3 : Int) (r4 : Int) (w : World) (h : spec_ReadHabit.f k a0 = some (r1, r2, r3, r4)) :
    Calls Tryd.prog 6 #[.string a0] w fun e w' => e = .returned (.tuple #[.agg #[.int .i8 r1, .int .u8 r2, .int .u8 r3], .int .i64 r4]) ∧ Below w.heap.size w w' := by
 have hu24 := Tryd.underlying24
 have HB := ak (Below.refl w.heap.size w)
 have H : ((spec_l01Split.f k a0 32).bind fun t123 => (spec_ReadHabit.l0 k a0 t123 (([(⟨#[110, 111, 110, 101]⟩ : ByteArray), (⟨#[115, 119, 97, 112]⟩ : ByteArray), (⟨#[100, 114, 111, 112]⟩ : ByteArray), (⟨#[100, 111, 117, 98, 108, 101]⟩ : ByteArray), (⟨#[116, 117, 114, 110]⟩ : ByteArray)] : List ByteArray)) (([0, 2, 1, 0, 1] : List Int)) 0)) = some (r1, r2, r3, r4) := h
 clear h
 replace H := Option.bind_eq_some_iff.mp H
 obtain ⟨t123, A20, H⟩ := H
 replace H : (spec_ReadHabit.l0 k a0 t123 (([(⟨#[110, 111, 110, 101]⟩ : ByteArray), (⟨#[115, 119, 97, 112]⟩ : ByteArray), (⟨#[100, 114, 111, 112]⟩ : ByteArray), (⟨#[100, 111, 117, 98, 108, 101]⟩ : ByteArray), (⟨#[116, 117, 114, 110]⟩ : ByteArray)] : List ByteArray)) (([0, 2, 1, 0, 1] : List Int)) 0) = some (r1, r2, r3, r4) := H
 have A2 := ak A20
 clear A20
 obtain ⟨y126, hy126⟩ : ∃ y_ : List ByteArray, y_ = (([(⟨#[110, 111, 110, 101]⟩ : ByteArray), (⟨#[115, 119, 97, 112]⟩ : ByteArray), (⟨#[100, 114, 111, 112]⟩ : ByteArray), (⟨#[100, 111, 117, 98, 108, 101]⟩ : ByteArray), (⟨#[116, 117, 114, 110]⟩ : ByteArray)] : List ByteArray)) := ⟨_, rfl⟩
 replace H : (spec_ReadHabit.l0 k a0 t123 y126 (([0, 2, 1, 0, 1] : List Int)) 0) = some (r1, r2, r3, r4) := by first | (rw [hy126]; with_reducible exact H) | (have H2_ := (Option.bind_some _ _).symm.trans H; rw [hy126]; with_reducible exact H2_) | (have H2_ := (Option.bind_some _ _).symm.trans H; with_reducible exact H2_) | with_reducible exact H | (rw [hy126]; exact H) | exact H
 have Ny126 := ak hy126
 clear hy126
 obtain ⟨y129, hy129⟩ : ∃ y_ : List Int, y_ = (([0, 2, 1, 0, 1] : List Int)) := ⟨_, rfl⟩
 replace H : (spec_ReadHabit.l0 k a0 t123 y126 y129 0) = some (r1, r2, r3, r4) := by first | (rw [hy129]; with_reducible exact H) | (have H2_ := (Option.bind_some _ _).symm.trans H; rw [hy129]; with_reducible exact H2_) | (have H2_ := (Option.bind_some _ _).symm.trans H; with_reducible exact H2_) | with_reducible exact H | (rw [hy129]; exact H) | exact H
 have Ny129 := ak hy129
 clear hy129
 have H' := ak H
 clear H
 go_enter Tryd.func6, Tryd.ntmps6
 go_wp2_with (first | ((with_reducible refine gate_dst (N := 2) rfl ?_); (try (refine gate_guard (by rfl) ?_; dsimp only)); refine box_event ?hg (N := 2) ?hd (cs := #[.int .i8 0, .int .u8 0, .int .u8 0]) (t := 24) ?hr ?_; (case hd => rfl); (case hg => rfl); (case hr => first | (go_simp; done) | (go_simp; rfl)); intro gb122 hg w3 hbox hb; have n0_ := ak (below_step (zB HB.out) hb); have n1_ := ak (hbox); have n2_ := ak ((by rw [hg]; exact (below_size (zB HB.out)) : w.heap.size ≤ gb122)); have n3_ := ak ((by rw [hg]; exact (below_size (zB HB.out)) : w.heap.size ≤ gb122)); clear HB; have HB := n0_; have BK122 := n1_; have GW122 := n2_; have GE122 := n3_; clear n0_ n1_ n2_ n3_; clear hb hbox hg) | (go_at_call 19; (with_reducible refine (spec_l01Split.calls k a0 32 t123 _ A2.out).mono ?_); rintro e w4 ⟨v124, rfl, ho0, hb⟩; have n0_ := ak (Kd.R_lower ho0 (below_size (zBG HB.out GE122.out))); have n1_ := ak (blk_below (g := gb122) (o := .cells #[.int .i8 0, .int .u8 0, .int .u8 0] 24 (0, 0)) (zK BK122.out) hb); have n2_ := ak (below_step (zBG HB.out GE122.out) hb); clear BK122 HB; have HO125 := n0_; have BK122 := n1_; have HB := n2_; clear n0_ n1_ n2_; (try clear hb); (try clear hb2); (try clear hk); (try clear hi); (try clear ho0)) | ((with_reducible refine gate_dst (N := 11) rfl ?_); (try (refine gate_guard (by rfl) ?_; dsimp only)); refine Kd.R_lit Kd.string _ 9 ?hg (N := 11) ?hd (xs := ([(⟨#[110, 111, 110, 101]⟩ : ByteArray), (⟨#[115, 119, 97, 112]⟩ : ByteArray), (⟨#[100, 114, 111, 112]⟩ : ByteArray), (⟨#[100, 111, 117, 98, 108, 101]⟩ : ByteArray), (⟨#[116, 117, 114, 110]⟩ : ByteArray)] : List ByteArray)) (inner := [.string (⟨#[110, 111, 110, 101]⟩ : ByteArray), .string (⟨#[115, 119, 97, 112]⟩ : ByteArray), .string (⟨#[100, 114, 111, 112]⟩ : ByteArray), .string (⟨#[100, 111, 117, 98, 108, 101]⟩ : ByteArray), .string (⟨#[116, 117, 114, 110]⟩ : ByteArray)]) (ok := fun _ => True) (okp := fun _ => True) ?hr ?hp (fun _ hk => hk) trivial (Below.refl _ _) (Nat.le_refl _) (by simp) ?_; (case hd => rfl); (case hg => rfl); (case hr => first | (go_simp; done) | (go_simp; rfl)); (case hp => exact (Reps.one (show Kd.M Kd.string _ _ _ (⟨#[110, 111, 110, 101]⟩ : ByteArray) [.string (⟨#[110, 111, 110, 101]⟩ : ByteArray)] from rfl) (Reps.one (show Kd.M Kd.string _ _ _ (⟨#[115, 119, 97, 112]⟩ : ByteArray) [.string (⟨#[115, 119, 97, 112]⟩ : ByteArray)] from rfl) (Reps.one (show Kd.M Kd.string _ _ _ (⟨#[100, 114, 111, 112]⟩ : ByteArray) [.string (⟨#[100, 114, 111, 112]⟩ : ByteArray)] from rfl) (Reps.one (show Kd.M Kd.string _ _ _ (⟨#[100, 111, 117, 98, 108, 101]⟩ : ByteArray) [.string (⟨#[100, 111, 117, 98, 108, 101]⟩ : ByteArray)] from rfl) (Reps.one (show Kd.M Kd.string _ _ _ (⟨#[116, 117, 114, 110]⟩ : ByteArray) [.string (⟨#[116, 117, 114, 110]⟩ : ByteArray)] from rfl) (Reps.none _ _))))))); intro v127 w5 ho6 hb hg_ hnew_; clear hg_ hnew_; (first | rw [← Ny126.out] at ho6 | (simp only [Int.reduceToNat] at ho6; rw [← Ny126.out] at ho6)); have n0_ := ak (Kd.R_elder' (zR HO125.out) (Kd.R_base ho6) hb); have n1_ := ak (Kd.R_lower (Kd.R_new' ho6 (Kd.R_lt (zR HO125.out))) (below_size (zBG HB.out GE122.out))); have n2_ := ak (blk_below (g := gb122) (o := .cells #[.int .i8 0, .int .u8 0, .int .u8 0] 24 (0, 0)) (zK BK122.out) hb); have n3_ := ak (below_step (zBG HB.out GE122.out) hb); clear HO125 BK122 HB; have HO125 := n0_; have HO128 := n1_; have BK122 := n2_; have HB := n3_; clear n0_ n1_ n2_ n3_; clear hb ho6) | ((with_reducible refine gate_dst (N := 12) rfl ?_); (try (refine gate_guard (by rfl) ?_; dsimp only)); refine Kd.R_lit (Kd.int .i64) _ 3 ?hg (N := 12) ?hd (xs := ([0, 2, 1, 0, 1] : List Int)) (inner := [.int .i64 0, .int .i64 2, .int .i64 1, .int .i64 0, .int .i64 1]) (ok := fun _ => True) (okp := fun _ => True) ?hr ?hp (fun _ hk => hk) trivial (Below.refl _ _) (Nat.le_refl _) (by simp) ?_; (case hd => rfl); (case hg => rfl); (case hr => first | (go_simp; done) | (go_simp; rfl)); (case hp => exact (Reps.one (show Kd.M (Kd.int .i64) _ _ _ 0 [.int .i64 0] from rfl) (Reps.one (show Kd.M (Kd.int .i64) _ _ _ 2 [.int .i64 2] from rfl) (Reps.one (show Kd.M (Kd.int .i64) _ _ _ 1 [.int .i64 1] from rfl) (Reps.one (show Kd.M (Kd.int .i64) _ _ _ 0 [.int .i64 0] from rfl) (Reps.one (show Kd.M (Kd.int .i64) _ _ _ 1 [.int .i64 1] from rfl) (Reps.none _ _))))))); intro v130 w7 ho8 hb hg_ hnew_; clear hg_ hnew_; (first | rw [← Ny129.out] at ho8 | (simp only [Int.reduceToNat] at ho8; rw [← Ny129.out] at ho8)); have n0_ := ak (Kd.R_below (zR HO125.out) hb); have n1_ := ak (Kd.R_below (zR HO128.out) hb); have n2_ := ak (Kd.R_lower ho8 (below_size (zBG HB.out GE122.out))); have n3_ := ak (blk_below (g := gb122) (o := .cells #[.int .i8 0, .int .u8 0, .int .u8 0] 24 (0, 0)) (zK BK122.out) hb); have n4_ := ak (below_step (zBG HB.out GE122.out) hb); clear HO125 HO128 BK122 HB; have HO125 := n0_; have HO128 := n1_; have HO131 := n2_; have BK122 := n3_; have HB := n4_; clear n0_ n1_ n2_ n3_ n4_; clear hb ho8))
 repeat (go_quiet (first | ((with_reducible refine gate_dst (N := 2) rfl ?_); (try (refine gate_guard (by rfl) ?_; dsimp only)); refine box_event ?hg (N := 2) ?hd (cs := #[.int .i8 0, .int .u8 0, .int .u8 0]) (t := 24) ?hr ?_; (case hd => rfl); (case hg => rfl); (case hr => first | (go_simp; done) | (go_simp; rfl)); intro gb122 hg w3 hbox hb; have n0_ := ak (below_step (zB HB.out) hb); have n1_ := ak (hbox); have n2_ := ak ((by rw [hg]; exact (below_size (zB HB.out)) : w.heap.size ≤ gb122)); have n3_ := ak ((by rw [hg]; exact (below_size (zB HB.out)) : w.heap.size ≤ gb122)); clear HB; have HB := n0_; have BK122 := n1_; have GW122 := n2_; have GE122 := n3_; clear n0_ n1_ n2_ n3_; clear hb hbox hg) | (go_at_call 19; (with_reducible refine (spec_l01Split.calls k a0 32 t123 _ A2.out).mono ?_); rintro e w4 ⟨v124, rfl, ho0, hb⟩; have n0_ := ak (Kd.R_lower ho0 (below_size (zBG HB.out GE122.out))); have n1_ := ak (blk_below (g := gb122) (o := .cells #[.int .i8 0, .int .u8 0, .int .u8 0] 24 (0, 0)) (zK BK122.out) hb); have n2_ := ak (below_step (zBG HB.out GE122.out) hb); clear BK122 HB; have HO125 := n0_; have BK122 := n1_; have HB := n2_; clear n0_ n1_ n2_; (try clear hb); (try clear hb2); (try clear hk); (try clear hi); (try clear ho0)) | ((with_reducible refine gate_dst (N := 11) rfl ?_); (try (refine gate_guard (by rfl) ?_; dsimp only)); refine Kd.R_lit Kd.string _ 9 ?hg (N := 11) ?hd (xs := ([(⟨#[110, 111, 110, 101]⟩ : ByteArray), (⟨#[115, 119, 97, 112]⟩ : ByteArray), (⟨#[100, 114, 111, 112]⟩ : ByteArray), (⟨#[100, 111, 117, 98, 108, 101]⟩ : ByteArray), (⟨#[116, 117, 114, 110]⟩ : ByteArray)] : List ByteArray)) (inner := [.string (⟨#[110, 111, 110, 101]⟩ : ByteArray), .string (⟨#[115, 119, 97, 112]⟩ : ByteArray), .string (⟨#[100, 114, 111, 112]⟩ : ByteArray), .string (⟨#[100, 111, 117, 98, 108, 101]⟩ : ByteArray), .string (⟨#[116, 117, 114, 110]⟩ : ByteArray)]) (ok := fun _ => True) (okp := fun _ => True) ?hr ?hp (fun _ hk => hk) trivial (Below.refl _ _) (Nat.le_refl _) (by simp) ?_; (case hd => rfl); (case hg => rfl); (case hr => first | (go_simp; done) | (go_simp; rfl)); (case hp => exact (Reps.one (show Kd.M Kd.string _ _ _ (⟨#[110, 111, 110, 101]⟩ : ByteArray) [.string (⟨#[110, 111, 110, 101]⟩ : ByteArray)] from rfl) (Reps.one (show Kd.M Kd.string _ _ _ (⟨#[115, 119, 97, 112]⟩ : ByteArray) [.string (⟨#[115, 119, 97, 112]⟩ : ByteArray)] from rfl) (Reps.one (show Kd.M Kd.string _ _ _ (⟨#[100, 114, 111, 112]⟩ : ByteArray) [.string (⟨#[100, 114, 111, 112]⟩ : ByteArray)] from rfl) (Reps.one (show Kd.M Kd.string _ _ _ (⟨#[100, 111, 117, 98, 108, 101]⟩ : ByteArray) [.string (⟨#[100, 111, 117, 98, 108, 101]⟩ : ByteArray)] from rfl) (Reps.one (show Kd.M Kd.string _ _ _ (⟨#[116, 117, 114, 110]⟩ : ByteArray) [.string (⟨#[116, 117, 114, 110]⟩ : ByteArray)] from rfl) (Reps.none _ _))))))); intro v127 w5 ho6 hb hg_ hnew_; clear hg_ hnew_; (first | rw [← Ny126.out] at ho6 | (simp only [Int.reduceToNat] at ho6; rw [← Ny126.out] at ho6)); have n0_ := ak (Kd.R_elder' (zR HO125.out) (Kd.R_base ho6) hb); have n1_ := ak (Kd.R_lower (Kd.R_new' ho6 (Kd.R_lt (zR HO125.out))) (below_size (zBG HB.out GE122.out))); have n2_ := ak (blk_below (g := gb122) (o := .cells #[.int .i8 0, .int .u8 0, .int .u8 0] 24 (0, 0)) (zK BK122.out) hb); have n3_ := ak (below_step (zBG HB.out GE122.out) hb); clear HO125 BK122 HB; have HO125 := n0_; have HO128 := n1_; have BK122 := n2_; have HB := n3_; clear n0_ n1_ n2_ n3_; clear hb ho6) | ((with_reducible refine gate_dst (N := 12) rfl ?_); (try (refine gate_guard (by rfl) ?_; dsimp only)); refine Kd.R_lit (Kd.int .i64) _ 3 ?hg (N := 12) ?hd (xs := ([0, 2, 1, 0, 1] : List Int)) (inner := [.int .i64 0, .int .i64 2, .int .i64 1, .int .i64 0, .int .i64 1]) (ok := fun _ => True) (okp := fun _ => True) ?hr ?hp (fun _ hk => hk) trivial (Below.refl _ _) (Nat.le_refl _) (by simp) ?_; (case hd => rfl); (case hg => rfl); (case hr => first | (go_simp; done) | (go_simp; rfl)); (case hp => exact (Reps.one (show Kd.M (Kd.int .i64) _ _ _ 0 [.int .i64 0] from rfl) (Reps.one (show Kd.M (Kd.int .i64) _ _ _ 2 [.int .i64 2] from rfl) (Reps.one (show Kd.M (Kd.int .i64) _ _ _ 1 [.int .i64 1] from rfl) (Reps.one (show Kd.M (Kd.int .i64) _ _ _ 0 [.int .i64 0] from rfl) (Reps.one (show Kd.M (Kd.int .i64) _ _ _ 1 [.int .i64 1] from rfl) (Reps.none _ _))))))); intro v130 w7 ho8 hb hg_ hnew_; clear hg_ hnew_; (first | rw [← Ny129.out] at ho8 | (simp only [Int.reduceToNat] at ho8; rw [← Ny129.out] at ho8)); have n0_ := ak (Kd.R_below (zR HO125.out) hb); have n1_ := ak (Kd.R_below (zR HO128.out) hb); have n2_ := ak (Kd.R_lower ho8 (below_size (zBG HB.out GE122.out))); have n3_ := ak (blk_below (g := gb122) (o := .cells #[.int .i8 0, .int .u8 0, .int .u8 0] 24 (0, 0)) (zK BK122.out) hb); have n4_ := ak (below_step (zBG HB.out GE122.out) hb); clear HO125 HO128 BK122 HB; have HO125 := n0_; have HO128 := n1_; have HO131 := n2_; have BK122 := n3_; have HB := n4_; clear n0_ n1_ n2_ n3_ n4_; clear hb ho8)); try go_wp2_with (first | ((with_reducible refine gate_dst (N := 2) rfl ?_); (try (refine gate_guard (by rfl) ?_; dsimp only)); refine box_event ?hg (N := 2) ?hd (cs := #[.int .i8 0, .int .u8 0, .int .u8 0]) (t := 24) ?hr ?_; (case hd => rfl); (case hg => rfl); (case hr => first | (go_simp; done) | (go_simp; rfl)); intro gb122 hg w3 hbox hb; have n0_ := ak (below_step (zB HB.out) hb); have n1_ := ak (hbox); have n2_ := ak ((by rw [hg]; exact (below_size (zB HB.out)) : w.heap.size ≤ gb122)); have n3_ := ak ((by rw [hg]; exact (below_size (zB HB.out)) : w.heap.size ≤ gb122)); clear HB; have HB := n0_; have BK122 := n1_; have GW122 := n2_; have GE122 := n3_; clear n0_ n1_ n2_ n3_; clear hb hbox hg) | (go_at_call 19; (with_reducible refine (spec_l01Split.calls k a0 32 t123 _ A2.out).mono ?_); rintro e w4 ⟨v124, rfl, ho0, hb⟩; have n0_ := ak (Kd.R_lower ho0 (below_size (zBG HB.out GE122.out))); have n1_ := ak (blk_below (g := gb122) (o := .cells #[.int .i8 0, .int .u8 0, .int .u8 0] 24 (0, 0)) (zK BK122.out) hb); have n2_ := ak (below_step (zBG HB.out GE122.out) hb); clear BK122 HB; have HO125 := n0_; have BK122 := n1_; have HB := n2_; clear n0_ n1_ n2_; (try clear hb); (try clear hb2); (try clear hk); (try clear hi); (try clear ho0)) | ((with_reducible refine gate_dst (N := 11) rfl ?_); (try (refine gate_guard (by rfl) ?_; dsimp only)); refine Kd.R_lit Kd.string _ 9 ?hg (N := 11) ?hd (xs := ([(⟨#[110, 111, 110, 101]⟩ : ByteArray), (⟨#[115, 119, 97, 112]⟩ : ByteArray), (⟨#[100, 114, 111, 112]⟩ : ByteArray), (⟨#[100, 111, 117, 98, 108, 101]⟩ : ByteArray), (⟨#[116, 117, 114, 110]⟩ : ByteArray)] : List ByteArray)) (inner := [.string (⟨#[110, 111, 110, 101]⟩ : ByteArray), .string (⟨#[115, 119, 97, 112]⟩ : ByteArray), .string (⟨#[100, 114, 111, 112]⟩ : ByteArray), .string (⟨#[100, 111, 117, 98, 108, 101]⟩ : ByteArray), .string (⟨#[116, 117, 114, 110]⟩ : ByteArray)]) (ok := fun _ => True) (okp := fun _ => True) ?hr ?hp (fun _ hk => hk) trivial (Below.refl _ _) (Nat.le_refl _) (by simp) ?_; (case hd => rfl); (case hg => rfl); (case hr => first | (go_simp; done) | (go_simp; rfl)); (case hp => exact (Reps.one (show Kd.M Kd.string _ _ _ (⟨#[110, 111, 110, 101]⟩ : ByteArray) [.string (⟨#[110, 111, 110, 101]⟩ : ByteArray)] from rfl) (Reps.one (show Kd.M Kd.string _ _ _ (⟨#[115, 119, 97, 112]⟩ : ByteArray) [.string (⟨#[115, 119, 97, 112]⟩ : ByteArray)] from rfl) (Reps.one (show Kd.M Kd.string _ _ _ (⟨#[100, 114, 111, 112]⟩ : ByteArray) [.string (⟨#[100, 114, 111, 112]⟩ : ByteArray)] from rfl) (Reps.one (show Kd.M Kd.string _ _ _ (⟨#[100, 111, 117, 98, 108, 101]⟩ : ByteArray) [.string (⟨#[100, 111, 117, 98, 108, 101]⟩ : ByteArray)] from rfl) (Reps.one (show Kd.M Kd.string _ _ _ (⟨#[116, 117, 114, 110]⟩ : ByteArray) [.string (⟨#[116, 117, 114, 110]⟩ : ByteArray)] from rfl) (Reps.none _ _))))))); intro v127 w5 ho6 hb hg_ hnew_; clear hg_ hnew_; (first | rw [← Ny126.out] at ho6 | (simp only [Int.reduceToNat] at ho6; rw [← Ny126.out] at ho6)); have n0_ := ak (Kd.R_elder' (zR HO125.out) (Kd.R_base ho6) hb); have n1_ := ak (Kd.R_lower (Kd.R_new' ho6 (Kd.R_lt (zR HO125.out))) (below_size (zBG HB.out GE122.out))); have n2_ := ak (blk_below (g := gb122) (o := .cells #[.int .i8 0, .int .u8 0, .int .u8 0] 24 (0, 0)) (zK BK122.out) hb); have n3_ := ak (below_step (zBG HB.out GE122.out) hb); clear HO125 BK122 HB; have HO125 := n0_; have HO128 := n1_; have BK122 := n2_; have HB := n3_; clear n0_ n1_ n2_ n3_; clear hb ho6) | ((with_reducible refine gate_dst (N := 12) rfl ?_); (try (refine gate_guard (by rfl) ?_; dsimp only)); refine Kd.R_lit (Kd.int .i64) _ 3 ?hg (N := 12) ?hd (xs := ([0, 2, 1, 0, 1] : List Int)) (inner := [.int .i64 0, .int .i64 2, .int .i64 1, .int .i64 0, .int .i64 1]) (ok := fun _ => True) (okp := fun _ => True) ?hr ?hp (fun _ hk => hk) trivial (Below.refl _ _) (Nat.le_refl _) (by simp) ?_; (case hd => rfl); (case hg => rfl); (case hr => first | (go_simp; done) | (go_simp; rfl)); (case hp => exact (Reps.one (show Kd.M (Kd.int .i64) _ _ _ 0 [.int .i64 0] from rfl) (Reps.one (show Kd.M (Kd.int .i64) _ _ _ 2 [.int .i64 2] from rfl) (Reps.one (show Kd.M (Kd.int .i64) _ _ _ 1 [.int .i64 1] from rfl) (Reps.one (show Kd.M (Kd.int .i64) _ _ _ 0 [.int .i64 0] from rfl) (Reps.one (show Kd.M (Kd.int .i64) _ _ _ 1 [.int .i64 1] from rfl) (Reps.none _ _))))))); intro v130 w7 ho8 hb hg_ hnew_; clear hg_ hnew_; (first | rw [← Ny129.out] at ho8 | (simp only [Int.reduceToNat] at ho8; rw [← Ny129.out] at ho8)); have n0_ := ak (Kd.R_below (zR HO125.out) hb); have n1_ := ak (Kd.R_below (zR HO128.out) hb); have n2_ := ak (Kd.R_lower ho8 (below_size (zBG HB.out GE122.out))); have n3_ := ak (blk_below (g := gb122) (o := .cells #[.int .i8 0, .int .u8 0, .int .u8 0] 24 (0, 0)) (zK BK122.out) hb); have n4_ := ak (below_step (zBG HB.out GE122.out) hb); clear HO125 HO128 BK122 HB; have HO125 := n0_; have HO128 := n1_; have HO131 := n2_; have BK122 := n3_; have HB := n4_; clear n0_ n1_ n2_ n3_ n4_; clear hb ho8)))
 go_loopg [7] k (fun kq v7 w' => ∃ (x7_1 : Int) (x123000_1 : Int) (x123001_1 : Int) (x123002_1 : Int), v7 = .int .i64 x7_1 ∧ Aside0 (spec_ReadHabit.l0 kq a0 t123 y126 y129 x7_1 = some (r1, r2, r3, r4)) ∧ Aside0 (kq ≤ k) ∧ Aside0 (Kd.R Kd.string 9 w' w.heap.size (fun k_ => some k_ ≠ (v127 : Value).ownBlock) v124 t123) ∧ Aside0 (Kd.R Kd.string 9 w' w.heap.size (fun k_ => some k_ ≠ (v124 : Value).ownBlock) v127 y126) ∧ Aside0 (Kd.R (Kd.int .i64) 3 w' w.heap.size (fun _ => True) v130 y129) ∧ Aside0 (w'.heap[gb122]? = some (.cells #[.int .i8 x123000_1, .int .u8 x123001_1, .int .u8 x123002_1] 24 (0, 0))) ∧ Aside0 (Below w.heap.size w w'))
 case atStart => exact ⟨(0), (0), (0), (0), (by first | rfl | (simp; done) | (simp [*]; done)), H', ⟨Nat.le_refl _⟩, ⟨by (with_reducible repeat (first | apply Kd.R_alloc | apply Kd.R_drewN | apply Kd.R_drew)); exact Kd.R_mono HO125.out (fun _ hk => hk.2)⟩, ⟨by (with_reducible repeat (first | apply Kd.R_alloc | apply Kd.R_drewN | apply Kd.R_drew)); exact Kd.R_mono HO128.out (fun _ hk => hk.2)⟩, ⟨by (with_reducible repeat (first | apply Kd.R_alloc | apply Kd.R_drewN | apply Kd.R_drew)); exact HO131.out⟩, ⟨by (with_reducible repeat (first | refine blk_drewN ?_ _ | refine blk_drew ?_ | refine blk_alloc ?_ _)); exact BK122.out⟩, ⟨by repeat (first | (with_reducible first | exact HB.out | apply below_alloc | apply pw_below_drewN | apply below_drew1 | refine below_set ?_ GE122.out) | exact HB.out)⟩⟩
 case round => (
 clear H'
 try clear p2
 try clear c6
 obtain ⟨x7_1, x123000_1, x123001_1, x123002_1, rfl, HA, HK1, HO_4, HO_5, HO_6, BK122, HB⟩ := hrel
 cases gk with
 | zero => exact absurd HA.out (by simp [spec_ReadHabit.l0])
 | succ k1 => (
 have H := HA.out
 clear HA
 simp only [spec_ReadHabit.l0] at H
 by_cases c9 : x7_1 < (y126.length : Int)
 {
 rw [if_pos c9] at H
 have c9b0 : decide (x7_1 < (y126.length : Int)) = true := decide_eq_true c9
 clear c9
 have HC10 := ak H
 clear H
 obtain ⟨Ao11, co11, eo11⟩ := Kd.R_slice HO_5.out
 subst eo11
 go_upto_region 7 with (fail)
 repeat (go_quiet (fail); go_upto_region 7 with (fail))
 go_cut [36] (fun v36 wc => ∃ (kq : Nat) (x36_9 : Bool), v36 = .bool x36_9 ∧ Aside0 (spec_ReadHabit.j1 kq a0 t123 y126 y129 x7_1 x36_9 = some (r1, r2, r3, r4)) ∧ Aside0 (kq ≤ k1) ∧ Aside0 (Kd.R Kd.string 9 wc w.heap.size (fun k_ => some k_ ≠ ((.slice Ao11 y126.length co11) : Value).ownBlock) v124 t123) ∧ Aside0 (Kd.R Kd.string 9 wc w.heap.size (fun k_ => some k_ ≠ (v124 : Value).ownBlock) (.slice Ao11 y126.length co11) y126) ∧ Aside0 (Kd.R (Kd.int .i64) 3 wc w.heap.size (fun _ => True) v130 y129) ∧ Aside0 (wc.heap[gb122]? = some (.cells #[.int .i8 x123000_1, .int .u8 x123001_1, .int .u8 x123002_1] 24 (0, 0))) ∧ Aside0 (Below w.heap.size w wc))
 case first => (
 have H := HC10.out
 clear HC10
 by_cases c12 : 0 < (t123.length : Int)
 {
 rw [if_pos c12] at H
 have c12b0 : decide (0 < (t123.length : Int)) = true := decide_eq_true c12
 have c12b1 : decide (0 < t123.length) = true := decide_eq_true (by omega)
 clear c12
 (first | rw [c12b0] | (simp only [i64_w, i32_w]; rw [c12b0]) | skip)
 by_cases c13 : 0 ≤ x7_1
 {
 rw [if_pos c13] at H
 have c13b0 : decide (0 ≤ x7_1) = true := decide_eq_true c13
 clear c13
 by_cases c14 : (rdOf ByteArray.empty t123 0).toList = (rdOf ByteArray.empty y126 x7_1).toList
 {
 rw [if_pos c14] at H
 have c14b0 : ((rdOf ByteArray.empty t123 0).toList == (rdOf ByteArray.empty y126 x7_1).toList) = true := beq_iff_eq.mpr c14
 have c14b1 : ((rdOf ByteArray.empty t123 0).toList != (rdOf ByteArray.empty y126 x7_1).toList) = false := bne_eq_false_iff_eq.mpr c14
 clear c14
 by_cases c15 : x7_1 < (y129.length : Int)
 {
 rw [if_pos c15] at H
 have c15b0 : decide (x7_1 < (y129.length : Int)) = true := decide_eq_true c15
 clear c15
 have H' := ak H
 clear H
 obtain ⟨Ao16, co16, eo16⟩ := Kd.R_slice HO_4.out
 subst eo16
 have p132 : 0 ≤ (0 : Int) := (by omega)
 have q132 : 0 < (t123.length : Int) := of_decide_eq_true (by first | (with_reducible assumption) | assumption)
 obtain ⟨ad132, e132, hx132_0⟩ := Kd.at_string (Kd.R_reads' HO_4.out).2.2 0 p132 q132
 cases e132
 have qi132 : (0 < t123.length) = True := eq_true (by omega)
 (try rw [show ((0 : Int)).toNat = 0 from rfl] at hx132_0)
 (try rw [Addr.add_zero'] at hx132_0)
 replace p132 := eq_true p132
 replace q132 := eq_true q132
 have p133 : 0 ≤ (x7_1 : Int) := of_decide_eq_true (by first | (with_reducible assumption) | assumption)
 have q133 : x7_1 < (y126.length : Int) := of_decide_eq_true (by first | (with_reducible assumption) | assumption)
 obtain ⟨ad133, e133, hx133_0⟩ := Kd.at_string (Kd.R_reads' HO_5.out).2.2 x7_1 p133 q133
 cases e133
 replace p133 := eq_true p133
 replace q133 := eq_true q133
 obtain ⟨Ao17, co17, eo17⟩ := Kd.R_slice HO_6.out
 subst eo17
 have p134 : 0 ≤ (x7_1 : Int) := of_decide_eq_true (by first | (with_reducible assumption) | assumption)
 have q134 : x7_1 < (y129.length : Int) := of_decide_eq_true (by first | (with_reducible assumption) | assumption)
 obtain ⟨ad134, e134, hx134_0⟩ := Kd.at_int (Kd.R_reads' HO_6.out).2.2 x7_1 p134 q134
 cases e134
 replace p134 := eq_true p134
 replace q134 := eq_true q134
 go_wp2
 repeat (go_quiet (fail); try go_wp2)
 go_meet
 case rel => exact ⟨_, (((t123.length : Int) != (wrap64 ((rd y129 x7_1) + 1)))), (by first | rfl | (simp; done) | (simp [*]; done)), H', ⟨by have := HK1.out; first | omega | exact Nat.le_refl _⟩, ⟨by (with_reducible repeat (first | apply Kd.R_alloc | apply Kd.R_drewN | apply Kd.R_drew)); exact HO_4.out⟩, ⟨by (with_reducible repeat (first | apply Kd.R_alloc | apply Kd.R_drewN | apply Kd.R_drew)); exact HO_5.out⟩, ⟨by (with_reducible repeat (first | apply Kd.R_alloc | apply Kd.R_drewN | apply Kd.R_drew)); exact HO_6.out⟩, ⟨by (with_reducible repeat (first | refine blk_drewN ?_ _ | refine blk_drew ?_ | refine blk_alloc ?_ _)); exact BK122.out⟩, ⟨by repeat (first | (with_reducible first | exact HB.out | apply below_alloc | apply pw_below_drewN | apply below_drew1 | refine below_set ?_ GE122.out) | exact HB.out)⟩⟩
 }
 · rw [if_neg c15] at H; exact absurd H (by simp)
 }
 {
 rw [if_neg c14] at H
 have c14b0 : ((rdOf ByteArray.empty t123 0).toList == (rdOf ByteArray.empty y126 x7_1).toList) = false := beq_eq_false_iff_ne.mpr c14
 have c14b1 : ((rdOf ByteArray.empty t123 0).toList != (rdOf ByteArray.empty y126 x7_1).toList) = true := bne_iff_ne.mpr c14
 have H' := ak H
 clear H
 obtain ⟨Ao18, co18, eo18⟩ := Kd.R_slice HO_4.out
 subst eo18
 have p132 : 0 ≤ (0 : Int) := (by omega)
 have q132 : 0 < (t123.length : Int) := of_decide_eq_true (by first | (with_reducible assumption) | assumption)
 obtain ⟨ad132, e132, hx132_0⟩ := Kd.at_string (Kd.R_reads' HO_4.out).2.2 0 p132 q132
 cases e132
 have qi132 : (0 < t123.length) = True := eq_true (by omega)
 (try rw [show ((0 : Int)).toNat = 0 from rfl] at hx132_0)
 (try rw [Addr.add_zero'] at hx132_0)
 replace p132 := eq_true p132
 replace q132 := eq_true q132
 have p133 : 0 ≤ (x7_1 : Int) := of_decide_eq_true (by first | (with_reducible assumption) | assumption)
 have q133 : x7_1 < (y126.length : Int) := of_decide_eq_true (by first | (with_reducible assumption) | assumption)
 obtain ⟨ad133, e133, hx133_0⟩ := Kd.at_string (Kd.R_reads' HO_5.out).2.2 x7_1 p133 q133
 cases e133
 replace p133 := eq_true p133
 replace q133 := eq_true q133
 go_wp2
 repeat (go_quiet (fail); try go_wp2)
 go_meet
 case rel => exact ⟨_, (true), (by first | rfl | (simp; done) | (simp [*]; done)), H', ⟨by have := HK1.out; first | omega | exact Nat.le_refl _⟩, ⟨by (with_reducible repeat (first | apply Kd.R_alloc | apply Kd.R_drewN | apply Kd.R_drew)); exact HO_4.out⟩, ⟨by (with_reducible repeat (first | apply Kd.R_alloc | apply Kd.R_drewN | apply Kd.R_drew)); exact HO_5.out⟩, ⟨by (with_reducible repeat (first | apply Kd.R_alloc | apply Kd.R_drewN | apply Kd.R_drew)); exact HO_6.out⟩, ⟨by (with_reducible repeat (first | refine blk_drewN ?_ _ | refine blk_drew ?_ | refine blk_alloc ?_ _)); exact BK122.out⟩, ⟨by repeat (first | (with_reducible first | exact HB.out | apply below_alloc | apply pw_below_drewN | apply below_drew1 | refine below_set ?_ GE122.out) | exact HB.out)⟩⟩
 }
 }
 · rw [if_neg c13] at H; exact absurd H (by simp)
 }
 · rw [if_neg c12] at H; exact absurd H (by simp)
 )
 case rest => (
 clear HC10
 try clear c1
 try clear p1
 try clear q1
 try clear hx1
 try clear qi1
 try clear p2
 try clear c6
 try clear p6
 try clear c9
 try clear c9b0
 try clear c12
 try clear c12b0
 try clear c12b1
 try clear c13
 try clear c13b0
 try clear p13
 try clear q13
 try clear hx13
 try clear qi13
 try clear c14
 try clear c14b0
 try clear c14b1
 try clear c15
 try clear c15b0
 try clear hx132_0
 try clear hx133_0
 try clear hx134_0
 try clear p132
 try clear p133
 try clear p134
 try clear p2
 try clear q132
 try clear q133
 try clear q134
 obtain ⟨kq, x36_9, rfl, HA, HJ9, HO_4, HO_5, HO_6, BK122, HB⟩ := hcut
 cases kq with
 | zero => exact absurd HA.out (by simp [spec_ReadHabit.j1])
 | succ kj9 => (
 have H := HA.out
 clear HA
 simp only [spec_ReadHabit.j1] at H
 by_cases c19 : x36_9 = true
 {
 subst c19
 have H1 : (spec_ReadHabit.l0 kj9 a0 t123 y126 y129 (wrap64 (x7_1 + 1))) = some (r1, r2, r3, r4) := by rw [if_pos rfl] at H; exact H
 clear H
 have H := H1
 clear H1
 have H' := ak H
 clear H
 go_wp2
 repeat (go_quiet (fail); try go_wp2)
 go_roundg kj9
 case measure => have := HK1.out; have := HJ9.out; omega
 case rel => exact ⟨(wrap64 (x7_1 + 1)), (x123000_1), (x123001_1), (x123002_1), (by first | rfl | (simp; done) | (simp [*]; done)), H', ⟨by have := HK1.out; have := HJ9.out; omega⟩, ⟨by (with_reducible repeat (first | apply Kd.R_alloc | apply Kd.R_drewN | apply Kd.R_drew)); exact HO_4.out⟩, ⟨by (with_reducible repeat (first | apply Kd.R_alloc | apply Kd.R_drewN | apply Kd.R_drew)); exact HO_5.out⟩, ⟨by (with_reducible repeat (first | apply Kd.R_alloc | apply Kd.R_drewN | apply Kd.R_drew)); exact HO_6.out⟩, ⟨by (with_reducible repeat (first | refine blk_drewN ?_ _ | refine blk_drew ?_ | refine blk_alloc ?_ _)); exact BK122.out⟩, ⟨by repeat (first | (with_reducible first | exact HB.out | apply below_alloc | apply pw_below_drewN | apply below_drew1 | refine below_set ?_ GE122.out) | exact HB.out)⟩⟩
 }
 {
 replace c19 := Bool.eq_false_iff.mpr c19
 subst c19
 have H1 : (if (t123.length : Int) > 1 then (if 1 < (t123.length : Int) then (spec_ReadHabit.j2 kj9 a0 t123 y126 y129 x7_1 (((rdOf ByteArray.empty t123 1).size : Int) == 1) (IntKind.i8.wrap (x7_1)) 0 0) else (none)) else (spec_ReadHabit.j2 kj9 a0 t123 y126 y129 x7_1 false (IntKind.i8.wrap (x7_1)) 0 0)) = some (r1, r2, r3, r4) := by rw [if_neg (show ¬ (false = true) by decide)] at H; exact H
 clear H
 have H := H1
 clear H1
 have HC20 := ak H
 clear H
 go_upto_region 9 with (first | ((with_reducible refine gate_dst (N := 8) rfl ?_); (try (refine gate_guard (by rfl) ?_; dsimp only)); refine box_event ?hg (N := 8) ?hd (cs := #[.int .i8 0, .int .u8 0, .int .u8 0]) (t := 24) ?hr ?_; (case hd => rfl); (case hg => rfl); (case hr => first | (go_simp; done) | (go_simp; rfl)); intro gb135 hg w21 hbox hb; have n0_ := ak (Kd.R_below (zR HO_4.out) hb); have n1_ := ak (Kd.R_below (zR HO_5.out) hb); have n2_ := ak (Kd.R_below (zR HO_6.out) hb); have n3_ := ak (blk_below (g := gb122) (o := .cells #[.int .i8 x123000_1, .int .u8 x123001_1, .int .u8 x123002_1] 24 (0, 0)) (zK BK122.out) hb); have n4_ := ak (below_step (zBG HB.out GE122.out) hb); have n5_ := ak (hbox); have n6_ := ak ((by rw [hg]; exact (below_size (zBG HB.out GE122.out)) : w.heap.size ≤ gb135)); have n7_ := ak ((by rw [hg]; exact (below_size (zBG HB.out GE122.out)) : w.heap.size ≤ gb135)); have n8_ := ak ((by rw [hg]; exact Nat.ne_of_lt (blk_lt (g := gb122) (o := .cells #[.int .i8 x123000_1, .int .u8 x123001_1, .int .u8 x123002_1] 24 (0, 0)) (zK BK122.out)) : gb122 ≠ gb135)); have n9_ := ak ((by rw [hg]; exact Nat.ne_of_gt (blk_lt (g := gb122) (o := .cells #[.int .i8 x123000_1, .int .u8 x123001_1, .int .u8 x123002_1] 24 (0, 0)) (zK BK122.out)) : gb135 ≠ gb122)); clear HO_4 HO_5 HO_6 BK122 HB; have HO_4 := n0_; have HO_5 := n1_; have HO_6 := n2_; have BK122 := n3_; have HB := n4_; have BK135 := n5_; have GW135 := n6_; have GE135 := n7_; have NB122_135 := n8_; have NB135_122 := n9_; clear n0_ n1_ n2_ n3_ n4_ n5_ n6_ n7_ n8_ n9_; clear hb hbox hg; have hnb22 := NB135_122.out; have hnc22 := NB122_135.out; have hcz23_0 : w21.cell? ⟨gb135, 0, none⟩ = some (.int .i8 0) := (blk_cell BK135.out 0).trans rfl; have hcz23_1 : w21.cell? ⟨gb135, 1, none⟩ = some (.int .u8 0) := (blk_cell BK135.out 1).trans rfl; have hcz23_2 : w21.cell? ⟨gb135, 2, none⟩ = some (.int .u8 0) := (blk_cell BK135.out 2).trans rfl; have hfz23_0 := blk_frozen BK135.out 0; have hfz23_1 := blk_frozen BK135.out 1; have hfz23_2 := blk_frozen BK135.out 2))
 repeat (go_quiet (first | ((with_reducible refine gate_dst (N := 8) rfl ?_); (try (refine gate_guard (by rfl) ?_; dsimp only)); refine box_event ?hg (N := 8) ?hd (cs := #[.int .i8 0, .int .u8 0, .int .u8 0]) (t := 24) ?hr ?_; (case hd => rfl); (case hg => rfl); (case hr => first | (go_simp; done) | (go_simp; rfl)); intro gb135 hg w21 hbox hb; have n0_ := ak (Kd.R_below (zR HO_4.out) hb); have n1_ := ak (Kd.R_below (zR HO_5.out) hb); have n2_ := ak (Kd.R_below (zR HO_6.out) hb); have n3_ := ak (blk_below (g := gb122) (o := .cells #[.int .i8 x123000_1, .int .u8 x123001_1, .int .u8 x123002_1] 24 (0, 0)) (zK BK122.out) hb); have n4_ := ak (below_step (zBG HB.out GE122.out) hb); have n5_ := ak (hbox); have n6_ := ak ((by rw [hg]; exact (below_size (zBG HB.out GE122.out)) : w.heap.size ≤ gb135)); have n7_ := ak ((by rw [hg]; exact (below_size (zBG HB.out GE122.out)) : w.heap.size ≤ gb135)); have n8_ := ak ((by rw [hg]; exact Nat.ne_of_lt (blk_lt (g := gb122) (o := .cells #[.int .i8 x123000_1, .int .u8 x123001_1, .int .u8 x123002_1] 24 (0, 0)) (zK BK122.out)) : gb122 ≠ gb135)); have n9_ := ak ((by rw [hg]; exact Nat.ne_of_gt (blk_lt (g := gb122) (o := .cells #[.int .i8 x123000_1, .int .u8 x123001_1, .int .u8 x123002_1] 24 (0, 0)) (zK BK122.out)) : gb135 ≠ gb122)); clear HO_4 HO_5 HO_6 BK122 HB; have HO_4 := n0_; have HO_5 := n1_; have HO_6 := n2_; have BK122 := n3_; have HB := n4_; have BK135 := n5_; have GW135 := n6_; have GE135 := n7_; have NB122_135 := n8_; have NB135_122 := n9_; clear n0_ n1_ n2_ n3_ n4_ n5_ n6_ n7_ n8_ n9_; clear hb hbox hg; have hnb22 := NB135_122.out; have hnc22 := NB122_135.out; have hcz23_0 : w21.cell? ⟨gb135, 0, none⟩ = some (.int .i8 0) := (blk_cell BK135.out 0).trans rfl; have hcz23_1 : w21.cell? ⟨gb135, 1, none⟩ = some (.int .u8 0) := (blk_cell BK135.out 1).trans rfl; have hcz23_2 : w21.cell? ⟨gb135, 2, none⟩ = some (.int .u8 0) := (blk_cell BK135.out 2).trans rfl; have hfz23_0 := blk_frozen BK135.out 0; have hfz23_1 := blk_frozen BK135.out 1; have hfz23_2 := blk_frozen BK135.out 2)); go_upto_region 9 with (first | ((with_reducible refine gate_dst (N := 8) rfl ?_); (try (refine gate_guard (by rfl) ?_; dsimp only)); refine box_event ?hg (N := 8) ?hd (cs := #[.int .i8 0, .int .u8 0, .int .u8 0]) (t := 24) ?hr ?_; (case hd => rfl); (case hg => rfl); (case hr => first | (go_simp; done) | (go_simp; rfl)); intro gb135 hg w21 hbox hb; have n0_ := ak (Kd.R_below (zR HO_4.out) hb); have n1_ := ak (Kd.R_below (zR HO_5.out) hb); have n2_ := ak (Kd.R_below (zR HO_6.out) hb); have n3_ := ak (blk_below (g := gb122) (o := .cells #[.int .i8 x123000_1, .int .u8 x123001_1, .int .u8 x123002_1] 24 (0, 0)) (zK BK122.out) hb); have n4_ := ak (below_step (zBG HB.out GE122.out) hb); have n5_ := ak (hbox); have n6_ := ak ((by rw [hg]; exact (below_size (zBG HB.out GE122.out)) : w.heap.size ≤ gb135)); have n7_ := ak ((by rw [hg]; exact (below_size (zBG HB.out GE122.out)) : w.heap.size ≤ gb135)); have n8_ := ak ((by rw [hg]; exact Nat.ne_of_lt (blk_lt (g := gb122) (o := .cells #[.int .i8 x123000_1, .int .u8 x123001_1, .int .u8 x123002_1] 24 (0, 0)) (zK BK122.out)) : gb122 ≠ gb135)); have n9_ := ak ((by rw [hg]; exact Nat.ne_of_gt (blk_lt (g := gb122) (o := .cells #[.int .i8 x123000_1, .int .u8 x123001_1, .int .u8 x123002_1] 24 (0, 0)) (zK BK122.out)) : gb135 ≠ gb122)); clear HO_4 HO_5 HO_6 BK122 HB; have HO_4 := n0_; have HO_5 := n1_; have HO_6 := n2_; have BK122 := n3_; have HB := n4_; have BK135 := n5_; have GW135 := n6_; have GE135 := n7_; have NB122_135 := n8_; have NB135_122 := n9_; clear n0_ n1_ n2_ n3_ n4_ n5_ n6_ n7_ n8_ n9_; clear hb hbox hg; have hnb22 := NB135_122.out; have hnc22 := NB122_135.out; have hcz23_0 : w21.cell? ⟨gb135, 0, none⟩ = some (.int .i8 0) := (blk_cell BK135.out 0).trans rfl; have hcz23_1 : w21.cell? ⟨gb135, 1, none⟩ = some (.int .u8 0) := (blk_cell BK135.out 1).trans rfl; have hcz23_2 : w21.cell? ⟨gb135, 2, none⟩ = some (.int .u8 0) := (blk_cell BK135.out 2).trans rfl; have hfz23_0 := blk_frozen BK135.out 0; have hfz23_1 := blk_frozen BK135.out 1; have hfz23_2 := blk_frozen BK135.out 2)))
 (try simp only [Act.put, zs, zz, zk])
 go_cut [49] (fun v49 wc => ∃ (kq : Nat) (x49_19 : Bool), v49 = .bool x49_19 ∧ Aside0 (spec_ReadHabit.j2 kq a0 t123 y126 y129 x7_1 x49_19 (IntKind.i8.wrap (x7_1)) 0 0 = some (r1, r2, r3, r4)) ∧ Aside0 (kq ≤ kj9) ∧ Aside0 (Kd.R Kd.string 9 wc w.heap.size (fun k_ => some k_ ≠ ((.slice Ao11 y126.length co11) : Value).ownBlock) v124 t123) ∧ Aside0 (Kd.R Kd.string 9 wc w.heap.size (fun k_ => some k_ ≠ (v124 : Value).ownBlock) (.slice Ao11 y126.length co11) y126) ∧ Aside0 (Kd.R (Kd.int .i64) 3 wc w.heap.size (fun _ => True) v130 y129) ∧ Aside0 (wc.heap[gb122]? = some (.cells #[.int .i8 x123000_1, .int .u8 x123001_1, .int .u8 x123002_1] 24 (0, 0))) ∧ Aside0 (wc.heap[gb135]? = some (.cells #[.int .i8 (IntKind.i8.wrap (x7_1)), .int .u8 0, .int .u8 0] 24 (0, 0))) ∧ Aside0 (Below w.heap.size w wc))
 case first => (
 have H := HC20.out
 clear HC20
 by_cases c24 : (t123.length : Int) > 1
 {
 rw [if_pos c24] at H
 have c24b0 : decide (1 < (t123.length : Int)) = true := decide_eq_true c24
 have c24b1 : decide (1 < t123.length) = true := decide_eq_true (by omega)
 clear c24
 (first | rw [c24b0] | (simp only [i64_w, i32_w]; rw [c24b0]) | skip)
 by_cases c25 : 1 < (t123.length : Int)
 {
 rw [if_pos c25] at H
 have c25b0 : decide (1 < (t123.length : Int)) = true := decide_eq_true c25
 have c25b1 : decide (1 < t123.length) = true := decide_eq_true (by omega)
 clear c25
 have H' := ak H
 clear H
 obtain ⟨Ao26, co26, eo26⟩ := Kd.R_slice HO_4.out
 subst eo26
 have p136 : 0 ≤ (1 : Int) := (by omega)
 have q136 : 1 < (t123.length : Int) := of_decide_eq_true (by first | (with_reducible assumption) | assumption)
 obtain ⟨ad136, e136, hx136_0⟩ := Kd.at_string (Kd.R_reads' HO_4.out).2.2 1 p136 q136
 cases e136
 (try simp only [show (1 : Int).toNat = 1 from rfl, Nat.reduceMul, Nat.reduceEqDiff, Go.Addr.add, ↓reduceIte] at hx136_0)
 have qi136 : (1 < t123.length) = True := eq_true (by omega)
 (try rw [show ((1 : Int)).toNat = 1 from rfl] at hx136_0)
 have hn136_0 : ad136.block ≠ gb135 := Kd.own_blk (Kd.R_ne HO_4.out BK135.out (by decide))
 have hn136_1 : ad136.block ≠ gb135 := Kd.own_blk (Kd.R_ne HO_4.out BK135.out (by decide))
 have hn136_2 : ad136.block ≠ gb135 := Kd.own_blk (Kd.R_ne HO_4.out BK135.out (by decide))
 replace hx136_0 := (cell_far (p := ⟨gb135, 0, none⟩) (by first | (rw [add_block]; exact hn136_0) | (show (Addr.add _ _).block ≠ _; rw [add_block]; exact hn136_0) | exact hn136_0) (.int .i8 (IntKind.i8.wrap (x7_1)))).trans hx136_0
 replace hx136_0 := (cell_far (p := ⟨gb135, 1, none⟩) (by first | (rw [add_block]; exact hn136_1) | (show (Addr.add _ _).block ≠ _; rw [add_block]; exact hn136_1) | exact hn136_1) (.int .u8 0)).trans hx136_0
 replace hx136_0 := (cell_far (p := ⟨gb135, 2, none⟩) (by first | (rw [add_block]; exact hn136_2) | (show (Addr.add _ _).block ≠ _; rw [add_block]; exact hn136_2) | exact hn136_2) (.int .u8 0)).trans hx136_0
 (try have hy136_0 := fun (n_ : Nat) => (show (((((w21.drewN n_).setCell ⟨gb135, 0, none⟩ (.int .i8 (IntKind.i8.wrap (x7_1)))).setCell ⟨gb135, 1, none⟩ (.int .u8 0)).setCell ⟨gb135, 2, none⟩ (.int .u8 0))).cell? _ = some _ from hx136_0))
 clear hn136_0 hn136_1 hn136_2
 replace p136 := eq_true p136
 replace q136 := eq_true q136
 go_wp2
 repeat (go_quiet (fail); try go_wp2)
 go_meet
 case rel => exact ⟨_, ((((rdOf ByteArray.empty t123 1).size : Int) == 1)), (by first | rfl | (simp; done) | (simp [*]; done)), H', ⟨by have := HK1.out; have := HJ9.out; first | omega | exact Nat.le_refl _⟩, ⟨by (with_reducible repeat (first | apply Kd.R_alloc | apply Kd.R_drewN | apply Kd.R_drew)); exact Kd.R_mono (Kd.R_far (p := ⟨gb135, 2, none⟩) (Kd.R_far (p := ⟨gb135, 1, none⟩) (Kd.R_far (p := ⟨gb135, 0, none⟩) (Kd.R_types HO_4.out BK135.out (by decide)) (fun _ hk => hk.2) (.int .i8 (IntKind.i8.wrap (x7_1)))) (fun _ hk => hk.2) (.int .u8 0)) (fun _ hk => hk.2) (.int .u8 0)) (fun _ hk => hk.1)⟩, ⟨by (with_reducible repeat (first | apply Kd.R_alloc | apply Kd.R_drewN | apply Kd.R_drew)); exact Kd.R_mono (Kd.R_far (p := ⟨gb135, 2, none⟩) (Kd.R_far (p := ⟨gb135, 1, none⟩) (Kd.R_far (p := ⟨gb135, 0, none⟩) (Kd.R_types HO_5.out BK135.out (by decide)) (fun _ hk => hk.2) (.int .i8 (IntKind.i8.wrap (x7_1)))) (fun _ hk => hk.2) (.int .u8 0)) (fun _ hk => hk.2) (.int .u8 0)) (fun _ hk => hk.1)⟩, ⟨by (with_reducible repeat (first | apply Kd.R_alloc | apply Kd.R_drewN | apply Kd.R_drew)); exact Kd.R_mono (Kd.R_far (p := ⟨gb135, 2, none⟩) (Kd.R_far (p := ⟨gb135, 1, none⟩) (Kd.R_far (p := ⟨gb135, 0, none⟩) (Kd.R_types HO_6.out BK135.out (by decide)) (fun _ hk => hk.2) (.int .i8 (IntKind.i8.wrap (x7_1)))) (fun _ hk => hk.2) (.int .u8 0)) (fun _ hk => hk.2) (.int .u8 0)) (fun _ hk => trivial)⟩, ⟨by (with_reducible repeat (first | refine blk_drewN ?_ _ | refine blk_drew ?_ | refine blk_alloc ?_ _)); refine blk_far ?_ NB122_135.out _; (with_reducible repeat (first | refine blk_drewN ?_ _ | refine blk_drew ?_ | refine blk_alloc ?_ _)); refine blk_far ?_ NB122_135.out _; (with_reducible repeat (first | refine blk_drewN ?_ _ | refine blk_drew ?_ | refine blk_alloc ?_ _)); refine blk_far ?_ NB122_135.out _; (with_reducible repeat (first | refine blk_drewN ?_ _ | refine blk_drew ?_ | refine blk_alloc ?_ _)); exact BK122.out⟩, ⟨by (with_reducible repeat (first | refine blk_drewN ?_ _ | refine blk_drew ?_ | refine blk_alloc ?_ _)); refine blk_put (cs := #[.int .i8 (IntKind.i8.wrap (x7_1)), .int .u8 0, .int .u8 0]) ?_ 2 _ rfl; (with_reducible repeat (first | refine blk_drewN ?_ _ | refine blk_drew ?_ | refine blk_alloc ?_ _)); refine blk_put (cs := #[.int .i8 (IntKind.i8.wrap (x7_1)), .int .u8 0, .int .u8 0]) ?_ 1 _ rfl; (with_reducible repeat (first | refine blk_drewN ?_ _ | refine blk_drew ?_ | refine blk_alloc ?_ _)); refine blk_put (cs := #[.int .i8 0, .int .u8 0, .int .u8 0]) ?_ 0 _ rfl; (with_reducible repeat (first | refine blk_drewN ?_ _ | refine blk_drew ?_ | refine blk_alloc ?_ _)); exact BK135.out⟩, ⟨by repeat (first | (with_reducible first | exact HB.out | apply below_alloc | apply pw_below_drewN | apply below_drew1 | refine below_set ?_ GE122.out | refine below_set ?_ GE135.out) | exact HB.out)⟩⟩
 }
 · rw [if_neg c25] at H; exact absurd H (by simp)
 }
 {
 rw [if_neg c24] at H
 have c24b0 : decide (1 < (t123.length : Int)) = false := decide_eq_false c24
 have c24b1 : decide (1 < t123.length) = false := decide_eq_false (by omega)
 clear c24
 (first | rw [c24b0] | (simp only [i64_w, i32_w]; rw [c24b0]) | skip)
 have H' := ak H
 clear H
 obtain ⟨Ao27, co27, eo27⟩ := Kd.R_slice HO_4.out
 subst eo27
 go_wp2
 repeat (go_quiet (fail); try go_wp2)
 go_meet
 case rel => exact ⟨_, (false), (by first | rfl | (simp; done) | (simp [*]; done)), H', ⟨by have := HK1.out; have := HJ9.out; first | omega | exact Nat.le_refl _⟩, ⟨by (with_reducible repeat (first | apply Kd.R_alloc | apply Kd.R_drewN | apply Kd.R_drew)); exact Kd.R_mono (Kd.R_far (p := ⟨gb135, 2, none⟩) (Kd.R_far (p := ⟨gb135, 1, none⟩) (Kd.R_far (p := ⟨gb135, 0, none⟩) (Kd.R_types HO_4.out BK135.out (by decide)) (fun _ hk => hk.2) (.int .i8 (IntKind.i8.wrap (x7_1)))) (fun _ hk => hk.2) (.int .u8 0)) (fun _ hk => hk.2) (.int .u8 0)) (fun _ hk => hk.1)⟩, ⟨by (with_reducible repeat (first | apply Kd.R_alloc | apply Kd.R_drewN | apply Kd.R_drew)); exact Kd.R_mono (Kd.R_far (p := ⟨gb135, 2, none⟩) (Kd.R_far (p := ⟨gb135, 1, none⟩) (Kd.R_far (p := ⟨gb135, 0, none⟩) (Kd.R_types HO_5.out BK135.out (by decide)) (fun _ hk => hk.2) (.int .i8 (IntKind.i8.wrap (x7_1)))) (fun _ hk => hk.2) (.int .u8 0)) (fun _ hk => hk.2) (.int .u8 0)) (fun _ hk => hk.1)⟩, ⟨by (with_reducible repeat (first | apply Kd.R_alloc | apply Kd.R_drewN | apply Kd.R_drew)); exact Kd.R_mono (Kd.R_far (p := ⟨gb135, 2, none⟩) (Kd.R_far (p := ⟨gb135, 1, none⟩) (Kd.R_far (p := ⟨gb135, 0, none⟩) (Kd.R_types HO_6.out BK135.out (by decide)) (fun _ hk => hk.2) (.int .i8 (IntKind.i8.wrap (x7_1)))) (fun _ hk => hk.2) (.int .u8 0)) (fun _ hk => hk.2) (.int .u8 0)) (fun _ hk => trivial)⟩, ⟨by (with_reducible repeat (first | refine blk_drewN ?_ _ | refine blk_drew ?_ | refine blk_alloc ?_ _)); refine blk_far ?_ NB122_135.out _; (with_reducible repeat (first | refine blk_drewN ?_ _ | refine blk_drew ?_ | refine blk_alloc ?_ _)); refine blk_far ?_ NB122_135.out _; (with_reducible repeat (first | refine blk_drewN ?_ _ | refine blk_drew ?_ | refine blk_alloc ?_ _)); refine blk_far ?_ NB122_135.out _; (with_reducible repeat (first | refine blk_drewN ?_ _ | refine blk_drew ?_ | refine blk_alloc ?_ _)); exact BK122.out⟩, ⟨by (with_reducible repeat (first | refine blk_drewN ?_ _ | refine blk_drew ?_ | refine blk_alloc ?_ _)); refine blk_put (cs := #[.int .i8 (IntKind.i8.wrap (x7_1)), .int .u8 0, .int .u8 0]) ?_ 2 _ rfl; (with_reducible repeat (first | refine blk_drewN ?_ _ | refine blk_drew ?_ | refine blk_alloc ?_ _)); refine blk_put (cs := #[.int .i8 (IntKind.i8.wrap (x7_1)), .int .u8 0, .int .u8 0]) ?_ 1 _ rfl; (with_reducible repeat (first | refine blk_drewN ?_ _ | refine blk_drew ?_ | refine blk_alloc ?_ _)); refine blk_put (cs := #[.int .i8 0, .int .u8 0, .int .u8 0]) ?_ 0 _ rfl; (with_reducible repeat (first | refine blk_drewN ?_ _ | refine blk_drew ?_ | refine blk_alloc ?_ _)); exact BK135.out⟩, ⟨by repeat (first | (with_reducible first | exact HB.out | apply below_alloc | apply pw_below_drewN | apply below_drew1 | refine below_set ?_ GE122.out | refine below_set ?_ GE135.out) | exact HB.out)⟩⟩
 }
 )
 case rest => (
 clear HC20
 try clear c1
 try clear p1
 try clear q1
 try clear hx1
 try clear qi1
 try clear c2
 try clear p2
 try clear c6
 try clear p6
 try clear c9
 try clear c9b0
 try clear c12
 try clear c12b0
 try clear c12b1
 try clear c13
 try clear c13b0
 try clear p13
 try clear q13
 try clear hx13
 try clear qi13
 try clear c14
 try clear c14b0
 try clear c14b1
 try clear c15
 try clear c15b0
 try clear c19
 try clear c22
 try clear c24
 try clear c24b0
 try clear c24b1
 try clear c25
 try clear c25b0
 try clear c25b1
 try clear hcz23_0
 try clear hcz23_1
 try clear hcz23_2
 try clear hfz23_0
 try clear hfz23_1
 try clear hfz23_2
 try clear hx132_0
 try clear hx133_0
 try clear hx134_0
 try clear hx136_0
 try clear p1
 try clear p13
 try clear p132
 try clear p133
 try clear p134
 try clear p136
 try clear p2
 try clear p6
 try clear q1
 try clear q13
 try clear q132
 try clear q133
 try clear q134
 try clear q136
 obtain ⟨kq, x49_19, rfl, HA, HJ19, HO_4, HO_5, HO_6, BK122, BK135, HB⟩ := hcut
 cases kq with
 | zero => exact absurd HA.out (by simp [spec_ReadHabit.j2])
 | succ kj19 => (
 have H := HA.out
 clear HA
 simp only [spec_ReadHabit.j2] at H
 have HC28 := ak H
 clear H
 go_upto_if 49 with (fail)
 repeat (go_quiet (fail); go_upto_if 49 with (fail))
 go_cut [] (fun wc => ∃ (kq : Nat) (x136001_27 : Int), Aside0 (spec_ReadHabit.j3 kq a0 t123 y126 y129 x7_1 (IntKind.i8.wrap (x7_1)) x136001_27 0 = some (r1, r2, r3, r4)) ∧ Aside0 (kq ≤ kj19) ∧ Aside0 (Kd.R Kd.string 9 wc w.heap.size (fun k_ => some k_ ≠ ((.slice Ao11 y126.length co11) : Value).ownBlock) v124 t123) ∧ Aside0 (Kd.R Kd.string 9 wc w.heap.size (fun k_ => some k_ ≠ (v124 : Value).ownBlock) (.slice Ao11 y126.length co11) y126) ∧ Aside0 (Kd.R (Kd.int .i64) 3 wc w.heap.size (fun _ => True) v130 y129) ∧ Aside0 (wc.heap[gb122]? = some (.cells #[.int .i8 x123000_1, .int .u8 x123001_1, .int .u8 x123002_1] 24 (0, 0))) ∧ Aside0 (wc.heap[gb135]? = some (.cells #[.int .i8 (IntKind.i8.wrap (x7_1)), .int .u8 x136001_27, .int .u8 0] 24 (0, 0))) ∧ Aside0 (Below w.heap.size w wc))
 case first => (
 have H := HC28.out
 clear HC28
 by_cases c29 : x49_19 = true
 {
 subst c29
 have H1 : (if 1 < (t123.length : Int) then (if 0 < ((rdOf ByteArray.empty t123 1).size : Int) then (spec_ReadHabit.j3 kj19 a0 t123 y126 y129 x7_1 (IntKind.i8.wrap (x7_1)) (bt (rdOf ByteArray.empty t123 1) 0) 0) else (none)) else (none)) = some (r1, r2, r3, r4) := by rw [if_pos rfl] at H; exact H
 clear H
 have H := H1
 clear H1
 by_cases c30 : 1 < (t123.length : Int)
 {
 rw [if_pos c30] at H
 have c30b0 : decide (1 < (t123.length : Int)) = true := decide_eq_true c30
 have c30b1 : decide (1 < t123.length) = true := decide_eq_true (by omega)
 clear c30
 (first | rw [c30b0] | (simp only [i64_w, i32_w]; rw [c30b0]) | skip)
 by_cases c31 : 0 < ((rdOf ByteArray.empty t123 1).size : Int)
 {
 rw [if_pos c31] at H
 have c31b0 : decide (0 < ((rdOf ByteArray.empty t123 1).size : Int)) = true := decide_eq_true c31
 have c31b1 : decide (0 < (rdOf ByteArray.empty t123 1).size) = true := decide_eq_true (by omega)
 clear c31
 have H' := ak H
 clear H
 obtain ⟨Ao33, co33, eo33⟩ := Kd.R_slice HO_4.out
 subst eo33
 have p137 : 0 ≤ (1 : Int) := (by omega)
 have q137 : 1 < (t123.length : Int) := of_decide_eq_true (by first | (with_reducible assumption) | assumption)
 obtain ⟨ad137, e137, hx137_0⟩ := Kd.at_string (Kd.R_reads' HO_4.out).2.2 1 p137 q137
 cases e137
 (try simp only [show (1 : Int).toNat = 1 from rfl, Nat.reduceMul, Nat.reduceEqDiff, Go.Addr.add, ↓reduceIte] at hx137_0)
 have qi137 : (1 < t123.length) = True := eq_true (by omega)
 (try rw [show ((1 : Int)).toNat = 1 from rfl] at hx137_0)
 replace p137 := eq_true p137
 replace q137 := eq_true q137
 have p32 : 0 ≤ (0 : Int) := (by omega)
 have q32 : 0 < (rdOf ByteArray.empty t123 1).size := (by have : (0 : Int) < ((rdOf ByteArray.empty t123 1).size : Int) := of_decide_eq_true (by first | (with_reducible assumption) | assumption); omega)
 have hx32 : ∀ h : 0 < (rdOf ByteArray.empty t123 1).size, (((rdOf ByteArray.empty t123 1)[0]'h).toNat : Int) = bt (rdOf ByteArray.empty t123 1) 0 := bt_at (rdOf ByteArray.empty t123 1) 0
 clear p32
 have qi32 : (0 < ((rdOf ByteArray.empty t123 1).size : Int)) = True := eq_true (of_decide_eq_true (by first | (with_reducible assumption) | assumption))
 replace q32 := eq_true q32
 have hnb34 := NB135_122.out
 have hnc34 := NB122_135.out
 have hcz35_0 : wc.cell? ⟨gb135, 0, none⟩ = some (.int .i8 (IntKind.i8.wrap (x7_1))) := (blk_cell BK135.out 0).trans rfl
 have hcz35_1 : wc.cell? ⟨gb135, 1, none⟩ = some (.int .u8 0) := (blk_cell BK135.out 1).trans rfl
 have hcz35_2 : wc.cell? ⟨gb135, 2, none⟩ = some (.int .u8 0) := (blk_cell BK135.out 2).trans rfl
 have hfz35_0 := blk_frozen BK135.out 0
 have hfz35_1 := blk_frozen BK135.out 1
 have hfz35_2 := blk_frozen BK135.out 2
 go_wp2
 repeat (go_quiet (fail); try go_wp2)
 go_meet
 case rel => exact ⟨_, (bt (rdOf ByteArray.empty t123 1) 0), H', ⟨by have := HK1.out; have := HJ9.out; have := HJ19.out; first | omega | exact Nat.le_refl _⟩, ⟨by (with_reducible repeat (first | apply Kd.R_alloc | apply Kd.R_drewN | apply Kd.R_drew)); exact Kd.R_mono (Kd.R_far (p := ⟨gb135, 1, none⟩) (Kd.R_types HO_4.out BK135.out (by decide)) (fun _ hk => hk.2) (.int .u8 (bt (rdOf ByteArray.empty t123 1) 0))) (fun _ hk => hk.1)⟩, ⟨by (with_reducible repeat (first | apply Kd.R_alloc | apply Kd.R_drewN | apply Kd.R_drew)); exact Kd.R_mono (Kd.R_far (p := ⟨gb135, 1, none⟩) (Kd.R_types HO_5.out BK135.out (by decide)) (fun _ hk => hk.2) (.int .u8 (bt (rdOf ByteArray.empty t123 1) 0))) (fun _ hk => hk.1)⟩, ⟨by (with_reducible repeat (first | apply Kd.R_alloc | apply Kd.R_drewN | apply Kd.R_drew)); exact Kd.R_mono (Kd.R_far (p := ⟨gb135, 1, none⟩) (Kd.R_types HO_6.out BK135.out (by decide)) (fun _ hk => hk.2) (.int .u8 (bt (rdOf ByteArray.empty t123 1) 0))) (fun _ hk => trivial)⟩, ⟨by (with_reducible repeat (first | refine blk_drewN ?_ _ | refine blk_drew ?_ | refine blk_alloc ?_ _)); refine blk_far ?_ NB122_135.out _; (with_reducible repeat (first | refine blk_drewN ?_ _ | refine blk_drew ?_ | refine blk_alloc ?_ _)); exact BK122.out⟩, ⟨by (with_reducible repeat (first | refine blk_drewN ?_ _ | refine blk_drew ?_ | refine blk_alloc ?_ _)); refine blk_put (cs := #[.int .i8 (IntKind.i8.wrap (x7_1)), .int .u8 0, .int .u8 0]) ?_ 1 _ rfl; (with_reducible repeat (first | refine blk_drewN ?_ _ | refine blk_drew ?_ | refine blk_alloc ?_ _)); exact BK135.out⟩, ⟨by repeat (first | (with_reducible first | exact HB.out | apply below_alloc | apply pw_below_drewN | apply below_drew1 | refine below_set ?_ GE122.out | refine below_set ?_ GE135.out) | exact HB.out)⟩⟩
 }
 · rw [if_neg c31] at H; exact absurd H (by simp)
 }
 · rw [if_neg c30] at H; exact absurd H (by simp)
 }
 {
 replace c29 := Bool.eq_false_iff.mpr c29
 subst c29
 have H1 : (spec_ReadHabit.j3 kj19 a0 t123 y126 y129 x7_1 (IntKind.i8.wrap (x7_1)) 0 0) = some (r1, r2, r3, r4) := by rw [if_neg (show ¬ (false = true) by decide)] at H; exact H
 clear H
 have H := H1
 clear H1
 have H' := ak H
 clear H
 go_wp2
 repeat (go_quiet (fail); try go_wp2)
 go_meet
 case rel => exact ⟨_, (0), H', ⟨by have := HK1.out; have := HJ9.out; have := HJ19.out; first | omega | exact Nat.le_refl _⟩, ⟨by (with_reducible repeat (first | apply Kd.R_alloc | apply Kd.R_drewN | apply Kd.R_drew)); exact HO_4.out⟩, ⟨by (with_reducible repeat (first | apply Kd.R_alloc | apply Kd.R_drewN | apply Kd.R_drew)); exact HO_5.out⟩, ⟨by (with_reducible repeat (first | apply Kd.R_alloc | apply Kd.R_drewN | apply Kd.R_drew)); exact HO_6.out⟩, ⟨by (with_reducible repeat (first | refine blk_drewN ?_ _ | refine blk_drew ?_ | refine blk_alloc ?_ _)); exact BK122.out⟩, ⟨by (with_reducible repeat (first | refine blk_drewN ?_ _ | refine blk_drew ?_ | refine blk_alloc ?_ _)); exact BK135.out⟩, ⟨by repeat (first | (with_reducible first | exact HB.out | apply below_alloc | apply pw_below_drewN | apply below_drew1 | refine below_set ?_ GE122.out | refine below_set ?_ GE135.out) | exact HB.out)⟩⟩
 }
 )
 case rest => (
 clear HC28
 try clear c1
 try clear p1
 try clear q1
 try clear hx1
 try clear qi1
 try clear c2
 try clear p2
 try clear c3
 try clear p3
 try clear q3
 try clear hx3
 try clear qi3
 try clear c6
 try clear p6
 try clear c9
 try clear c9b0
 try clear c12
 try clear c12b0
 try clear c12b1
 try clear c13
 try clear c13b0
 try clear p13
 try clear q13
 try clear hx13
 try clear qi13
 try clear c14
 try clear c14b0
 try clear c14b1
 try clear c15
 try clear c15b0
 try clear c19
 try clear c22
 try clear c24
 try clear c24b0
 try clear c24b1
 try clear c25
 try clear c25b0
 try clear c25b1
 try clear c29
 try clear c30
 try clear c30b0
 try clear c30b1
 try clear c31
 try clear c31b0
 try clear c31b1
 try clear p32
 try clear q32
 try clear hx32
 try clear qi32
 try clear c34
 try clear hcz23_0
 try clear hcz23_1
 try clear hcz23_2
 try clear hcz35_0
 try clear hcz35_1
 try clear hcz35_2
 try clear hfz23_0
 try clear hfz23_1
 try clear hfz23_2
 try clear hfz35_0
 try clear hfz35_1
 try clear hfz35_2
 try clear hx132_0
 try clear hx133_0
 try clear hx134_0
 try clear hx136_0
 try clear hx137_0
 try clear p1
 try clear p13
 try clear p132
 try clear p133
 try clear p134
 try clear p136
 try clear p137
 try clear p2
 try clear p32
 try clear p6
 try clear q1
 try clear q13
 try clear q132
 try clear q133
 try clear q134
 try clear q136
 try clear q137
 try clear q32
 obtain ⟨kq, x136001_27, HA, HJ27, HO_4, HO_5, HO_6, BK122, BK135, HB⟩ := hcut
 cases kq with
 | zero => exact absurd HA.out (by simp [spec_ReadHabit.j3])
 | succ kj27 => (
 have H := HA.out
 clear HA
 simp only [spec_ReadHabit.j3] at H
 have HC36 := ak H
 clear H
 go_upto_region 11 with (fail)
 repeat (go_quiet (fail); go_upto_region 11 with (fail))
 go_cut [64] (fun v64 wc => ∃ (kq : Nat) (x64_35 : Bool), v64 = .bool x64_35 ∧ Aside0 (spec_ReadHabit.j4 kq a0 t123 y126 y129 x7_1 x64_35 (IntKind.i8.wrap (x7_1)) x136001_27 0 = some (r1, r2, r3, r4)) ∧ Aside0 (kq ≤ kj27) ∧ Aside0 (Kd.R Kd.string 9 wc w.heap.size (fun k_ => some k_ ≠ ((.slice Ao11 y126.length co11) : Value).ownBlock) v124 t123) ∧ Aside0 (Kd.R Kd.string 9 wc w.heap.size (fun k_ => some k_ ≠ (v124 : Value).ownBlock) (.slice Ao11 y126.length co11) y126) ∧ Aside0 (Kd.R (Kd.int .i64) 3 wc w.heap.size (fun _ => True) v130 y129) ∧ Aside0 (wc.heap[gb122]? = some (.cells #[.int .i8 x123000_1, .int .u8 x123001_1, .int .u8 x123002_1] 24 (0, 0))) ∧ Aside0 (wc.heap[gb135]? = some (.cells #[.int .i8 (IntKind.i8.wrap (x7_1)), .int .u8 x136001_27, .int .u8 0] 24 (0, 0))) ∧ Aside0 (Below w.heap.size w wc))
 case first => (
 have H := HC36.out
 clear HC36
 by_cases c37 : (t123.length : Int) > 2
 {
 rw [if_pos c37] at H
 have c37b0 : decide (2 < (t123.length : Int)) = true := decide_eq_true c37
 have c37b1 : decide (2 < t123.length) = true := decide_eq_true (by omega)
 clear c37
 (first | rw [c37b0] | (simp only [i64_w, i32_w]; rw [c37b0]) | skip)
 by_cases c38 : 2 < (t123.length : Int)
 {
 rw [if_pos c38] at H
 have c38b0 : decide (2 < (t123.length : Int)) = true := decide_eq_true c38
 have c38b1 : decide (2 < t123.length) = true := decide_eq_true (by omega)
 clear c38
 have H' := ak H
 clear H
 obtain ⟨Ao39, co39, eo39⟩ := Kd.R_slice HO_4.out
 subst eo39
 have p138 : 0 ≤ (2 : Int) := (by omega)
 have q138 : 2 < (t123.length : Int) := of_decide_eq_true (by first | (with_reducible assumption) | assumption)
 obtain ⟨ad138, e138, hx138_0⟩ := Kd.at_string (Kd.R_reads' HO_4.out).2.2 2 p138 q138
 cases e138
 (try simp only [show (2 : Int).toNat = 2 from rfl, Nat.reduceMul, Nat.reduceEqDiff, Go.Addr.add, ↓reduceIte] at hx138_0)
 have qi138 : (2 < t123.length) = True := eq_true (by omega)
 (try rw [show ((2 : Int)).toNat = 2 from rfl] at hx138_0)
 replace p138 := eq_true p138
 replace q138 := eq_true q138
 go_wp2
 repeat (go_quiet (fail); try go_wp2)
 go_meet
 case rel => exact ⟨_, ((((rdOf ByteArray.empty t123 2).size : Int) == 1)), (by first | rfl | (simp; done) | (simp [*]; done)), H', ⟨by have := HK1.out; have := HJ9.out; have := HJ19.out; have := HJ27.out; first | omega | exact Nat.le_refl _⟩, ⟨by (with_reducible repeat (first | apply Kd.R_alloc | apply Kd.R_drewN | apply Kd.R_drew)); exact HO_4.out⟩, ⟨by (with_reducible repeat (first | apply Kd.R_alloc | apply Kd.R_drewN | apply Kd.R_drew)); exact HO_5.out⟩, ⟨by (with_reducible repeat (first | apply Kd.R_alloc | apply Kd.R_drewN | apply Kd.R_drew)); exact HO_6.out⟩, ⟨by (with_reducible repeat (first | refine blk_drewN ?_ _ | refine blk_drew ?_ | refine blk_alloc ?_ _)); exact BK122.out⟩, ⟨by (with_reducible repeat (first | refine blk_drewN ?_ _ | refine blk_drew ?_ | refine blk_alloc ?_ _)); exact BK135.out⟩, ⟨by repeat (first | (with_reducible first | exact HB.out | apply below_alloc | apply pw_below_drewN | apply below_drew1 | refine below_set ?_ GE122.out | refine below_set ?_ GE135.out) | exact HB.out)⟩⟩
 }
 · rw [if_neg c38] at H; exact absurd H (by simp)
 }
 {
 rw [if_neg c37] at H
 have c37b0 : decide (2 < (t123.length : Int)) = false := decide_eq_false c37
 have c37b1 : decide (2 < t123.length) = false := decide_eq_false (by omega)
 clear c37
 (first | rw [c37b0] | (simp only [i64_w, i32_w]; rw [c37b0]) | skip)
 have H' := ak H
 clear H
 obtain ⟨Ao40, co40, eo40⟩ := Kd.R_slice HO_4.out
 subst eo40
 go_wp2
 repeat (go_quiet (fail); try go_wp2)
 go_meet
 case rel => exact ⟨_, (false), (by first | rfl | (simp; done) | (simp [*]; done)), H', ⟨by have := HK1.out; have := HJ9.out; have := HJ19.out; have := HJ27.out; first | omega | exact Nat.le_refl _⟩, ⟨by (with_reducible repeat (first | apply Kd.R_alloc | apply Kd.R_drewN | apply Kd.R_drew)); exact HO_4.out⟩, ⟨by (with_reducible repeat (first | apply Kd.R_alloc | apply Kd.R_drewN | apply Kd.R_drew)); exact HO_5.out⟩, ⟨by (with_reducible repeat (first | apply Kd.R_alloc | apply Kd.R_drewN | apply Kd.R_drew)); exact HO_6.out⟩, ⟨by (with_reducible repeat (first | refine blk_drewN ?_ _ | refine blk_drew ?_ | refine blk_alloc ?_ _)); exact BK122.out⟩, ⟨by (with_reducible repeat (first | refine blk_drewN ?_ _ | refine blk_drew ?_ | refine blk_alloc ?_ _)); exact BK135.out⟩, ⟨by repeat (first | (with_reducible first | exact HB.out | apply below_alloc | apply pw_below_drewN | apply below_drew1 | refine below_set ?_ GE122.out | refine below_set ?_ GE135.out) | exact HB.out)⟩⟩
 }
 )
 case rest => (
 clear HC36
 try clear c1
 try clear p1
 try clear q1
 try clear hx1
 try clear qi1
 try clear c2
 try clear p2
 try clear c3
 try clear p3
 try clear q3
 try clear hx3
 try clear qi3
 try clear c6
 try clear p6
 try clear c9
 try clear c9b0
 try clear c12
 try clear c12b0
 try clear c12b1
 try clear c13
 try clear c13b0
 try clear p13
 try clear q13
 try clear hx13
 try clear qi13
 try clear c14
 try clear c14b0
 try clear c14b1
 try clear c15
 try clear c15b0
 try clear c19
 try clear c22
 try clear c24
 try clear c24b0
 try clear c24b1
 try clear c25
 try clear c25b0
 try clear c25b1
 try clear c29
 try clear c30
 try clear c30b0
 try clear c30b1
 try clear c31
 try clear c31b0
 try clear c31b1
 try clear p32
 try clear q32
 try clear hx32
 try clear qi32
 try clear c34
 try clear c37
 try clear c37b0
 try clear c37b1
 try clear c38
 try clear c38b0
 try clear c38b1
 try clear hcz23_0
 try clear hcz23_1
 try clear hcz23_2
 try clear hcz35_0
 try clear hcz35_1
 try clear hcz35_2
 try clear hfz23_0
 try clear hfz23_1
 try clear hfz23_2
 try clear hfz35_0
 try clear hfz35_1
 try clear hfz35_2
 try clear hx132_0
 try clear hx133_0
 try clear hx134_0
 try clear hx136_0
 try clear hx137_0
 try clear hx138_0
 try clear p1
 try clear p13
 try clear p132
 try clear p133
 try clear p134
 try clear p136
 try clear p137
 try clear p138
 try clear p2
 try clear p3
 try clear p32
 try clear p6
 try clear q1
 try clear q13
 try clear q132
 try clear q133
 try clear q134
 try clear q136
 try clear q137
 try clear q138
 try clear q3
 try clear q32
 obtain ⟨kq, x64_35, rfl, HA, HJ35, HO_4, HO_5, HO_6, BK122, BK135, HB⟩ := hcut
 cases kq with
 | zero => exact absurd HA.out (by simp [spec_ReadHabit.j4])
 | succ kj35 => (
 have H := HA.out
 clear HA
 simp only [spec_ReadHabit.j4] at H
 have HC41 := ak H
 clear H
 go_upto_if 64 with (fail)
 repeat (go_quiet (fail); go_upto_if 64 with (fail))
 go_cut [] (fun wc => ∃ (kq : Nat) (x136002_40 : Int), Aside0 (spec_ReadHabit.j5 kq a0 t123 y126 y129 x7_1 (IntKind.i8.wrap (x7_1)) x136001_27 x136002_40 = some (r1, r2, r3, r4)) ∧ Aside0 (kq ≤ kj35) ∧ Aside0 (Kd.R Kd.string 9 wc w.heap.size (fun k_ => some k_ ≠ ((.slice Ao11 y126.length co11) : Value).ownBlock) v124 t123) ∧ Aside0 (Kd.R Kd.string 9 wc w.heap.size (fun k_ => some k_ ≠ (v124 : Value).ownBlock) (.slice Ao11 y126.length co11) y126) ∧ Aside0 (Kd.R (Kd.int .i64) 3 wc w.heap.size (fun _ => True) v130 y129) ∧ Aside0 (wc.heap[gb122]? = some (.cells #[.int .i8 x123000_1, .int .u8 x123001_1, .int .u8 x123002_1] 24 (0, 0))) ∧ Aside0 (wc.heap[gb135]? = some (.cells #[.int .i8 (IntKind.i8.wrap (x7_1)), .int .u8 x136001_27, .int .u8 x136002_40] 24 (0, 0))) ∧ Aside0 (Below w.heap.size w wc))
 case first => (
 have H := HC41.out
 clear HC41
 by_cases c42 : x64_35 = true
 {
 subst c42
 have H1 : (if 2 < (t123.length : Int) then (if 0 < ((rdOf ByteArray.empty t123 2).size : Int) then (spec_ReadHabit.j5 kj35 a0 t123 y126 y129 x7_1 (IntKind.i8.wrap (x7_1)) x136001_27 (bt (rdOf ByteArray.empty t123 2) 0)) else (none)) else (none)) = some (r1, r2, r3, r4) := by rw [if_pos rfl] at H; exact H
 clear H
 have H := H1
 clear H1
 by_cases c43 : 2 < (t123.length : Int)
 {
 rw [if_pos c43] at H
 have c43b0 : decide (2 < (t123.length : Int)) = true := decide_eq_true c43
 have c43b1 : decide (2 < t123.length) = true := decide_eq_true (by omega)
 clear c43
 (first | rw [c43b0] | (simp only [i64_w, i32_w]; rw [c43b0]) | skip)
 by_cases c44 : 0 < ((rdOf ByteArray.empty t123 2).size : Int)
 {
 rw [if_pos c44] at H
 have c44b0 : decide (0 < ((rdOf ByteArray.empty t123 2).size : Int)) = true := decide_eq_true c44
 have c44b1 : decide (0 < (rdOf ByteArray.empty t123 2).size) = true := decide_eq_true (by omega)
 clear c44
 have H' := ak H
 clear H
 obtain ⟨Ao46, co46, eo46⟩ := Kd.R_slice HO_4.out
 subst eo46
 have p139 : 0 ≤ (2 : Int) := (by omega)
 have q139 : 2 < (t123.length : Int) := of_decide_eq_true (by first | (with_reducible assumption) | assumption)
 obtain ⟨ad139, e139, hx139_0⟩ := Kd.at_string (Kd.R_reads' HO_4.out).2.2 2 p139 q139
 cases e139
 (try simp only [show (2 : Int).toNat = 2 from rfl, Nat.reduceMul, Nat.reduceEqDiff, Go.Addr.add, ↓reduceIte] at hx139_0)
 have qi139 : (2 < t123.length) = True := eq_true (by omega)
 (try rw [show ((2 : Int)).toNat = 2 from rfl] at hx139_0)
 replace p139 := eq_true p139
 replace q139 := eq_true q139
 have p45 : 0 ≤ (0 : Int) := (by omega)
 have q45 : 0 < (rdOf ByteArray.empty t123 2).size := (by have : (0 : Int) < ((rdOf ByteArray.empty t123 2).size : Int) := of_decide_eq_true (by first | (with_reducible assumption) | assumption); omega)
 have hx45 : ∀ h : 0 < (rdOf ByteArray.empty t123 2).size, (((rdOf ByteArray.empty t123 2)[0]'h).toNat : Int) = bt (rdOf ByteArray.empty t123 2) 0 := bt_at (rdOf ByteArray.empty t123 2) 0
 clear p45
 have qi45 : (0 < ((rdOf ByteArray.empty t123 2).size : Int)) = True := eq_true (of_decide_eq_true (by first | (with_reducible assumption) | assumption))
 replace q45 := eq_true q45
 have hnb47 := NB135_122.out
 have hnc47 := NB122_135.out
 have hcz48_0 : wc.cell? ⟨gb135, 0, none⟩ = some (.int .i8 (IntKind.i8.wrap (x7_1))) := (blk_cell BK135.out 0).trans rfl
 have hcz48_1 : wc.cell? ⟨gb135, 1, none⟩ = some (.int .u8 x136001_27) := (blk_cell BK135.out 1).trans rfl
 have hcz48_2 : wc.cell? ⟨gb135, 2, none⟩ = some (.int .u8 0) := (blk_cell BK135.out 2).trans rfl
 have hfz48_0 := blk_frozen BK135.out 0
 have hfz48_1 := blk_frozen BK135.out 1
 have hfz48_2 := blk_frozen BK135.out 2
 go_wp2
 repeat (go_quiet (fail); try go_wp2)
 go_meet
 case rel => exact ⟨_, (bt (rdOf ByteArray.empty t123 2) 0), H', ⟨by have := HK1.out; have := HJ9.out; have := HJ19.out; have := HJ27.out; have := HJ35.out; first | omega | exact Nat.le_refl _⟩, ⟨by (with_reducible repeat (first | apply Kd.R_alloc | apply Kd.R_drewN | apply Kd.R_drew)); exact Kd.R_mono (Kd.R_far (p := ⟨gb135, 2, none⟩) (Kd.R_types HO_4.out BK135.out (by decide)) (fun _ hk => hk.2) (.int .u8 (bt (rdOf ByteArray.empty t123 2) 0))) (fun _ hk => hk.1)⟩, ⟨by (with_reducible repeat (first | apply Kd.R_alloc | apply Kd.R_drewN | apply Kd.R_drew)); exact Kd.R_mono (Kd.R_far (p := ⟨gb135, 2, none⟩) (Kd.R_types HO_5.out BK135.out (by decide)) (fun _ hk => hk.2) (.int .u8 (bt (rdOf ByteArray.empty t123 2) 0))) (fun _ hk => hk.1)⟩, ⟨by (with_reducible repeat (first | apply Kd.R_alloc | apply Kd.R_drewN | apply Kd.R_drew)); exact Kd.R_mono (Kd.R_far (p := ⟨gb135, 2, none⟩) (Kd.R_types HO_6.out BK135.out (by decide)) (fun _ hk => hk.2) (.int .u8 (bt (rdOf ByteArray.empty t123 2) 0))) (fun _ hk => trivial)⟩, ⟨by (with_reducible repeat (first | refine blk_drewN ?_ _ | refine blk_drew ?_ | refine blk_alloc ?_ _)); refine blk_far ?_ NB122_135.out _; (with_reducible repeat (first | refine blk_drewN ?_ _ | refine blk_drew ?_ | refine blk_alloc ?_ _)); exact BK122.out⟩, ⟨by (with_reducible repeat (first | refine blk_drewN ?_ _ | refine blk_drew ?_ | refine blk_alloc ?_ _)); refine blk_put (cs := #[.int .i8 (IntKind.i8.wrap (x7_1)), .int .u8 x136001_27, .int .u8 0]) ?_ 2 _ rfl; (with_reducible repeat (first | refine blk_drewN ?_ _ | refine blk_drew ?_ | refine blk_alloc ?_ _)); exact BK135.out⟩, ⟨by repeat (first | (with_reducible first | exact HB.out | apply below_alloc | apply pw_below_drewN | apply below_drew1 | refine below_set ?_ GE122.out | refine below_set ?_ GE135.out) | exact HB.out)⟩⟩
 }
 · rw [if_neg c44] at H; exact absurd H (by simp)
 }
 · rw [if_neg c43] at H; exact absurd H (by simp)
 }
 {
 replace c42 := Bool.eq_false_iff.mpr c42
 subst c42
 have H1 : (spec_ReadHabit.j5 kj35 a0 t123 y126 y129 x7_1 (IntKind.i8.wrap (x7_1)) x136001_27 0) = some (r1, r2, r3, r4) := by rw [if_neg (show ¬ (false = true) by decide)] at H; exact H
 clear H
 have H := H1
 clear H1
 have H' := ak H
 clear H
 go_wp2
 repeat (go_quiet (fail); try go_wp2)
 go_meet
 case rel => exact ⟨_, (0), H', ⟨by have := HK1.out; have := HJ9.out; have := HJ19.out; have := HJ27.out; have := HJ35.out; first | omega | exact Nat.le_refl _⟩, ⟨by (with_reducible repeat (first | apply Kd.R_alloc | apply Kd.R_drewN | apply Kd.R_drew)); exact HO_4.out⟩, ⟨by (with_reducible repeat (first | apply Kd.R_alloc | apply Kd.R_drewN | apply Kd.R_drew)); exact HO_5.out⟩, ⟨by (with_reducible repeat (first | apply Kd.R_alloc | apply Kd.R_drewN | apply Kd.R_drew)); exact HO_6.out⟩, ⟨by (with_reducible repeat (first | refine blk_drewN ?_ _ | refine blk_drew ?_ | refine blk_alloc ?_ _)); exact BK122.out⟩, ⟨by (with_reducible repeat (first | refine blk_drewN ?_ _ | refine blk_drew ?_ | refine blk_alloc ?_ _)); exact BK135.out⟩, ⟨by repeat (first | (with_reducible first | exact HB.out | apply below_alloc | apply pw_below_drewN | apply below_drew1 | refine below_set ?_ GE122.out | refine below_set ?_ GE135.out) | exact HB.out)⟩⟩
 }
 )
 case rest => (
 clear HC41
 try clear c1
 try clear p1
 try clear q1
 try clear hx1
 try clear qi1
 try clear c2
 try clear p2
 try clear c3
 try clear p3
 try clear q3
 try clear hx3
 try clear qi3
 try clear c4
 try clear p4
 try clear q4
 try clear hx4
 try clear qi4
 try clear c6
 try clear p6
 try clear c9
 try clear c9b0
 try clear c12
 try clear c12b0
 try clear c12b1
 try clear c13
 try clear c13b0
 try clear p13
 try clear q13
 try clear hx13
 try clear qi13
 try clear c14
 try clear c14b0
 try clear c14b1
 try clear c15
 try clear c15b0
 try clear c19
 try clear c22
 try clear c24
 try clear c24b0
 try clear c24b1
 try clear c25
 try clear c25b0
 try clear c25b1
 try clear c29
 try clear c30
 try clear c30b0
 try clear c30b1
 try clear c31
 try clear c31b0
 try clear c31b1
 try clear p32
 try clear q32
 try clear hx32
 try clear qi32
 try clear c34
 try clear c37
 try clear c37b0
 try clear c37b1
 try clear c38
 try clear c38b0
 try clear c38b1
 try clear c42
 try clear c43
 try clear c43b0
 try clear c43b1
 try clear c44
 try clear c44b0
 try clear c44b1
 try clear p45
 try clear q45
 try clear hx45
 try clear qi45
 try clear c47
 try clear hcz23_0
 try clear hcz23_1
 try clear hcz23_2
 try clear hcz35_0
 try clear hcz35_1
 try clear hcz35_2
 try clear hcz48_0
 try clear hcz48_1
 try clear hcz48_2
 try clear hfz23_0
 try clear hfz23_1
 try clear hfz23_2
 try clear hfz35_0
 try clear hfz35_1
 try clear hfz35_2
 try clear hfz48_0
 try clear hfz48_1
 try clear hfz48_2
 try clear hx132_0
 try clear hx133_0
 try clear hx134_0
 try clear hx136_0
 try clear hx137_0
 try clear hx138_0
 try clear hx139_0
 try clear p1
 try clear p13
 try clear p132
 try clear p133
 try clear p134
 try clear p136
 try clear p137
 try clear p138
 try clear p139
 try clear p2
 try clear p3
 try clear p32
 try clear p45
 try clear p6
 try clear q1
 try clear q13
 try clear q132
 try clear q133
 try clear q134
 try clear q136
 try clear q137
 try clear q138
 try clear q139
 try clear q3
 try clear q32
 try clear q45
 obtain ⟨kq, x136002_40, HA, HJ40, HO_4, HO_5, HO_6, BK122, BK135, HB⟩ := hcut
 cases kq with
 | zero => exact absurd HA.out (by simp [spec_ReadHabit.j5])
 | succ kj40 => (
 have H := HA.out
 clear HA
 simp only [spec_ReadHabit.j5] at H
 replace H := Option.bind_eq_some_iff.mp H
 obtain ⟨t140, A490, H⟩ := H
 replace H : (if t140 = true then ((spec_l04Text.f (IntKind.i8.wrap (x7_1)) x136001_27 x136002_40).bind fun t141 => (if t141.toList = a0.toList then (some ((IntKind.i8.wrap (x7_1)), x136001_27, x136002_40, 0)) else (spec_ReadHabit.l0 kj40 a0 t123 y126 y129 (wrap64 (x7_1 + 1))))) else (spec_ReadHabit.l0 kj40 a0 t123 y126 y129 (wrap64 (x7_1 + 1)))) = some (r1, r2, r3, r4) := H
 have A49 := ak A490
 clear A490
 by_cases c50 : t140 = true
 {
 subst c50
 have H1 : ((spec_l04Text.f (IntKind.i8.wrap (x7_1)) x136001_27 x136002_40).bind fun t141 => (if t141.toList = a0.toList then (some ((IntKind.i8.wrap (x7_1)), x136001_27, x136002_40, 0)) else (spec_ReadHabit.l0 kj40 a0 t123 y126 y129 (wrap64 (x7_1 + 1))))) = some (r1, r2, r3, r4) := by rw [if_pos rfl] at H; exact H
 clear H
 have H := H1
 clear H1
 replace H := Option.bind_eq_some_iff.mp H
 obtain ⟨t141, A510, H⟩ := H
 replace H : (if t141.toList = a0.toList then (some ((IntKind.i8.wrap (x7_1)), x136001_27, x136002_40, 0)) else (spec_ReadHabit.l0 kj40 a0 t123 y126 y129 (wrap64 (x7_1 + 1)))) = some (r1, r2, r3, r4) := H
 have A51 := ak A510
 clear A510
 by_cases c52 : t141.toList = a0.toList
 {
 rw [if_pos c52] at H
 have c52b0 : (t141.toList == a0.toList) = true := beq_iff_eq.mpr c52
 have c52b1 : (t141.toList != a0.toList) = false := bne_eq_false_iff_eq.mpr c52
 clear c52
 simp only [Option.some.injEq, Prod.mk.injEq] at H
 obtain ⟨rfl, rfl, rfl, rfl⟩ := H
 have hnb53 := NB135_122.out
 have hnc53 := NB122_135.out
 have hcz54_0 : wc.cell? ⟨gb135, 0, none⟩ = some (.int .i8 (IntKind.i8.wrap (x7_1))) := (blk_cell BK135.out 0).trans rfl
 have hcz54_1 : wc.cell? ⟨gb135, 1, none⟩ = some (.int .u8 x136001_27) := (blk_cell BK135.out 1).trans rfl
 have hcz54_2 : wc.cell? ⟨gb135, 2, none⟩ = some (.int .u8 x136002_40) := (blk_cell BK135.out 2).trans rfl
 have hfz54_0 := blk_frozen BK135.out 0
 have hfz54_1 := blk_frozen BK135.out 1
 have hfz54_2 := blk_frozen BK135.out 2
 go_wp2_with (first | (go_at_call 20; (with_reducible refine (spec_l04Habit.calls kj40 (IntKind.i8.wrap (x7_1)) x136001_27 x136002_40 true _ A49.out).mono ?_); rintro e w55 ⟨rfl, hb⟩; have n0_ := ak (Kd.R_below (zR HO_4.out) hb); have n1_ := ak (Kd.R_below (zR HO_5.out) hb); have n2_ := ak (Kd.R_below (zR HO_6.out) hb); have n3_ := ak (blk_below (g := gb122) (o := .cells #[.int .i8 x123000_1, .int .u8 x123001_1, .int .u8 x123002_1] 24 (0, 0)) (zK BK122.out) hb); have n4_ := ak (blk_below (g := gb135) (o := .cells #[.int .i8 (IntKind.i8.wrap (x7_1)), .int .u8 x136001_27, .int .u8 x136002_40] 24 (0, 0)) (zK BK135.out) hb); have n5_ := ak (below_step (by repeat (first | (with_reducible first | exact HB.out | apply below_alloc | apply pw_below_drewN | apply below_drew1 | refine below_set ?_ GE122.out | refine below_set ?_ GE135.out) | exact HB.out)) hb); clear HO_4 HO_5 HO_6 BK122 BK135 HB; have HO_4 := n0_; have HO_5 := n1_; have HO_6 := n2_; have BK122 := n3_; have BK135 := n4_; have HB := n5_; clear n0_ n1_ n2_ n3_ n4_ n5_; (try clear hb); (try clear hb2); (try clear hk); (try clear hi); have hcz56_0 : w55.cell? ⟨gb135, 0, none⟩ = some (.int .i8 (IntKind.i8.wrap (x7_1))) := (blk_cell BK135.out 0).trans rfl; have hcz56_1 : w55.cell? ⟨gb135, 1, none⟩ = some (.int .u8 x136001_27) := (blk_cell BK135.out 1).trans rfl; have hcz56_2 : w55.cell? ⟨gb135, 2, none⟩ = some (.int .u8 x136002_40) := (blk_cell BK135.out 2).trans rfl; have hfz56_0 := blk_frozen BK135.out 0; have hfz56_1 := blk_frozen BK135.out 1; have hfz56_2 := blk_frozen BK135.out 2) | (go_at_call 21; (with_reducible refine (spec_l04Text.calls (IntKind.i8.wrap (x7_1)) x136001_27 x136002_40 t141 _ A51.out).mono ?_); rintro e w57 ⟨rfl, hb⟩; have n0_ := ak (Kd.R_below (zR HO_4.out) hb); have n1_ := ak (Kd.R_below (zR HO_5.out) hb); have n2_ := ak (Kd.R_below (zR HO_6.out) hb); have n3_ := ak (blk_below (g := gb122) (o := .cells #[.int .i8 x123000_1, .int .u8 x123001_1, .int .u8 x123002_1] 24 (0, 0)) (zK BK122.out) hb); have n4_ := ak (blk_below (g := gb135) (o := .cells #[.int .i8 (IntKind.i8.wrap (x7_1)), .int .u8 x136001_27, .int .u8 x136002_40] 24 (0, 0)) (zK BK135.out) hb); have n5_ := ak (below_step (by repeat (first | (with_reducible first | exact HB.out | apply below_alloc | apply pw_below_drewN | apply below_drew1 | refine below_set ?_ GE122.out | refine below_set ?_ GE135.out) | exact HB.out)) hb); clear HO_4 HO_5 HO_6 BK122 BK135 HB; have HO_4 := n0_; have HO_5 := n1_; have HO_6 := n2_; have BK122 := n3_; have BK135 := n4_; have HB := n5_; clear n0_ n1_ n2_ n3_ n4_ n5_; (try clear hb); (try clear hb2); (try clear hk); (try clear hi); have hcz58_0 : w57.cell? ⟨gb135, 0, none⟩ = some (.int .i8 (IntKind.i8.wrap (x7_1))) := (blk_cell BK135.out 0).trans rfl; have hcz58_1 : w57.cell? ⟨gb135, 1, none⟩ = some (.int .u8 x136001_27) := (blk_cell BK135.out 1).trans rfl; have hcz58_2 : w57.cell? ⟨gb135, 2, none⟩ = some (.int .u8 x136002_40) := (blk_cell BK135.out 2).trans rfl; have hfz58_0 := blk_frozen BK135.out 0; have hfz58_1 := blk_frozen BK135.out 1; have hfz58_2 := blk_frozen BK135.out 2; have hcz59_0 : w57.cell? ⟨gb122, 0, none⟩ = some (.int .i8 x123000_1) := (blk_cell BK122.out 0).trans rfl; have hcz59_1 : w57.cell? ⟨gb122, 1, none⟩ = some (.int .u8 x123001_1) := (blk_cell BK122.out 1).trans rfl; have hcz59_2 : w57.cell? ⟨gb122, 2, none⟩ = some (.int .u8 x123002_1) := (blk_cell BK122.out 2).trans rfl; have hfz59_0 := blk_frozen BK122.out 0; have hfz59_1 := blk_frozen BK122.out 1; have hfz59_2 := blk_frozen BK122.out 2))
 repeat (go_quiet (first | (go_at_call 20; (with_reducible refine (spec_l04Habit.calls kj40 (IntKind.i8.wrap (x7_1)) x136001_27 x136002_40 true _ A49.out).mono ?_); rintro e w55 ⟨rfl, hb⟩; have n0_ := ak (Kd.R_below (zR HO_4.out) hb); have n1_ := ak (Kd.R_below (zR HO_5.out) hb); have n2_ := ak (Kd.R_below (zR HO_6.out) hb); have n3_ := ak (blk_below (g := gb122) (o := .cells #[.int .i8 x123000_1, .int .u8 x123001_1, .int .u8 x123002_1] 24 (0, 0)) (zK BK122.out) hb); have n4_ := ak (blk_below (g := gb135) (o := .cells #[.int .i8 (IntKind.i8.wrap (x7_1)), .int .u8 x136001_27, .int .u8 x136002_40] 24 (0, 0)) (zK BK135.out) hb); have n5_ := ak (below_step (by repeat (first | (with_reducible first | exact HB.out | apply below_alloc | apply pw_below_drewN | apply below_drew1 | refine below_set ?_ GE122.out | refine below_set ?_ GE135.out) | exact HB.out)) hb); clear HO_4 HO_5 HO_6 BK122 BK135 HB; have HO_4 := n0_; have HO_5 := n1_; have HO_6 := n2_; have BK122 := n3_; have BK135 := n4_; have HB := n5_; clear n0_ n1_ n2_ n3_ n4_ n5_; (try clear hb); (try clear hb2); (try clear hk); (try clear hi); have hcz56_0 : w55.cell? ⟨gb135, 0, none⟩ = some (.int .i8 (IntKind.i8.wrap (x7_1))) := (blk_cell BK135.out 0).trans rfl; have hcz56_1 : w55.cell? ⟨gb135, 1, none⟩ = some (.int .u8 x136001_27) := (blk_cell BK135.out 1).trans rfl; have hcz56_2 : w55.cell? ⟨gb135, 2, none⟩ = some (.int .u8 x136002_40) := (blk_cell BK135.out 2).trans rfl; have hfz56_0 := blk_frozen BK135.out 0; have hfz56_1 := blk_frozen BK135.out 1; have hfz56_2 := blk_frozen BK135.out 2) | (go_at_call 21; (with_reducible refine (spec_l04Text.calls (IntKind.i8.wrap (x7_1)) x136001_27 x136002_40 t141 _ A51.out).mono ?_); rintro e w57 ⟨rfl, hb⟩; have n0_ := ak (Kd.R_below (zR HO_4.out) hb); have n1_ := ak (Kd.R_below (zR HO_5.out) hb); have n2_ := ak (Kd.R_below (zR HO_6.out) hb); have n3_ := ak (blk_below (g := gb122) (o := .cells #[.int .i8 x123000_1, .int .u8 x123001_1, .int .u8 x123002_1] 24 (0, 0)) (zK BK122.out) hb); have n4_ := ak (blk_below (g := gb135) (o := .cells #[.int .i8 (IntKind.i8.wrap (x7_1)), .int .u8 x136001_27, .int .u8 x136002_40] 24 (0, 0)) (zK BK135.out) hb); have n5_ := ak (below_step (by repeat (first | (with_reducible first | exact HB.out | apply below_alloc | apply pw_below_drewN | apply below_drew1 | refine below_set ?_ GE122.out | refine below_set ?_ GE135.out) | exact HB.out)) hb); clear HO_4 HO_5 HO_6 BK122 BK135 HB; have HO_4 := n0_; have HO_5 := n1_; have HO_6 := n2_; have BK122 := n3_; have BK135 := n4_; have HB := n5_; clear n0_ n1_ n2_ n3_ n4_ n5_; (try clear hb); (try clear hb2); (try clear hk); (try clear hi); have hcz58_0 : w57.cell? ⟨gb135, 0, none⟩ = some (.int .i8 (IntKind.i8.wrap (x7_1))) := (blk_cell BK135.out 0).trans rfl; have hcz58_1 : w57.cell? ⟨gb135, 1, none⟩ = some (.int .u8 x136001_27) := (blk_cell BK135.out 1).trans rfl; have hcz58_2 : w57.cell? ⟨gb135, 2, none⟩ = some (.int .u8 x136002_40) := (blk_cell BK135.out 2).trans rfl; have hfz58_0 := blk_frozen BK135.out 0; have hfz58_1 := blk_frozen BK135.out 1; have hfz58_2 := blk_frozen BK135.out 2; have hcz59_0 : w57.cell? ⟨gb122, 0, none⟩ = some (.int .i8 x123000_1) := (blk_cell BK122.out 0).trans rfl; have hcz59_1 : w57.cell? ⟨gb122, 1, none⟩ = some (.int .u8 x123001_1) := (blk_cell BK122.out 1).trans rfl; have hcz59_2 : w57.cell? ⟨gb122, 2, none⟩ = some (.int .u8 x123002_1) := (blk_cell BK122.out 2).trans rfl; have hfz59_0 := blk_frozen BK122.out 0; have hfz59_1 := blk_frozen BK122.out 1; have hfz59_2 := blk_frozen BK122.out 2)); try go_wp2_with (first | (go_at_call 20; (with_reducible refine (spec_l04Habit.calls kj40 (IntKind.i8.wrap (x7_1)) x136001_27 x136002_40 true _ A49.out).mono ?_); rintro e w55 ⟨rfl, hb⟩; have n0_ := ak (Kd.R_below (zR HO_4.out) hb); have n1_ := ak (Kd.R_below (zR HO_5.out) hb); have n2_ := ak (Kd.R_below (zR HO_6.out) hb); have n3_ := ak (blk_below (g := gb122) (o := .cells #[.int .i8 x123000_1, .int .u8 x123001_1, .int .u8 x123002_1] 24 (0, 0)) (zK BK122.out) hb); have n4_ := ak (blk_below (g := gb135) (o := .cells #[.int .i8 (IntKind.i8.wrap (x7_1)), .int .u8 x136001_27, .int .u8 x136002_40] 24 (0, 0)) (zK BK135.out) hb); have n5_ := ak (below_step (by repeat (first | (with_reducible first | exact HB.out | apply below_alloc | apply pw_below_drewN | apply below_drew1 | refine below_set ?_ GE122.out | refine below_set ?_ GE135.out) | exact HB.out)) hb); clear HO_4 HO_5 HO_6 BK122 BK135 HB; have HO_4 := n0_; have HO_5 := n1_; have HO_6 := n2_; have BK122 := n3_; have BK135 := n4_; have HB := n5_; clear n0_ n1_ n2_ n3_ n4_ n5_; (try clear hb); (try clear hb2); (try clear hk); (try clear hi); have hcz56_0 : w55.cell? ⟨gb135, 0, none⟩ = some (.int .i8 (IntKind.i8.wrap (x7_1))) := (blk_cell BK135.out 0).trans rfl; have hcz56_1 : w55.cell? ⟨gb135, 1, none⟩ = some (.int .u8 x136001_27) := (blk_cell BK135.out 1).trans rfl; have hcz56_2 : w55.cell? ⟨gb135, 2, none⟩ = some (.int .u8 x136002_40) := (blk_cell BK135.out 2).trans rfl; have hfz56_0 := blk_frozen BK135.out 0; have hfz56_1 := blk_frozen BK135.out 1; have hfz56_2 := blk_frozen BK135.out 2) | (go_at_call 21; (with_reducible refine (spec_l04Text.calls (IntKind.i8.wrap (x7_1)) x136001_27 x136002_40 t141 _ A51.out).mono ?_); rintro e w57 ⟨rfl, hb⟩; have n0_ := ak (Kd.R_below (zR HO_4.out) hb); have n1_ := ak (Kd.R_below (zR HO_5.out) hb); have n2_ := ak (Kd.R_below (zR HO_6.out) hb); have n3_ := ak (blk_below (g := gb122) (o := .cells #[.int .i8 x123000_1, .int .u8 x123001_1, .int .u8 x123002_1] 24 (0, 0)) (zK BK122.out) hb); have n4_ := ak (blk_below (g := gb135) (o := .cells #[.int .i8 (IntKind.i8.wrap (x7_1)), .int .u8 x136001_27, .int .u8 x136002_40] 24 (0, 0)) (zK BK135.out) hb); have n5_ := ak (below_step (by repeat (first | (with_reducible first | exact HB.out | apply below_alloc | apply pw_below_drewN | apply below_drew1 | refine below_set ?_ GE122.out | refine below_set ?_ GE135.out) | exact HB.out)) hb); clear HO_4 HO_5 HO_6 BK122 BK135 HB; have HO_4 := n0_; have HO_5 := n1_; have HO_6 := n2_; have BK122 := n3_; have BK135 := n4_; have HB := n5_; clear n0_ n1_ n2_ n3_ n4_ n5_; (try clear hb); (try clear hb2); (try clear hk); (try clear hi); have hcz58_0 : w57.cell? ⟨gb135, 0, none⟩ = some (.int .i8 (IntKind.i8.wrap (x7_1))) := (blk_cell BK135.out 0).trans rfl; have hcz58_1 : w57.cell? ⟨gb135, 1, none⟩ = some (.int .u8 x136001_27) := (blk_cell BK135.out 1).trans rfl; have hcz58_2 : w57.cell? ⟨gb135, 2, none⟩ = some (.int .u8 x136002_40) := (blk_cell BK135.out 2).trans rfl; have hfz58_0 := blk_frozen BK135.out 0; have hfz58_1 := blk_frozen BK135.out 1; have hfz58_2 := blk_frozen BK135.out 2; have hcz59_0 : w57.cell? ⟨gb122, 0, none⟩ = some (.int .i8 x123000_1) := (blk_cell BK122.out 0).trans rfl; have hcz59_1 : w57.cell? ⟨gb122, 1, none⟩ = some (.int .u8 x123001_1) := (blk_cell BK122.out 1).trans rfl; have hcz59_2 : w57.cell? ⟨gb122, 2, none⟩ = some (.int .u8 x123002_1) := (blk_cell BK122.out 2).trans rfl; have hfz59_0 := blk_frozen BK122.out 0; have hfz59_1 := blk_frozen BK122.out 1; have hfz59_2 := blk_frozen BK122.out 2)))
 refine bodyPost_ret (results_ct rfl _ _ gb122 24 #[.int .i8 (IntKind.i8.wrap (x7_1)), .int .u8 x136001_27, .int .u8 x136002_40] (0, 0) _ rfl (by (with_reducible repeat (first | refine blk_drewN ?_ _ | refine blk_drew ?_ | refine blk_alloc ?_ _)); refine blk_put (cs := #[.int .i8 (IntKind.i8.wrap (x7_1)), .int .u8 x136001_27, .int .u8 x123002_1]) ?_ 2 _ rfl; (with_reducible repeat (first | refine blk_drewN ?_ _ | refine blk_drew ?_ | refine blk_alloc ?_ _)); refine blk_put (cs := #[.int .i8 (IntKind.i8.wrap (x7_1)), .int .u8 x123001_1, .int .u8 x123002_1]) ?_ 1 _ rfl; (with_reducible repeat (first | refine blk_drewN ?_ _ | refine blk_drew ?_ | refine blk_alloc ?_ _)); refine blk_put (cs := #[.int .i8 x123000_1, .int .u8 x123001_1, .int .u8 x123002_1]) ?_ 0 _ rfl; (with_reducible repeat (first | refine blk_drewN ?_ _ | refine blk_drew ?_ | refine blk_alloc ?_ _)); exact BK122.out) Tryd.underlying24 rfl (by kernel_rfl)) rfl ?_
 exact ⟨by first | rfl | (simp [errW_none, errW_some] <;> rfl) | (simp [*, errW_none, errW_some] <;> rfl), by repeat (first | (with_reducible first | exact HB.out | apply below_alloc | apply pw_below_drewN | apply below_drew1 | refine below_set ?_ GE122.out | refine below_set ?_ GE135.out) | exact HB.out)⟩
 }
 {
 rw [if_neg c52] at H
 have c52b0 : (t141.toList == a0.toList) = false := beq_eq_false_iff_ne.mpr c52
 have c52b1 : (t141.toList != a0.toList) = true := bne_iff_ne.mpr c52
 have H' := ak H
 clear H
 have hnb60 := NB135_122.out
 have hnc60 := NB122_135.out
 have hcz61_0 : wc.cell? ⟨gb135, 0, none⟩ = some (.int .i8 (IntKind.i8.wrap (x7_1))) := (blk_cell BK135.out 0).trans rfl
 have hcz61_1 : wc.cell? ⟨gb135, 1, none⟩ = some (.int .u8 x136001_27) := (blk_cell BK135.out 1).trans rfl
 have hcz61_2 : wc.cell? ⟨gb135, 2, none⟩ = some (.int .u8 x136002_40) := (blk_cell BK135.out 2).trans rfl
 have hfz61_0 := blk_frozen BK135.out 0
 have hfz61_1 := blk_frozen BK135.out 1
 have hfz61_2 := blk_frozen BK135.out 2
 go_wp2_with (first | (go_at_call 20; (with_reducible refine (spec_l04Habit.calls kj40 (IntKind.i8.wrap (x7_1)) x136001_27 x136002_40 true _ A49.out).mono ?_); rintro e w62 ⟨rfl, hb⟩; have n0_ := ak (Kd.R_below (zR HO_4.out) hb); have n1_ := ak (Kd.R_below (zR HO_5.out) hb); have n2_ := ak (Kd.R_below (zR HO_6.out) hb); have n3_ := ak (blk_below (g := gb122) (o := .cells #[.int .i8 x123000_1, .int .u8 x123001_1, .int .u8 x123002_1] 24 (0, 0)) (zK BK122.out) hb); have n4_ := ak (blk_below (g := gb135) (o := .cells #[.int .i8 (IntKind.i8.wrap (x7_1)), .int .u8 x136001_27, .int .u8 x136002_40] 24 (0, 0)) (zK BK135.out) hb); have n5_ := ak (below_step (by repeat (first | (with_reducible first | exact HB.out | apply below_alloc | apply pw_below_drewN | apply below_drew1 | refine below_set ?_ GE122.out | refine below_set ?_ GE135.out) | exact HB.out)) hb); clear HO_4 HO_5 HO_6 BK122 BK135 HB; have HO_4 := n0_; have HO_5 := n1_; have HO_6 := n2_; have BK122 := n3_; have BK135 := n4_; have HB := n5_; clear n0_ n1_ n2_ n3_ n4_ n5_; (try clear hb); (try clear hb2); (try clear hk); (try clear hi); have hcz63_0 : w62.cell? ⟨gb135, 0, none⟩ = some (.int .i8 (IntKind.i8.wrap (x7_1))) := (blk_cell BK135.out 0).trans rfl; have hcz63_1 : w62.cell? ⟨gb135, 1, none⟩ = some (.int .u8 x136001_27) := (blk_cell BK135.out 1).trans rfl; have hcz63_2 : w62.cell? ⟨gb135, 2, none⟩ = some (.int .u8 x136002_40) := (blk_cell BK135.out 2).trans rfl; have hfz63_0 := blk_frozen BK135.out 0; have hfz63_1 := blk_frozen BK135.out 1; have hfz63_2 := blk_frozen BK135.out 2) | (go_at_call 21; (with_reducible refine (spec_l04Text.calls (IntKind.i8.wrap (x7_1)) x136001_27 x136002_40 t141 _ A51.out).mono ?_); rintro e w64 ⟨rfl, hb⟩; have n0_ := ak (Kd.R_below (zR HO_4.out) hb); have n1_ := ak (Kd.R_below (zR HO_5.out) hb); have n2_ := ak (Kd.R_below (zR HO_6.out) hb); have n3_ := ak (blk_below (g := gb122) (o := .cells #[.int .i8 x123000_1, .int .u8 x123001_1, .int .u8 x123002_1] 24 (0, 0)) (zK BK122.out) hb); have n4_ := ak (blk_below (g := gb135) (o := .cells #[.int .i8 (IntKind.i8.wrap (x7_1)), .int .u8 x136001_27, .int .u8 x136002_40] 24 (0, 0)) (zK BK135.out) hb); have n5_ := ak (below_step (by repeat (first | (with_reducible first | exact HB.out | apply below_alloc | apply pw_below_drewN | apply below_drew1 | refine below_set ?_ GE122.out | refine below_set ?_ GE135.out) | exact HB.out)) hb); clear HO_4 HO_5 HO_6 BK122 BK135 HB; have HO_4 := n0_; have HO_5 := n1_; have HO_6 := n2_; have BK122 := n3_; have BK135 := n4_; have HB := n5_; clear n0_ n1_ n2_ n3_ n4_ n5_; (try clear hb); (try clear hb2); (try clear hk); (try clear hi)))
 repeat (go_quiet (first | (go_at_call 20; (with_reducible refine (spec_l04Habit.calls kj40 (IntKind.i8.wrap (x7_1)) x136001_27 x136002_40 true _ A49.out).mono ?_); rintro e w62 ⟨rfl, hb⟩; have n0_ := ak (Kd.R_below (zR HO_4.out) hb); have n1_ := ak (Kd.R_below (zR HO_5.out) hb); have n2_ := ak (Kd.R_below (zR HO_6.out) hb); have n3_ := ak (blk_below (g := gb122) (o := .cells #[.int .i8 x123000_1, .int .u8 x123001_1, .int .u8 x123002_1] 24 (0, 0)) (zK BK122.out) hb); have n4_ := ak (blk_below (g := gb135) (o := .cells #[.int .i8 (IntKind.i8.wrap (x7_1)), .int .u8 x136001_27, .int .u8 x136002_40] 24 (0, 0)) (zK BK135.out) hb); have n5_ := ak (below_step (by repeat (first | (with_reducible first | exact HB.out | apply below_alloc | apply pw_below_drewN | apply below_drew1 | refine below_set ?_ GE122.out | refine below_set ?_ GE135.out) | exact HB.out)) hb); clear HO_4 HO_5 HO_6 BK122 BK135 HB; have HO_4 := n0_; have HO_5 := n1_; have HO_6 := n2_; have BK122 := n3_; have BK135 := n4_; have HB := n5_; clear n0_ n1_ n2_ n3_ n4_ n5_; (try clear hb); (try clear hb2); (try clear hk); (try clear hi); have hcz63_0 : w62.cell? ⟨gb135, 0, none⟩ = some (.int .i8 (IntKind.i8.wrap (x7_1))) := (blk_cell BK135.out 0).trans rfl; have hcz63_1 : w62.cell? ⟨gb135, 1, none⟩ = some (.int .u8 x136001_27) := (blk_cell BK135.out 1).trans rfl; have hcz63_2 : w62.cell? ⟨gb135, 2, none⟩ = some (.int .u8 x136002_40) := (blk_cell BK135.out 2).trans rfl; have hfz63_0 := blk_frozen BK135.out 0; have hfz63_1 := blk_frozen BK135.out 1; have hfz63_2 := blk_frozen BK135.out 2) | (go_at_call 21; (with_reducible refine (spec_l04Text.calls (IntKind.i8.wrap (x7_1)) x136001_27 x136002_40 t141 _ A51.out).mono ?_); rintro e w64 ⟨rfl, hb⟩; have n0_ := ak (Kd.R_below (zR HO_4.out) hb); have n1_ := ak (Kd.R_below (zR HO_5.out) hb); have n2_ := ak (Kd.R_below (zR HO_6.out) hb); have n3_ := ak (blk_below (g := gb122) (o := .cells #[.int .i8 x123000_1, .int .u8 x123001_1, .int .u8 x123002_1] 24 (0, 0)) (zK BK122.out) hb); have n4_ := ak (blk_below (g := gb135) (o := .cells #[.int .i8 (IntKind.i8.wrap (x7_1)), .int .u8 x136001_27, .int .u8 x136002_40] 24 (0, 0)) (zK BK135.out) hb); have n5_ := ak (below_step (by repeat (first | (with_reducible first | exact HB.out | apply below_alloc | apply pw_below_drewN | apply below_drew1 | refine below_set ?_ GE122.out | refine below_set ?_ GE135.out) | exact HB.out)) hb); clear HO_4 HO_5 HO_6 BK122 BK135 HB; have HO_4 := n0_; have HO_5 := n1_; have HO_6 := n2_; have BK122 := n3_; have BK135 := n4_; have HB := n5_; clear n0_ n1_ n2_ n3_ n4_ n5_; (try clear hb); (try clear hb2); (try clear hk); (try clear hi))); try go_wp2_with (first | (go_at_call 20; (with_reducible refine (spec_l04Habit.calls kj40 (IntKind.i8.wrap (x7_1)) x136001_27 x136002_40 true _ A49.out).mono ?_); rintro e w62 ⟨rfl, hb⟩; have n0_ := ak (Kd.R_below (zR HO_4.out) hb); have n1_ := ak (Kd.R_below (zR HO_5.out) hb); have n2_ := ak (Kd.R_below (zR HO_6.out) hb); have n3_ := ak (blk_below (g := gb122) (o := .cells #[.int .i8 x123000_1, .int .u8 x123001_1, .int .u8 x123002_1] 24 (0, 0)) (zK BK122.out) hb); have n4_ := ak (blk_below (g := gb135) (o := .cells #[.int .i8 (IntKind.i8.wrap (x7_1)), .int .u8 x136001_27, .int .u8 x136002_40] 24 (0, 0)) (zK BK135.out) hb); have n5_ := ak (below_step (by repeat (first | (with_reducible first | exact HB.out | apply below_alloc | apply pw_below_drewN | apply below_drew1 | refine below_set ?_ GE122.out | refine below_set ?_ GE135.out) | exact HB.out)) hb); clear HO_4 HO_5 HO_6 BK122 BK135 HB; have HO_4 := n0_; have HO_5 := n1_; have HO_6 := n2_; have BK122 := n3_; have BK135 := n4_; have HB := n5_; clear n0_ n1_ n2_ n3_ n4_ n5_; (try clear hb); (try clear hb2); (try clear hk); (try clear hi); have hcz63_0 : w62.cell? ⟨gb135, 0, none⟩ = some (.int .i8 (IntKind.i8.wrap (x7_1))) := (blk_cell BK135.out 0).trans rfl; have hcz63_1 : w62.cell? ⟨gb135, 1, none⟩ = some (.int .u8 x136001_27) := (blk_cell BK135.out 1).trans rfl; have hcz63_2 : w62.cell? ⟨gb135, 2, none⟩ = some (.int .u8 x136002_40) := (blk_cell BK135.out 2).trans rfl; have hfz63_0 := blk_frozen BK135.out 0; have hfz63_1 := blk_frozen BK135.out 1; have hfz63_2 := blk_frozen BK135.out 2) | (go_at_call 21; (with_reducible refine (spec_l04Text.calls (IntKind.i8.wrap (x7_1)) x136001_27 x136002_40 t141 _ A51.out).mono ?_); rintro e w64 ⟨rfl, hb⟩; have n0_ := ak (Kd.R_below (zR HO_4.out) hb); have n1_ := ak (Kd.R_below (zR HO_5.out) hb); have n2_ := ak (Kd.R_below (zR HO_6.out) hb); have n3_ := ak (blk_below (g := gb122) (o := .cells #[.int .i8 x123000_1, .int .u8 x123001_1, .int .u8 x123002_1] 24 (0, 0)) (zK BK122.out) hb); have n4_ := ak (blk_below (g := gb135) (o := .cells #[.int .i8 (IntKind.i8.wrap (x7_1)), .int .u8 x136001_27, .int .u8 x136002_40] 24 (0, 0)) (zK BK135.out) hb); have n5_ := ak (below_step (by repeat (first | (with_reducible first | exact HB.out | apply below_alloc | apply pw_below_drewN | apply below_drew1 | refine below_set ?_ GE122.out | refine below_set ?_ GE135.out) | exact HB.out)) hb); clear HO_4 HO_5 HO_6 BK122 BK135 HB; have HO_4 := n0_; have HO_5 := n1_; have HO_6 := n2_; have BK122 := n3_; have BK135 := n4_; have HB := n5_; clear n0_ n1_ n2_ n3_ n4_ n5_; (try clear hb); (try clear hb2); (try clear hk); (try clear hi))))
 go_roundg kj40
 case measure => have := HK1.out; have := HJ9.out; have := HJ19.out; have := HJ27.out; have := HJ35.out; have := HJ40.out; omega
 case rel => exact ⟨(wrap64 (x7_1 + 1)), (x123000_1), (x123001_1), (x123002_1), (by first | rfl | (simp; done) | (simp [*]; done)), H', ⟨by have := HK1.out; have := HJ9.out; have := HJ19.out; have := HJ27.out; have := HJ35.out; have := HJ40.out; omega⟩, ⟨by (with_reducible repeat (first | apply Kd.R_alloc | apply Kd.R_drewN | apply Kd.R_drew)); exact HO_4.out⟩, ⟨by (with_reducible repeat (first | apply Kd.R_alloc | apply Kd.R_drewN | apply Kd.R_drew)); exact HO_5.out⟩, ⟨by (with_reducible repeat (first | apply Kd.R_alloc | apply Kd.R_drewN | apply Kd.R_drew)); exact HO_6.out⟩, ⟨by (with_reducible repeat (first | refine blk_drewN ?_ _ | refine blk_drew ?_ | refine blk_alloc ?_ _)); exact BK122.out⟩, ⟨by repeat (first | (with_reducible first | exact HB.out | apply below_alloc | apply pw_below_drewN | apply below_drew1 | refine below_set ?_ GE122.out | refine below_set ?_ GE135.out) | exact HB.out)⟩⟩
 }
 }
 {
 replace c50 := Bool.eq_false_iff.mpr c50
 subst c50
 have H1 : (spec_ReadHabit.l0 kj40 a0 t123 y126 y129 (wrap64 (x7_1 + 1))) = some (r1, r2, r3, r4) := by rw [if_neg (show ¬ (false = true) by decide)] at H; exact H
 clear H
 have H := H1
 clear H1
 have H' := ak H
 clear H
 have hnb65 := NB135_122.out
 have hnc65 := NB122_135.out
 have hcz66_0 : wc.cell? ⟨gb135, 0, none⟩ = some (.int .i8 (IntKind.i8.wrap (x7_1))) := (blk_cell BK135.out 0).trans rfl
 have hcz66_1 : wc.cell? ⟨gb135, 1, none⟩ = some (.int .u8 x136001_27) := (blk_cell BK135.out 1).trans rfl
 have hcz66_2 : wc.cell? ⟨gb135, 2, none⟩ = some (.int .u8 x136002_40) := (blk_cell BK135.out 2).trans rfl
 have hfz66_0 := blk_frozen BK135.out 0
 have hfz66_1 := blk_frozen BK135.out 1
 have hfz66_2 := blk_frozen BK135.out 2
 go_wp2_with (first | (go_at_call 20; (with_reducible refine (spec_l04Habit.calls kj40 (IntKind.i8.wrap (x7_1)) x136001_27 x136002_40 false _ A49.out).mono ?_); rintro e w67 ⟨rfl, hb⟩; have n0_ := ak (Kd.R_below (zR HO_4.out) hb); have n1_ := ak (Kd.R_below (zR HO_5.out) hb); have n2_ := ak (Kd.R_below (zR HO_6.out) hb); have n3_ := ak (blk_below (g := gb122) (o := .cells #[.int .i8 x123000_1, .int .u8 x123001_1, .int .u8 x123002_1] 24 (0, 0)) (zK BK122.out) hb); have n4_ := ak (blk_below (g := gb135) (o := .cells #[.int .i8 (IntKind.i8.wrap (x7_1)), .int .u8 x136001_27, .int .u8 x136002_40] 24 (0, 0)) (zK BK135.out) hb); have n5_ := ak (below_step (by repeat (first | (with_reducible first | exact HB.out | apply below_alloc | apply pw_below_drewN | apply below_drew1 | refine below_set ?_ GE122.out | refine below_set ?_ GE135.out) | exact HB.out)) hb); clear HO_4 HO_5 HO_6 BK122 BK135 HB; have HO_4 := n0_; have HO_5 := n1_; have HO_6 := n2_; have BK122 := n3_; have BK135 := n4_; have HB := n5_; clear n0_ n1_ n2_ n3_ n4_ n5_; (try clear hb); (try clear hb2); (try clear hk); (try clear hi)))
 repeat (go_quiet (first | (go_at_call 20; (with_reducible refine (spec_l04Habit.calls kj40 (IntKind.i8.wrap (x7_1)) x136001_27 x136002_40 false _ A49.out).mono ?_); rintro e w67 ⟨rfl, hb⟩; have n0_ := ak (Kd.R_below (zR HO_4.out) hb); have n1_ := ak (Kd.R_below (zR HO_5.out) hb); have n2_ := ak (Kd.R_below (zR HO_6.out) hb); have n3_ := ak (blk_below (g := gb122) (o := .cells #[.int .i8 x123000_1, .int .u8 x123001_1, .int .u8 x123002_1] 24 (0, 0)) (zK BK122.out) hb); have n4_ := ak (blk_below (g := gb135) (o := .cells #[.int .i8 (IntKind.i8.wrap (x7_1)), .int .u8 x136001_27, .int .u8 x136002_40] 24 (0, 0)) (zK BK135.out) hb); have n5_ := ak (below_step (by repeat (first | (with_reducible first | exact HB.out | apply below_alloc | apply pw_below_drewN | apply below_drew1 | refine below_set ?_ GE122.out | refine below_set ?_ GE135.out) | exact HB.out)) hb); clear HO_4 HO_5 HO_6 BK122 BK135 HB; have HO_4 := n0_; have HO_5 := n1_; have HO_6 := n2_; have BK122 := n3_; have BK135 := n4_; have HB := n5_; clear n0_ n1_ n2_ n3_ n4_ n5_; (try clear hb); (try clear hb2); (try clear hk); (try clear hi))); try go_wp2_with (first | (go_at_call 20; (with_reducible refine (spec_l04Habit.calls kj40 (IntKind.i8.wrap (x7_1)) x136001_27 x136002_40 false _ A49.out).mono ?_); rintro e w67 ⟨rfl, hb⟩; have n0_ := ak (Kd.R_below (zR HO_4.out) hb); have n1_ := ak (Kd.R_below (zR HO_5.out) hb); have n2_ := ak (Kd.R_below (zR HO_6.out) hb); have n3_ := ak (blk_below (g := gb122) (o := .cells #[.int .i8 x123000_1, .int .u8 x123001_1, .int .u8 x123002_1] 24 (0, 0)) (zK BK122.out) hb); have n4_ := ak (blk_below (g := gb135) (o := .cells #[.int .i8 (IntKind.i8.wrap (x7_1)), .int .u8 x136001_27, .int .u8 x136002_40] 24 (0, 0)) (zK BK135.out) hb); have n5_ := ak (below_step (by repeat (first | (with_reducible first | exact HB.out | apply below_alloc | apply pw_below_drewN | apply below_drew1 | refine below_set ?_ GE122.out | refine below_set ?_ GE135.out) | exact HB.out)) hb); clear HO_4 HO_5 HO_6 BK122 BK135 HB; have HO_4 := n0_; have HO_5 := n1_; have HO_6 := n2_; have BK122 := n3_; have BK135 := n4_; have HB := n5_; clear n0_ n1_ n2_ n3_ n4_ n5_; (try clear hb); (try clear hb2); (try clear hk); (try clear hi))))
 go_roundg kj40
 case measure => have := HK1.out; have := HJ9.out; have := HJ19.out; have := HJ27.out; have := HJ35.out; have := HJ40.out; omega
 case rel => exact ⟨(wrap64 (x7_1 + 1)), (x123000_1), (x123001_1), (x123002_1), (by first | rfl | (simp; done) | (simp [*]; done)), H', ⟨by have := HK1.out; have := HJ9.out; have := HJ19.out; have := HJ27.out; have := HJ35.out; have := HJ40.out; omega⟩, ⟨by (with_reducible repeat (first | apply Kd.R_alloc | apply Kd.R_drewN | apply Kd.R_drew)); exact HO_4.out⟩, ⟨by (with_reducible repeat (first | apply Kd.R_alloc | apply Kd.R_drewN | apply Kd.R_drew)); exact HO_5.out⟩, ⟨by (with_reducible repeat (first | apply Kd.R_alloc | apply Kd.R_drewN | apply Kd.R_drew)); exact HO_6.out⟩, ⟨by (with_reducible repeat (first | refine blk_drewN ?_ _ | refine blk_drew ?_ | refine blk_alloc ?_ _)); exact BK122.out⟩, ⟨by repeat (first | (with_reducible first | exact HB.out | apply below_alloc | apply pw_below_drewN | apply below_drew1 | refine below_set ?_ GE122.out | refine below_set ?_ GE135.out) | exact HB.out)⟩⟩
 }
 )
 )
 )
 )
 )
 )
 )
 )
 }
 )
 )
 }
 {
 rw [if_neg c9] at H
 have c9b0 : decide (x7_1 < (y126.length : Int)) = false := decide_eq_false c9
 clear c9
 simp only [Option.some.injEq, Prod.mk.injEq] at H
 obtain ⟨rfl, rfl, rfl, rfl⟩ := H
 obtain ⟨Ao68, co68, eo68⟩ := Kd.R_slice HO_5.out
 subst eo68
 have hcz69_0 : wr.cell? ⟨gb122, 0, none⟩ = some (.int .i8 x123000_1) := (blk_cell BK122.out 0).trans rfl
 have hcz69_1 : wr.cell? ⟨gb122, 1, none⟩ = some (.int .u8 x123001_1) := (blk_cell BK122.out 1).trans rfl
 have hcz69_2 : wr.cell? ⟨gb122, 2, none⟩ = some (.int .u8 x123002_1) := (blk_cell BK122.out 2).trans rfl
 have hfz69_0 := blk_frozen BK122.out 0
 have hfz69_1 := blk_frozen BK122.out 1
 have hfz69_2 := blk_frozen BK122.out 2
 go_wp2
 repeat (go_quiet (fail); try go_wp2)
 refine bodyPost_ret (results_ct rfl _ _ gb122 24 #[.int .i8 0, .int .u8 0, .int .u8 0] (0, 0) _ rfl (by (with_reducible repeat (first | refine blk_drewN ?_ _ | refine blk_drew ?_ | refine blk_alloc ?_ _)); refine blk_put (cs := #[.int .i8 0, .int .u8 0, .int .u8 x123002_1]) ?_ 2 _ rfl; (with_reducible repeat (first | refine blk_drewN ?_ _ | refine blk_drew ?_ | refine blk_alloc ?_ _)); refine blk_put (cs := #[.int .i8 0, .int .u8 x123001_1, .int .u8 x123002_1]) ?_ 1 _ rfl; (with_reducible repeat (first | refine blk_drewN ?_ _ | refine blk_drew ?_ | refine blk_alloc ?_ _)); refine blk_put (cs := #[.int .i8 x123000_1, .int .u8 x123001_1, .int .u8 x123002_1]) ?_ 0 _ rfl; (with_reducible repeat (first | refine blk_drewN ?_ _ | refine blk_drew ?_ | refine blk_alloc ?_ _)); exact BK122.out) Tryd.underlying24 rfl (by kernel_rfl)) rfl ?_
 exact ⟨by first | rfl | (simp [errW_none, errW_some] <;> rfl) | (simp [*, errW_none, errW_some] <;> rfl), by repeat (first | (with_reducible first | exact HB.out | apply below_alloc | apply pw_below_drewN | apply below_drew1 | refine below_set ?_ GE122.out) | exact HB.out)⟩
 }
 )
 )
end Go.Proofs.YtchnklikeimpiaaDoor.P
