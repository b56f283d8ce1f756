-- Printed by wip/print (my turned copy of the kit's print) out of the translation; Lean checks it.
import Derived.Test.YtgnnpgallnafcaaDoorP0
import Derived.Test.YtgnnpgallnafcaaDoorP4
namespace Go.Proofs.YtgnnpgallnafcaaDoor.P
open Go.RowKit Go.Proofs.YtgnnpgallnafcaaDoorW.PrintWords Go.Proofs.YtgnnpgallnafcaaDoorW.PrintLast Go.Proofs.YtgnnpgallnafcaaDoorW.PrintMore
attribute [local go_sem] max2_int min2_int max_two min_two max_three min_three max_four min_four   -- for this text's walks alone
set_option linter.unusedVariables false
set_option linter.unusedSimpArgs false

/-! ### impl_Habit_tries: function 36 -/
mutual
def impl_Habit_tries.l0 : Nat → ByteArray → List ByteArray → Int → Int → Int → Int → Int → Option (List ByteArray)
  | 0, _, _, _, _, _, _, _ => none
  | k + 1, x1, x5, x21, x22, x199000, x199001, x199002 => if x22 < x21 then (impl_Habit_tries.l1 k x1 x22 (([] : List ByteArray)) x21 x22 x5 (x5.length : Int) 0 x199000 x199001 x199002) else (some x5)
def impl_Habit_tries.l1 : Nat → ByteArray → Int → List ByteArray → Int → Int → List ByteArray → Int → Int → Int → Int → Int → Option (List ByteArray)
  | 0, _, _, _, _, _, _, _, _, _, _, _ => none
  | k + 1, x1, x6, x7, x21, x22, x26, x27, x28, x199000, x199001, x199002 => if x28 < x27 then (if 0 ≤ x28 then (if x28 < (x26.length : Int) then (if 0 ≤ x6 then (if x6 ≤ (wrap64 (x6 + 1)) then (if (wrap64 (x6 + 1)) ≤ (x1.size : Int) then (if (rdOf ByteArray.empty x26 x28).size + (x1.extract (x6 : Int).toNat ((wrap64 (x6 + 1)) : Int).toNat).size ≤ 9223372036854775807 then (if x7.length < 8796093022208 then ((some (x7 ++ [(rdOf ByteArray.empty x26 x28) ++ (x1.extract (x6 : Int).toNat ((wrap64 (x6 + 1)) : Int).toNat)] : List ByteArray)).bind fun y210 => (if x6 < (x1.size : Int) then (if (bt x1 x6) = x199002 then ((some (([x199001] : List Int) : List Int)).bind fun y213 => (if (rdOf ByteArray.empty x26 x28).size + (strOfNums y213).size ≤ 9223372036854775807 then (if y210.length < 8796093022208 then (impl_Habit_tries.l1 k x1 x6 (y210 ++ [(rdOf ByteArray.empty x26 x28) ++ (strOfNums y213)]) x21 x22 x26 x27 (wrap64 (x28 + 1)) x199000 x199001 x199002) else (none)) else (none))) else (impl_Habit_tries.l1 k x1 x6 y210 x21 x22 x26 x27 (wrap64 (x28 + 1)) x199000 x199001 x199002)) else (none))) else (none)) else (none)) else (none)) else (none)) else (none)) else (none)) else (none)) else (impl_Habit_tries.l0 k x1 x7 x21 (wrap64 (x22 + 1)) x199000 x199001 x199002)
def impl_Habit_tries.l2 : Nat → ByteArray → List ByteArray → Int → Int → Int → Int → Int → Option (List ByteArray)
  | 0, _, _, _, _, _, _, _ => none
  | k + 1, x1, x5, x64, x65, x199000, x199001, x199002 => if x65 < x64 then (if 0 ≤ x65 then (if x65 ≤ (x1.size : Int) then ((some (([x199001] : List Int) : List Int)).bind fun y219 => (if (x1.extract 0 (x65 : Int).toNat).size + (strOfNums y219).size ≤ 9223372036854775807 then (if (x1.extract 0 (x65 : Int).toNat).size + (strOfNums y219).size + (x1.extract (x65 : Int).toNat x1.size).size ≤ 9223372036854775807 then (if x5.length < 8796093022208 then (impl_Habit_tries.l2 k x1 (x5 ++ [((x1.extract 0 (x65 : Int).toNat) ++ (strOfNums y219)) ++ (x1.extract (x65 : Int).toNat x1.size)]) x64 (wrap64 (x65 + 1)) x199000 x199001 x199002) else (none)) else (none)) else (none))) else (none)) else (none)) else (some x5)
end
def impl_Habit_tries.f (k : Nat) (a0_0 : Int) (a0_1 : Int) (a0_2 : Int) (a1 : ByteArray) : Option (List ByteArray) := (impl_turned.f a1).bind fun t199 => ((some (([a1, t199] : List ByteArray) : List ByteArray)).bind fun y200 => (if a0_0 = 1 then (impl_Habit_tries.l0 k a1 (([(⟨#[]⟩ : ByteArray)] : List ByteArray)) (a1.size : Int) 0 a0_0 a0_1 a0_2) else (if a0_0 = 2 then (impl_Habit_tries.l2 k a1 y200 (wrap64 ((a1.size : Int) + 1)) 0 a0_0 a0_1 a0_2) else (if a0_0 = 3 then (if 0 ≤ (wrap64 ((a1.size : Int) - 1)) then (if (wrap64 ((a1.size : Int) - 1)) ≤ (a1.size : Int) then (if y200.length < 8796093022208 then (some (y200 ++ [a1.extract 0 ((wrap64 ((a1.size : Int) - 1)) : Int).toNat])) else (none)) else (none)) else (none)) else (some y200)))))
theorem impl_Habit_tries.mono_l : ∀ k, (∀ y0 y1 y2 y3 y4 y5 y6, LeO (impl_Habit_tries.l0 k y0 y1 y2 y3 y4 y5 y6) (impl_Habit_tries.l0 (k + 1) y0 y1 y2 y3 y4 y5 y6)) ∧ (∀ y0 y1 y2 y3 y4 y5 y6 y7 y8 y9 y10, LeO (impl_Habit_tries.l1 k y0 y1 y2 y3 y4 y5 y6 y7 y8 y9 y10) (impl_Habit_tries.l1 (k + 1) y0 y1 y2 y3 y4 y5 y6 y7 y8 y9 y10)) ∧ (∀ y0 y1 y2 y3 y4 y5 y6, LeO (impl_Habit_tries.l2 k y0 y1 y2 y3 y4 y5 y6) (impl_Habit_tries.l2 (k + 1) y0 y1 y2 y3 y4 y5 y6))
  | 0 => ⟨fun _ _ _ _ _ _ _ r h => by simp [impl_Habit_tries.l0] at h, fun _ _ _ _ _ _ _ _ _ _ _ r h => by simp [impl_Habit_tries.l1] at h, fun _ _ _ _ _ _ _ r h => by simp [impl_Habit_tries.l2] at h⟩
  | k + 1 => by
    obtain ⟨ih0, ih1, ih2⟩ := impl_Habit_tries.mono_l k
    refine ⟨?_, ?_, ?_⟩
    · intro y0 y1 y2 y3 y4 y5 y6
      unfold impl_Habit_tries.l0
      repeat' first
      | (with_reducible exact ih0 _ _ _ _ _ _ _)
      | (with_reducible exact ih1 _ _ _ _ _ _ _ _ _ _ _)
      | (with_reducible exact ih2 _ _ _ _ _ _ _)
      | (with_reducible exact LeO.refl _)
      | (with_reducible exact LeO.none _)
      | (with_reducible refine LeO.ite ?_ ?_)
      | (with_reducible refine LeO.bind ?_ (fun _ => ?_))
      | exact ih0 _ _ _ _ _ _ _
      | exact ih1 _ _ _ _ _ _ _ _ _ _ _
      | exact ih2 _ _ _ _ _ _ _
      | exact LeO.none _
      | refine LeO.ite ?_ ?_
      | refine LeO.bind ?_ (fun _ => ?_)
    · intro y0 y1 y2 y3 y4 y5 y6 y7 y8 y9 y10
      unfold impl_Habit_tries.l1
      repeat' first
      | (with_reducible exact ih0 _ _ _ _ _ _ _)
      | (with_reducible exact ih1 _ _ _ _ _ _ _ _ _ _ _)
      | (with_reducible exact ih2 _ _ _ _ _ _ _)
      | (with_reducible exact LeO.refl _)
      | (with_reducible exact LeO.none _)
      | (with_reducible refine LeO.ite ?_ ?_)
      | (with_reducible refine LeO.bind ?_ (fun _ => ?_))
      | exact ih0 _ _ _ _ _ _ _
      | exact ih1 _ _ _ _ _ _ _ _ _ _ _
      | exact ih2 _ _ _ _ _ _ _
      | exact LeO.none _
      | refine LeO.ite ?_ ?_
      | refine LeO.bind ?_ (fun _ => ?_)
    · intro y0 y1 y2 y3 y4 y5 y6
      unfold impl_Habit_tries.l2
      repeat' first
      | (with_reducible exact ih0 _ _ _ _ _ _ _)
      | (with_reducible exact ih1 _ _ _ _ _ _ _ _ _ _ _)
      | (with_reducible exact ih2 _ _ _ _ _ _ _)
      | (with_reducible exact LeO.refl _)
      | (with_reducible exact LeO.none _)
      | (with_reducible refine LeO.ite ?_ ?_)
      | (with_reducible refine LeO.bind ?_ (fun _ => ?_))
      | exact ih0 _ _ _ _ _ _ _
      | exact ih1 _ _ _ _ _ _ _ _ _ _ _
      | exact ih2 _ _ _ _ _ _ _
      | exact LeO.none _
      | refine LeO.ite ?_ ?_
      | refine LeO.bind ?_ (fun _ => ?_)
theorem impl_Habit_tries.mono : ∀ a0 a1 a2 a3 k, LeO (impl_Habit_tries.f k a0 a1 a2 a3) (impl_Habit_tries.f (k + 1) a0 a1 a2 a3) := by
  intro a0 a1 a2 a3 k
  obtain ⟨ih0, ih1, ih2⟩ := impl_Habit_tries.mono_l k
  unfold impl_Habit_tries.f
  repeat' first
      | (with_reducible exact ih0 _ _ _ _ _ _ _)
      | (with_reducible exact ih1 _ _ _ _ _ _ _ _ _ _ _)
      | (with_reducible exact ih2 _ _ _ _ _ _ _)
      | (with_reducible exact LeO.refl _)
      | (with_reducible exact LeO.none _)
      | (with_reducible refine LeO.ite ?_ ?_)
      | (with_reducible refine LeO.bind ?_ (fun _ => ?_))
      | exact ih0 _ _ _ _ _ _ _
      | exact ih1 _ _ _ _ _ _ _ _ _ _ _
      | exact ih2 _ _ _ _ _ _ _
      | exact LeO.none _
      | refine LeO.ite ?_ ?_
      | refine LeO.bind ?_ (fun _ => ?_)
def impl_Habit_tries.T22 : Bool × List (List Nat × List Nat) := (true, [([], []), ([], []), ([], []), ([1, 2], [1, 2]), ([], []), ([4], [4]), ([5], [5]), ([6], [6]), ([3, 7], [3, 7]), ([], []), ([], []), ([9, 10], [9, 10]), ([8, 11], [8, 11]), ([12], [12]), ([0, 13], [0, 13]), ([14, 14, 0, 1, 2, 3, 4, 5, 6, 7, 8, 9, 10, 11, 12, 13, 14], [0, 14])])
def impl_Habit_tries.B22 : List Nat := [0, 0, 0, 6, 0, 16, 48, 112, 254, 0, 0, 1536, 4094, 8190, 16383, 32767]
theorem impl_Habit_tries.tab22 : rtab .any (opsOf Tryd.f36 22) = impl_Habit_tries.T22 := by kernel_rfl
theorem impl_Habit_tries.bits22 : waitsOk impl_Habit_tries.T22.2 impl_Habit_tries.B22 = true := by kernel_rfl
set_option maxHeartbeats 8000000 in
set_option maxRecDepth 100000 in
theorem impl_Habit_tries.calls (k : Nat) (a0_0 : Int) (a0_1 : Int) (a0_2 : Int) (a1 : ByteArray) (r : List ByteArray) (w : World) (h : impl_Habit_tries.f k a0_0 a0_1 a0_2 a1 = some r) :
    Calls Tryd.prog 36 #[.agg #[.int .i8 a0_0, .int .u8 a0_1, .int .u8 a0_2], .string a1] w fun e w' => ∃ v0_ : Value, e = .returned (v0_) ∧ Kd.R Kd.string 9 w' w.heap.size (fun _ => True) v0_ r ∧ Below w.heap.size w w' := by
 have hu28 := Tryd.underlying28
 have HB := ak (Below.refl w.heap.size w)
 have H : ((impl_turned.f a1).bind fun t199 => ((some (([a1, t199] : List ByteArray) : List ByteArray)).bind fun y200 => (if a0_0 = 1 then (impl_Habit_tries.l0 k a1 (([(⟨#[]⟩ : ByteArray)] : List ByteArray)) (a1.size : Int) 0 a0_0 a0_1 a0_2) else (if a0_0 = 2 then (impl_Habit_tries.l2 k a1 y200 (wrap64 ((a1.size : Int) + 1)) 0 a0_0 a0_1 a0_2) else (if a0_0 = 3 then (if 0 ≤ (wrap64 ((a1.size : Int) - 1)) then (if (wrap64 ((a1.size : Int) - 1)) ≤ (a1.size : Int) then (if y200.length < 8796093022208 then (some (y200 ++ [a1.extract 0 ((wrap64 ((a1.size : Int) - 1)) : Int).toNat])) else (none)) else (none)) else (none)) else (some y200)))))) = some r := h
 clear h
 replace H := Option.bind_eq_some_iff.mp H
 obtain ⟨t199, A30, H⟩ := H
 replace H : ((some (([a1, t199] : List ByteArray) : List ByteArray)).bind fun y200 => (if a0_0 = 1 then (impl_Habit_tries.l0 k a1 (([(⟨#[]⟩ : ByteArray)] : List ByteArray)) (a1.size : Int) 0 a0_0 a0_1 a0_2) else (if a0_0 = 2 then (impl_Habit_tries.l2 k a1 y200 (wrap64 ((a1.size : Int) + 1)) 0 a0_0 a0_1 a0_2) else (if a0_0 = 3 then (if 0 ≤ (wrap64 ((a1.size : Int) - 1)) then (if (wrap64 ((a1.size : Int) - 1)) ≤ (a1.size : Int) then (if y200.length < 8796093022208 then (some (y200 ++ [a1.extract 0 ((wrap64 ((a1.size : Int) - 1)) : Int).toNat])) else (none)) else (none)) else (none)) else (some y200))))) = some r := H
 have A3 := ak A30
 clear A30
 obtain ⟨y200, hy200⟩ : ∃ y_ : List ByteArray, y_ = (([a1, t199] : List ByteArray)) := ⟨_, rfl⟩
 replace H : (if a0_0 = 1 then (impl_Habit_tries.l0 k a1 (([(⟨#[]⟩ : ByteArray)] : List ByteArray)) (a1.size : Int) 0 a0_0 a0_1 a0_2) else (if a0_0 = 2 then (impl_Habit_tries.l2 k a1 y200 (wrap64 ((a1.size : Int) + 1)) 0 a0_0 a0_1 a0_2) else (if a0_0 = 3 then (if 0 ≤ (wrap64 ((a1.size : Int) - 1)) then (if (wrap64 ((a1.size : Int) - 1)) ≤ (a1.size : Int) then (if y200.length < 8796093022208 then (some (y200 ++ [a1.extract 0 ((wrap64 ((a1.size : Int) - 1)) : Int).toNat])) else (none)) else (none)) else (none)) else (some y200)))) = some r := by first | (rw [hy200]; with_reducible exact H) | (have H2_ := (Option.bind_some _ _).symm.trans H; rw [hy200]; with_reducible exact H2_) | (have H2_ := (Option.bind_some _ _).symm.trans H; with_reducible exact H2_) | with_reducible exact H | (rw [hy200]; exact H) | exact H
 have Ny200 := ak hy200
 clear hy200
 by_cases c4 : a0_0 = 1
 {
 rw [if_pos c4] at H
 have c4b0 : (a0_0 == 1) = true := beq_iff_eq.mpr c4
 have c4b1 : (a0_0 != 1) = false := bne_eq_false_iff_eq.mpr c4
 clear c4
 obtain ⟨y203, hy203⟩ : ∃ y_ : List ByteArray, y_ = (([(⟨#[]⟩ : ByteArray)] : List ByteArray)) := ⟨_, rfl⟩
 replace H : (impl_Habit_tries.l0 k a1 y203 (a1.size : Int) 0 a0_0 a0_1 a0_2) = some r := by first | (rw [hy203]; with_reducible exact H) | (have H2_ := (Option.bind_some _ _).symm.trans H; rw [hy203]; with_reducible exact H2_) | (have H2_ := (Option.bind_some _ _).symm.trans H; with_reducible exact H2_) | with_reducible exact H | (rw [hy203]; exact H) | exact H
 have Ny203 := ak hy203
 clear hy203
 have H' := ak H
 clear H
 go_enter Tryd.func36, Tryd.ntmps36
 go_wp2_with (first | ((with_reducible refine gate_dst (N := 2) rfl ?_); refine box_event ?hg (N := 2) ?hd (cs := #[.int .i8 a0_0, .int .u8 a0_1, .int .u8 a0_2]) (t := 28) ?hr ?_; (case hd => rfl); (case hg => rfl); (case hr => first | (go_simp; done) | (go_simp; rfl)); intro gb198 hg w5 hbox hb; have n0_ := ak (below_step (zB HB.out) hb); have n1_ := ak (hbox); have n2_ := ak ((by rw [hg]; exact (below_size (zB HB.out)) : w.heap.size ≤ gb198)); have n3_ := ak ((by rw [hg]; exact (below_size (zB HB.out)) : w.heap.size ≤ gb198)); clear HB; have HB := n0_; have BK198 := n1_; have GW198 := n2_; have GE198 := n3_; clear n0_ n1_ n2_ n3_; clear hb hbox hg) | ((with_reducible refine gate_callee (f := 51) rfl ?_); refine goesL_ (some 13) rfl rfl Tryd.func51 (by kernel_rfl) rfl #[.string a1] rfl (by (try simp only [List.map_toArray, List.map_cons, List.map_nil]); first | done | rfl | (simp only [List.length_drop, List.length_take]; rfl)) ?_; (with_reducible refine (impl_turned.calls a1 t199 _ A3.out).mono ?_); rintro e w6 ⟨rfl, hb⟩; refine ⟨_, rfl, ?_⟩; have n0_ := ak (blk_below (g := gb198) (o := .cells #[.int .i8 a0_0, .int .u8 a0_1, .int .u8 a0_2] 28 (0, 0)) (zK BK198.out) hb); have n1_ := ak (below_step (zBG HB.out GE198.out) hb); clear BK198 HB; have BK198 := n0_; have HB := n1_; clear n0_ n1_; (try clear hb); (try clear hb2); (try clear hk); (try clear hi)) | ((with_reducible refine gate_dst (N := 14) rfl ?_); refine Kd.R_lit Kd.string _ 9 ?hg (N := 14) ?hd (xs := ([a1, t199] : List ByteArray)) (inner := [.string a1, .string t199]) (ok := fun _ => True) (okp := fun _ => True) ?hr ?hp (fun _ hk => hk) trivial (Below.refl _ _) (Nat.le_refl _) (by simp) ?_; (case hd => rfl); (case hg => rfl); (case hr => first | (go_simp; done) | (go_simp; rfl)); (case hp => exact (Reps.one (show Kd.M Kd.string _ _ _ a1 [.string a1] from rfl) (Reps.one (show Kd.M Kd.string _ _ _ t199 [.string t199] from rfl) (Reps.none _ _)))); intro v201 w7 ho8 hb hg_ hnew_; clear hg_ hnew_; (first | rw [← Ny200.out] at ho8 | (simp only [Int.reduceToNat] at ho8; rw [← Ny200.out] at ho8)); have n0_ := ak (Kd.R_lower ho8 (below_size (zBG HB.out GE198.out))); have n1_ := ak (blk_below (g := gb198) (o := .cells #[.int .i8 a0_0, .int .u8 a0_1, .int .u8 a0_2] 28 (0, 0)) (zK BK198.out) hb); have n2_ := ak (below_step (zBG HB.out GE198.out) hb); clear BK198 HB; have HO202 := n0_; have BK198 := n1_; have HB := n2_; clear n0_ n1_ n2_; clear hb ho8; have hcz9_0 : w7.cell? ⟨gb198, 0, none⟩ = some (.int .i8 a0_0) := (blk_cell BK198.out 0).trans rfl; have hcz9_1 : w7.cell? ⟨gb198, 1, none⟩ = some (.int .u8 a0_1) := (blk_cell BK198.out 1).trans rfl; have hcz9_2 : w7.cell? ⟨gb198, 2, none⟩ = some (.int .u8 a0_2) := (blk_cell BK198.out 2).trans rfl; have hfz9_0 := blk_frozen BK198.out 0; have hfz9_1 := blk_frozen BK198.out 1; have hfz9_2 := blk_frozen BK198.out 2) | ((with_reducible refine gate_dst (N := 19) rfl ?_); refine Kd.R_lit Kd.string _ 9 ?hg (N := 19) ?hd (xs := ([(⟨#[]⟩ : ByteArray)] : List ByteArray)) (inner := [.string (⟨#[]⟩ : ByteArray)]) (ok := fun _ => True) (okp := fun _ => True) ?hr ?hp (fun _ hk => hk) trivial (Below.refl _ _) (Nat.le_refl _) (by simp) ?_; (case hd => rfl); (case hg => rfl); (case hr => first | (go_simp; done) | (go_simp; rfl)); (case hp => exact (Reps.one (show Kd.M Kd.string _ _ _ (⟨#[]⟩ : ByteArray) [.string (⟨#[]⟩ : ByteArray)] from rfl) (Reps.none _ _))); intro v204 w10 ho11 hb hg_ hnew_; clear hg_ hnew_; (first | rw [← Ny203.out] at ho11 | (simp only [Int.reduceToNat] at ho11; rw [← Ny203.out] at ho11)); have n0_ := ak (Kd.R_elder' (zR HO202.out) (Kd.R_base ho11) hb); have n1_ := ak (Kd.R_lower (Kd.R_new' ho11 (Kd.R_lt (zR HO202.out))) (below_size (zBG HB.out GE198.out))); have n2_ := ak (blk_below (g := gb198) (o := .cells #[.int .i8 a0_0, .int .u8 a0_1, .int .u8 a0_2] 28 (0, 0)) (zK BK198.out) hb); have n3_ := ak (below_step (zBG HB.out GE198.out) hb); clear HO202 BK198 HB; have HO202 := n0_; have HO205 := n1_; have BK198 := n2_; have HB := n3_; clear n0_ n1_ n2_ n3_; clear hb ho11))
 go_loopg [5, 22] k (fun kq v5 v22 w' => ∃ (x5_1 : List ByteArray) (x22_1 : Int), v22 = .int .i64 x22_1 ∧ Aside0 (impl_Habit_tries.l0 kq a1 x5_1 (a1.size : Int) x22_1 a0_0 a0_1 a0_2 = some r) ∧ Aside0 (kq ≤ k) ∧ Aside0 (Kd.R Kd.string 9 w' w.heap.size (fun _ => True) v5 x5_1) ∧ Aside0 (w'.heap[gb198]? = some (.cells #[.int .i8 a0_0, .int .u8 a0_1, .int .u8 a0_2] 28 (0, 0))) ∧ Aside0 (Below w.heap.size w w'))
 case atStart => exact ⟨(y203), (0), (by first | rfl | (simp; done) | (simp [*]; done)), H', ⟨Nat.le_refl _⟩, ⟨by (with_reducible repeat (first | apply Kd.R_alloc | apply Kd.R_drewN | apply Kd.R_drew)); exact Kd.R_mono HO205.out (fun _ hk => trivial)⟩, ⟨by (with_reducible repeat (first | refine blk_drewN ?_ _ | refine blk_drew ?_ | refine blk_alloc ?_ _)); exact BK198.out⟩, ⟨by repeat (first | (with_reducible first | exact HB.out | apply below_alloc | apply pw_below_drewN | apply below_drew1 | refine below_set ?_ GE198.out) | exact HB.out)⟩⟩
 case round => (
 clear H'
 try clear p2
 try clear c3
 try clear c4
 try clear c4b0
 try clear c4b1
 try clear c5
 try clear p6
 try clear hcz9_0
 try clear hcz9_1
 try clear hcz9_2
 try clear hfz9_0
 try clear hfz9_1
 try clear hfz9_2
 obtain ⟨x5_1, x22_1, rfl, HA, HK1, HO_5, BK198, HB⟩ := hrel
 cases gk with
 | zero => exact absurd HA.out (by simp [impl_Habit_tries.l0])
 | succ k1 => (
 have H := HA.out
 clear HA
 simp only [impl_Habit_tries.l0] at H
 by_cases c12 : x22_1 < (a1.size : Int)
 {
 rw [if_pos c12] at H
 have c12b0 : decide (x22_1 < (a1.size : Int)) = true := decide_eq_true c12
 clear c12
 obtain ⟨y206, hy206⟩ : ∃ y_ : List ByteArray, y_ = (([] : List ByteArray)) := ⟨_, rfl⟩
 replace H : (impl_Habit_tries.l1 k1 a1 x22_1 y206 (a1.size : Int) x22_1 x5_1 (x5_1.length : Int) 0 a0_0 a0_1 a0_2) = some r := by first | (rw [hy206]; with_reducible exact H) | (have H2_ := (Option.bind_some _ _).symm.trans H; rw [hy206]; with_reducible exact H2_) | (have H2_ := (Option.bind_some _ _).symm.trans H; with_reducible exact H2_) | with_reducible exact H | (rw [hy206]; exact H) | exact H
 have Ny206 := ak hy206
 clear hy206
 have H' := ak H
 clear H
 go_wp2_with (first | ((with_reducible refine gate_dst (N := 25) rfl ?_); refine Kd.R_lit Kd.string _ 9 ?hg (N := 25) ?hd (xs := ([] : List ByteArray)) (inner := []) (ok := fun _ => True) (okp := fun _ => True) ?hr ?hp (fun _ hk => hk) trivial (Below.refl _ _) (Nat.le_refl _) (by simp) ?_; (case hd => rfl); (case hg => rfl); (case hr => first | (go_simp; done) | (go_simp; rfl)); (case hp => exact (Reps.none _ _)); intro v207 w13 ho14 hb hg_ hnew_; clear hg_ hnew_; (first | rw [← Ny206.out] at ho14 | (simp only [Int.reduceToNat] at ho14; rw [← Ny206.out] at ho14)); have n0_ := ak (Kd.R_elder' (zR HO_5.out) (Kd.R_base ho14) hb); have n1_ := ak (Kd.R_lower (Kd.R_new' ho14 (Kd.R_lt (zR HO_5.out))) (below_size (zBG HB.out GE198.out))); have n2_ := ak (blk_below (g := gb198) (o := .cells #[.int .i8 a0_0, .int .u8 a0_1, .int .u8 a0_2] 28 (0, 0)) (zK BK198.out) hb); have n3_ := ak (below_step (zBG HB.out GE198.out) hb); clear HO_5 BK198 HB; have HO_5 := n0_; have HO208 := n1_; have BK198 := n2_; have HB := n3_; clear n0_ n1_ n2_ n3_; clear hb ho14; obtain ⟨Ao15, co15, eo15⟩ := Kd.R_slice HO_5.out; subst eo15))
 go_loopg [7, 28] k1 (fun kq v7 v28 w' => ∃ (x7_2 : List ByteArray) (x28_2 : Int), v28 = .int .i64 x28_2 ∧ Aside0 (impl_Habit_tries.l1 kq a1 x22_1 x7_2 (a1.size : Int) x22_1 x5_1 (x5_1.length : Int) x28_2 a0_0 a0_1 a0_2 = some r) ∧ Aside0 (kq ≤ k1) ∧ Aside0 (Kd.R Kd.string 9 w' w.heap.size (fun k_ => some k_ ≠ ((.slice Ao15 x5_1.length co15) : Value).ownBlock) v7 x7_2) ∧ Aside0 (Kd.R Kd.string 9 w' w.heap.size (fun k_ => some k_ ≠ (v7 : Value).ownBlock) (.slice Ao15 x5_1.length co15) x5_1) ∧ Aside0 (w'.heap[gb198]? = some (.cells #[.int .i8 a0_0, .int .u8 a0_1, .int .u8 a0_2] 28 (0, 0))) ∧ Aside0 (Below w.heap.size w w'))
 case atStart => exact ⟨(y206), (0), (by first | rfl | (simp; done) | (simp [*]; done)), H', ⟨Nat.le_refl _⟩, ⟨by (with_reducible repeat (first | apply Kd.R_alloc | apply Kd.R_drewN | apply Kd.R_drew)); exact Kd.R_mono HO208.out (fun _ hk => hk.2)⟩, ⟨by (with_reducible repeat (first | apply Kd.R_alloc | apply Kd.R_drewN | apply Kd.R_drew)); exact Kd.R_mono HO_5.out (fun _ hk => hk.2)⟩, ⟨by (with_reducible repeat (first | refine blk_drewN ?_ _ | refine blk_drew ?_ | refine blk_alloc ?_ _)); exact BK198.out⟩, ⟨by repeat (first | (with_reducible first | exact HB.out | apply below_alloc | apply pw_below_drewN | apply below_drew1 | refine below_set ?_ GE198.out) | exact HB.out)⟩⟩
 case round => (
 clear H'
 try clear c1
 try clear p2
 try clear c3
 try clear c4
 try clear c4b0
 try clear c4b1
 try clear c5
 try clear p6
 try clear c12
 try clear c12b0
 try clear hcz9_0
 try clear hcz9_1
 try clear hcz9_2
 try clear hfz9_0
 try clear hfz9_1
 try clear hfz9_2
 try clear p2
 try clear p6
 obtain ⟨x7_2, x28_2, rfl, HA, HK2, HO_7, HO_26, BK198, HB⟩ := hrel
 cases gk with
 | zero => exact absurd HA.out (by simp [impl_Habit_tries.l1])
 | succ k2 => (
 have H := HA.out
 clear HA
 simp only [impl_Habit_tries.l1] at H
 by_cases c16 : x28_2 < (x5_1.length : Int)
 {
 rw [if_pos c16] at H
 have c16b0 : decide (x28_2 < (x5_1.length : Int)) = true := decide_eq_true c16
 clear c16
 by_cases c17 : 0 ≤ x28_2
 {
 rw [if_pos c17] at H
 have c17b0 : decide (0 ≤ x28_2) = true := decide_eq_true c17
 clear c17
 by_cases c18 : x28_2 < (x5_1.length : Int)
 {
 rw [if_pos c18] at H
 have c18b0 : decide (x28_2 < (x5_1.length : Int)) = true := decide_eq_true c18
 clear c18
 by_cases c19 : 0 ≤ x22_1
 {
 rw [if_pos c19] at H
 have c19b0 := eq_true c19
 have c19b1 : decide (0 ≤ x22_1) = true := decide_eq_true c19
 clear c19
 by_cases c20 : x22_1 ≤ (wrap64 (x22_1 + 1))
 {
 rw [if_pos c20] at H
 have c20b0 := eq_true c20
 have c20b1 : decide (x22_1 ≤ (wrap64 (x22_1 + 1))) = true := decide_eq_true c20
 by_cases c21 : (wrap64 (x22_1 + 1)) ≤ (a1.size : Int)
 {
 rw [if_pos c21] at H
 have c21b0 := eq_true c21
 have c21b1 : decide ((wrap64 (x22_1 + 1)) ≤ (a1.size : Int)) = true := decide_eq_true c21
 by_cases c22 : (rdOf ByteArray.empty x5_1 x28_2).size + (a1.extract (x22_1 : Int).toNat ((wrap64 (x22_1 + 1)) : Int).toNat).size ≤ 9223372036854775807
 {
 rw [if_pos c22] at H
 have c22b0 := eq_true c22
 have c22b1 : decide ((rdOf ByteArray.empty x5_1 x28_2).size + (a1.extract (x22_1 : Int).toNat ((wrap64 (x22_1 + 1)) : Int).toNat).size ≤ 9223372036854775807) = true := decide_eq_true c22
 try have c22b2 : (9223372036854775807 < (rdOf ByteArray.empty x5_1 x28_2).size + (a1.extract (x22_1 : Int).toNat ((wrap64 (x22_1 + 1)) : Int).toNat).size) = False := eq_false (Nat.not_lt.2 c22)
 by_cases c23 : x7_2.length < 8796093022208
 {
 rw [if_pos c23] at H
 have LMc23 := ak c23
 clear c23
 obtain ⟨y210, hy210⟩ : ∃ y_ : List ByteArray, y_ = (x7_2 ++ [(rdOf ByteArray.empty x5_1 x28_2) ++ (a1.extract (x22_1 : Int).toNat ((wrap64 (x22_1 + 1)) : Int).toNat)]) := ⟨_, rfl⟩
 replace H : (if x22_1 < (a1.size : Int) then (if (bt a1 x22_1) = a0_2 then ((some (([a0_1] : List Int) : List Int)).bind fun y213 => (if (rdOf ByteArray.empty x5_1 x28_2).size + (strOfNums y213).size ≤ 9223372036854775807 then (if y210.length < 8796093022208 then (impl_Habit_tries.l1 k2 a1 x22_1 (y210 ++ [(rdOf ByteArray.empty x5_1 x28_2) ++ (strOfNums y213)]) (a1.size : Int) x22_1 x5_1 (x5_1.length : Int) (wrap64 (x28_2 + 1)) a0_0 a0_1 a0_2) else (none)) else (none))) else (impl_Habit_tries.l1 k2 a1 x22_1 y210 (a1.size : Int) x22_1 x5_1 (x5_1.length : Int) (wrap64 (x28_2 + 1)) a0_0 a0_1 a0_2)) else (none)) = some r := by first | (rw [hy210]; with_reducible exact H) | (have H2_ := (Option.bind_some _ _).symm.trans H; rw [hy210]; with_reducible exact H2_) | (have H2_ := (Option.bind_some _ _).symm.trans H; with_reducible exact H2_) | with_reducible exact H | (rw [hy210]; exact H) | exact H
 have Ny210 := ak hy210
 clear hy210
 by_cases c24 : x22_1 < (a1.size : Int)
 {
 rw [if_pos c24] at H
 have c24b0 : decide (x22_1 < (a1.size : Int)) = true := decide_eq_true c24
 clear c24
 by_cases c26 : (bt a1 x22_1) = a0_2
 {
 rw [if_pos c26] at H
 have c26b0 : ((bt a1 x22_1) == a0_2) = true := beq_iff_eq.mpr c26
 have c26b1 : ((bt a1 x22_1) != a0_2) = false := bne_eq_false_iff_eq.mpr c26
 clear c26
 obtain ⟨y213, hy213⟩ : ∃ y_ : List Int, y_ = (([a0_1] : List Int)) := ⟨_, rfl⟩
 replace H : (if (rdOf ByteArray.empty x5_1 x28_2).size + (strOfNums y213).size ≤ 9223372036854775807 then (if y210.length < 8796093022208 then (impl_Habit_tries.l1 k2 a1 x22_1 (y210 ++ [(rdOf ByteArray.empty x5_1 x28_2) ++ (strOfNums y213)]) (a1.size : Int) x22_1 x5_1 (x5_1.length : Int) (wrap64 (x28_2 + 1)) a0_0 a0_1 a0_2) else (none)) else (none)) = some r := by first | (rw [hy213]; with_reducible exact H) | (have H2_ := (Option.bind_some _ _).symm.trans H; rw [hy213]; with_reducible exact H2_) | (have H2_ := (Option.bind_some _ _).symm.trans H; with_reducible exact H2_) | with_reducible exact H | (rw [hy213]; exact H) | exact H
 have Ny213 := ak hy213
 clear hy213
 by_cases c27 : (rdOf ByteArray.empty x5_1 x28_2).size + (strOfNums y213).size ≤ 9223372036854775807
 {
 rw [if_pos c27] at H
 have c27b0 := eq_true c27
 have c27b1 : decide ((rdOf ByteArray.empty x5_1 x28_2).size + (strOfNums y213).size ≤ 9223372036854775807) = true := decide_eq_true c27
 try have c27b2 : (9223372036854775807 < (rdOf ByteArray.empty x5_1 x28_2).size + (strOfNums y213).size) = False := eq_false (Nat.not_lt.2 c27)
 by_cases c28 : y210.length < 8796093022208
 {
 rw [if_pos c28] at H
 have LMc28 := ak c28
 clear c28
 obtain ⟨y216, hy216⟩ : ∃ y_ : List ByteArray, y_ = (y210 ++ [(rdOf ByteArray.empty x5_1 x28_2) ++ (strOfNums y213)]) := ⟨_, rfl⟩
 replace H : (impl_Habit_tries.l1 k2 a1 x22_1 y216 (a1.size : Int) x22_1 x5_1 (x5_1.length : Int) (wrap64 (x28_2 + 1)) a0_0 a0_1 a0_2) = some r := by first | (rw [hy216]; with_reducible exact H) | (have H2_ := (Option.bind_some _ _).symm.trans H; rw [hy216]; with_reducible exact H2_) | (have H2_ := (Option.bind_some _ _).symm.trans H; with_reducible exact H2_) | with_reducible exact H | (rw [hy216]; exact H) | exact H
 have Ny216 := ak hy216
 clear hy216
 have H' := ak H
 clear H
 have p209 : 0 ≤ (x28_2 : Int) := of_decide_eq_true (by first | (with_reducible assumption) | assumption)
 have q209 : x28_2 < (x5_1.length : Int) := of_decide_eq_true (by first | (with_reducible assumption) | assumption)
 obtain ⟨ad209, e209, hx209_0⟩ := Kd.at_string (Kd.R_reads' HO_26.out).2.2 x28_2 p209 q209
 cases e209
 replace p209 := eq_true p209
 replace q209 := eq_true q209
 try go_wp2_with (first | ((with_reducible refine gate_builtin (b := .append) (xs := #[.tmp 32, .tmp 40]) rfl ?_); at_builtin; refine Kd.R_append Kd.string (w0 := w) w.heap.size rfl (.tmp 32) (.tmp 40) 25 9 (.string ⟨#[]⟩) 16 rfl Tryd.underlying25 info9 rfl (by decide) (by omega) u7 x7_2 ((rdOf ByteArray.empty x5_1 x28_2) ++ (a1.extract (x22_1 : Int).toNat ((wrap64 (x22_1 + 1)) : Int).toNat)) [.string ((rdOf ByteArray.empty x5_1 x28_2) ++ (a1.extract (x22_1 : Int).toNat ((wrap64 (x22_1 + 1)) : Int).toNat))] (fun k_ => some k_ ≠ (.slice (some ad209) x5_1.length co15 : Value).ownBlock) (fun _ => False) rfl rfl ?aP (fun _ hk => hk.elim) ?aF ?aO ?aB ?aS ?aL ?_; (case aP => exact rfl); (case aB => exact (zBG HB.out GE198.out)); (case aF => exact (fun k_ hk => Kd.fresh' (Kd.R_lt (zR HO_26.out)) k_ hk)); (case aO => exact (zR HO_7.out)); (case aS => exact (below_size (zBG HB.out GE198.out))); (case aL => have := LMc23.out; omega); intro v211 w29 ho hb hg hat; rw [← Ny210.out] at ho; have n0_ := ak (Kd.R_after (ok := (fun _ => True)) (by (with_reducible repeat (first | apply Kd.R_alloc | apply Kd.R_drewN | apply Kd.R_drew)); exact Kd.R_mono HO_26.out (fun _ hk => ⟨trivial, by first | exact hk | exact own_len_ hk⟩)) hg hat); have n1_ := ak (blk_grown (g := gb198) (o := .cells #[.int .i8 a0_0, .int .u8 a0_1, .int .u8 a0_2] 28 (0, 0)) (zK BK198.out) hg (Kd.R_ne HO_7.out BK198.out (by decide))); have n2_ := ak (hb); have n3_ := ak (ho); clear HO_26 BK198 HB HO_7; have HO_26 := n0_; have BK198 := n1_; have HB := n2_; have HO212 := n3_; clear n0_ n1_ n2_ n3_; clear ho hb hg hat))
 have n0_ := ak (Kd.R_drew HO_26.out)
 have n1_ := ak (Kd.R_drew HO212.out)
 have n2_ := ak (blk_drew BK198.out)
 have n3_ := ak (below_drew1 HB.out)
 clear HO_26 HO212 BK198 HB
 have HO_26 := n0_
 have HO212 := n1_
 have BK198 := n2_
 have HB := n3_
 clear n0_ n1_ n2_ n3_
 have p25 : 0 ≤ (x22_1 : Int) := of_decide_eq_true (by first | (with_reducible assumption) | assumption)
 have q25 : x22_1 < (a1.size : Int) := of_decide_eq_true (by first | (with_reducible assumption) | assumption)
 have hx25 := bt_at a1 x22_1
 replace p25 := eq_true p25
 replace q25 := eq_true q25
 refine start_ (n := 6) (S := fun w' => w'.cell? ⟨gb198, 0, none⟩ = some (.int .i8 a0_0) ∧ w'.cell? ⟨gb198, 1, none⟩ = some (.int .u8 a0_1) ∧ w'.cell? ⟨gb198, 2, none⟩ = some (.int .u8 a0_2)) (ds := []) #[false, false, false, false, false, false] (by kernel_rfl) rfl rfl ⟨(blk_cell BK198.out 0).trans rfl, (blk_cell BK198.out 1).trans rfl, (blk_cell BK198.out 2).trans rfl⟩ (fun hHeld => ?_)
 generalize w29.drew = w30 at HO_26 HO212 BK198 HB hHeld ⊢
 refine pure_ (i := 0) (N := some 42) (v := ?_) (a' := ?_) #[true, false, false, false, false, false] rfl rfl (by kernel_rfl) (fun _ _ _ h => h) (Or.inl ⟨by rfl, ?_⟩) ?_ ?_
 rotate_left
 {
 intro w'
 go_simp
 with_reducible rfl
 }
 rotate_left
 · simp only [Act.put, zs, zz, zk, i64_w, i32_w]; rfl
 refine pure_ (i := 1) (N := some 43) (v := ?_) (a' := ?_) #[true, true, false, false, false, false] rfl rfl (by kernel_rfl) (fun _ _ _ h => h) (Or.inl ⟨by rfl, ?_⟩) ?_ ?_
 rotate_left
 {
 intro w'
 go_simp
 with_reducible rfl
 }
 rotate_left
 · simp only [Act.put, zs, zz, zk, i64_w, i32_w]; rfl
 refine pure_ (i := 3) (N := some 45) (v := ?_) (a' := ?_) #[true, true, false, true, false, false] rfl rfl (by kernel_rfl) (fun _ _ _ h => h) (Or.inl ⟨by rfl, ?_⟩) ?_ ?_
 rotate_left
 {
 intro w'
 go_simp
 with_reducible rfl
 }
 rotate_left
 · simp only [Act.put, zs, zz, zk, i64_w, i32_w]; rfl
 refine take_ (i := 2) (N := some 44) (v := ?_) (a' := ?_) #[true, true, true, true, false, false] rfl rfl (by kernel_rfl) (fun _ _ _ h => h) (Or.inl ⟨by rfl, ?_⟩) hHeld ?_ ?_
 rotate_left
 {
 rintro w' ⟨s0, s1, s2⟩
 go_simp
 with_reducible rfl
 }
 rotate_left
 · simp only [Act.put, zs, zz, zk, i64_w, i32_w]; rfl
 refine take_ (i := 4) (N := some 46) (v := ?_) (a' := ?_) #[true, true, true, true, true, false] rfl rfl (by kernel_rfl) (fun _ _ _ h => h) (Or.inl ⟨by rfl, ?_⟩) hHeld ?_ ?_
 rotate_left
 {
 rintro w' ⟨s0, s1, s2⟩
 go_simp
 with_reducible rfl
 }
 rotate_left
 · simp only [Act.put, zs, zz, zk, i64_w, i32_w]; rfl
 refine pure_ (i := 5) (N := some 47) (v := ?_) (a' := ?_) #[true, true, true, true, true, true] rfl rfl (by kernel_rfl) (fun _ _ _ h => h) (Or.inl ⟨by rfl, ?_⟩) ?_ ?_
 rotate_left
 {
 intro w'
 go_simp
 with_reducible rfl
 }
 rotate_left
 · simp only [Act.put, zs, zz, zk, i64_w, i32_w]; rfl
 refine done_ (by kernel_rfl) ?_
 have hcz31_0 : w30.cell? ⟨gb198, 0, none⟩ = some (.int .i8 a0_0) := (blk_cell BK198.out 0).trans rfl
 have hcz31_1 : w30.cell? ⟨gb198, 1, none⟩ = some (.int .u8 a0_1) := (blk_cell BK198.out 1).trans rfl
 have hcz31_2 : w30.cell? ⟨gb198, 2, none⟩ = some (.int .u8 a0_2) := (blk_cell BK198.out 2).trans rfl
 have hfz31_0 := blk_frozen BK198.out 0
 have hfz31_1 := blk_frozen BK198.out 1
 have hfz31_2 := blk_frozen BK198.out 2
 try go_wp2_with (first | ((with_reducible refine gate_dst (N := 52) rfl ?_); refine Kd.R_lit (Kd.int .u8) _ 5 ?hg (N := 52) ?hd (xs := ([a0_1] : List Int)) (inner := [.int .u8 a0_1]) (ok := fun _ => True) (okp := fun _ => True) ?hr ?hp (fun _ hk => hk) trivial (Below.refl _ _) (Nat.le_refl _) (by simp) ?_; (case hd => rfl); (case hg => rfl); (case hr => first | (go_simp; done) | (go_simp; rfl)); (case hp => exact (Reps.one (show Kd.M (Kd.int .u8) _ _ _ a0_1 [.int .u8 a0_1] from rfl) (Reps.none _ _))); intro v214 w32 ho33 hb hg_ hnew_; clear hg_ hnew_; (first | rw [← Ny213.out] at ho33 | (simp only [Int.reduceToNat] at ho33; rw [← Ny213.out] at ho33)); have n0_ := ak (Kd.R_below (zR HO_26.out) hb); have n1_ := ak (Kd.R_below (zR HO212.out) hb); have n2_ := ak (Kd.R_lower ho33 (below_size (zBG HB.out GE198.out))); have n3_ := ak (blk_below (g := gb198) (o := .cells #[.int .i8 a0_0, .int .u8 a0_1, .int .u8 a0_2] 28 (0, 0)) (zK BK198.out) hb); have n4_ := ak (below_step (zBG HB.out GE198.out) hb); clear HO_26 HO212 BK198 HB; have HO_26 := n0_; have HO212 := n1_; have HO215 := n2_; have BK198 := n3_; have HB := n4_; clear n0_ n1_ n2_ n3_ n4_; clear hb ho33; have hcv34 := own_string (P := Tryd.prog) Tryd.underlying58 Tryd.underlying5 Tryd.underlying9 (Kd.own_of_R HO215.out)) | ((with_reducible refine gate_builtin (b := .append) (xs := #[.tmp 48, .tmp 55]) rfl ?_); at_builtin; refine Kd.R_append Kd.string (w0 := w) w.heap.size rfl (.tmp 48) (.tmp 55) 25 9 (.string ⟨#[]⟩) 16 rfl Tryd.underlying25 info9 rfl (by decide) (by omega) v211 y210 ((rdOf ByteArray.empty x5_1 x28_2) ++ (strOfNums y213)) [.string ((rdOf ByteArray.empty x5_1 x28_2) ++ (strOfNums y213))] (fun k_ => some k_ ≠ (.slice (some ad209) x5_1.length co15 : Value).ownBlock) (fun _ => False) rfl rfl ?aP (fun _ hk => hk.elim) ?aF ?aO ?aB ?aS ?aL ?_; (case aP => exact rfl); (case aB => exact (zBG HB.out GE198.out)); (case aF => exact (fun k_ hk => Kd.fresh' (Kd.R_lt (zR HO_26.out)) k_ hk)); (case aO => exact (zR HO212.out)); (case aS => exact (below_size (zBG HB.out GE198.out))); (case aL => have := LMc28.out; omega); intro v217 w35 ho hb hg hat; rw [← Ny216.out] at ho; have n0_ := ak (Kd.R_after (ok := (fun _ => True)) (zR HO_26.out) hg hat); have n1_ := ak (blk_grown (g := gb198) (o := .cells #[.int .i8 a0_0, .int .u8 a0_1, .int .u8 a0_2] 28 (0, 0)) (zK BK198.out) hg (Kd.R_ne HO212.out BK198.out (by decide))); have n2_ := ak (Kd.R_over' (zR HO215.out) (Kd.R_typed (zR HO212.out)) (by decide) hg); have n3_ := ak (hb); have n4_ := ak (ho); clear HO_26 BK198 HO215 HB HO212; have HO_26 := n0_; have BK198 := n1_; have HO215 := n2_; have HB := n3_; have HO218 := n4_; clear n0_ n1_ n2_ n3_ n4_; clear ho hb hg hat))
 go_roundg k2
 case measure => have := HK1.out; have := HK2.out; omega
 case rel => exact ⟨(y216), (wrap64 (x28_2 + 1)), (by first | rfl | (simp; done) | (simp [*]; done)), H', ⟨by have := HK1.out; have := HK2.out; omega⟩, ⟨by (with_reducible repeat (first | apply Kd.R_alloc | apply Kd.R_drewN | apply Kd.R_drew)); exact HO218.out⟩, ⟨by (with_reducible repeat (first | apply Kd.R_alloc | apply Kd.R_drewN | apply Kd.R_drew)); exact Kd.R_mono HO_26.out (fun _ hk => hk.2)⟩, ⟨by (with_reducible repeat (first | refine blk_drewN ?_ _ | refine blk_drew ?_ | refine blk_alloc ?_ _)); exact BK198.out⟩, ⟨by repeat (first | (with_reducible first | exact HB.out | apply below_alloc | apply pw_below_drewN | apply below_drew1 | refine below_set ?_ GE198.out) | exact HB.out)⟩⟩
 }
 · rw [if_neg c28] at H; exact absurd H (by simp)
 }
 · rw [if_neg c27] at H; exact absurd H (by simp)
 }
 {
 rw [if_neg c26] at H
 have c26b0 : ((bt a1 x22_1) == a0_2) = false := beq_eq_false_iff_ne.mpr c26
 have c26b1 : ((bt a1 x22_1) != a0_2) = true := bne_iff_ne.mpr c26
 have H' := ak H
 clear H
 have p209 : 0 ≤ (x28_2 : Int) := of_decide_eq_true (by first | (with_reducible assumption) | assumption)
 have q209 : x28_2 < (x5_1.length : Int) := of_decide_eq_true (by first | (with_reducible assumption) | assumption)
 obtain ⟨ad209, e209, hx209_0⟩ := Kd.at_string (Kd.R_reads' HO_26.out).2.2 x28_2 p209 q209
 cases e209
 replace p209 := eq_true p209
 replace q209 := eq_true q209
 try go_wp2_with (first | ((with_reducible refine gate_builtin (b := .append) (xs := #[.tmp 32, .tmp 40]) rfl ?_); at_builtin; refine Kd.R_append Kd.string (w0 := w) w.heap.size rfl (.tmp 32) (.tmp 40) 25 9 (.string ⟨#[]⟩) 16 rfl Tryd.underlying25 info9 rfl (by decide) (by omega) u7 x7_2 ((rdOf ByteArray.empty x5_1 x28_2) ++ (a1.extract (x22_1 : Int).toNat ((wrap64 (x22_1 + 1)) : Int).toNat)) [.string ((rdOf ByteArray.empty x5_1 x28_2) ++ (a1.extract (x22_1 : Int).toNat ((wrap64 (x22_1 + 1)) : Int).toNat))] (fun k_ => some k_ ≠ (.slice (some ad209) x5_1.length co15 : Value).ownBlock) (fun _ => False) rfl rfl ?aP (fun _ hk => hk.elim) ?aF ?aO ?aB ?aS ?aL ?_; (case aP => exact rfl); (case aB => exact (zBG HB.out GE198.out)); (case aF => exact (fun k_ hk => Kd.fresh' (Kd.R_lt (zR HO_26.out)) k_ hk)); (case aO => exact (zR HO_7.out)); (case aS => exact (below_size (zBG HB.out GE198.out))); (case aL => have := LMc23.out; omega); intro v211 w36 ho hb hg hat; rw [← Ny210.out] at ho; have n0_ := ak (Kd.R_after (ok := (fun _ => True)) (by (with_reducible repeat (first | apply Kd.R_alloc | apply Kd.R_drewN | apply Kd.R_drew)); exact Kd.R_mono HO_26.out (fun _ hk => ⟨trivial, by first | exact hk | exact own_len_ hk⟩)) hg hat); have n1_ := ak (blk_grown (g := gb198) (o := .cells #[.int .i8 a0_0, .int .u8 a0_1, .int .u8 a0_2] 28 (0, 0)) (zK BK198.out) hg (Kd.R_ne HO_7.out BK198.out (by decide))); have n2_ := ak (hb); have n3_ := ak (ho); clear HO_26 BK198 HB HO_7; have HO_26 := n0_; have BK198 := n1_; have HB := n2_; have HO212 := n3_; clear n0_ n1_ n2_ n3_; clear ho hb hg hat))
 have n0_ := ak (Kd.R_drew HO_26.out)
 have n1_ := ak (Kd.R_drew HO212.out)
 have n2_ := ak (blk_drew BK198.out)
 have n3_ := ak (below_drew1 HB.out)
 clear HO_26 HO212 BK198 HB
 have HO_26 := n0_
 have HO212 := n1_
 have BK198 := n2_
 have HB := n3_
 clear n0_ n1_ n2_ n3_
 have p25 : 0 ≤ (x22_1 : Int) := of_decide_eq_true (by first | (with_reducible assumption) | assumption)
 have q25 : x22_1 < (a1.size : Int) := of_decide_eq_true (by first | (with_reducible assumption) | assumption)
 have hx25 := bt_at a1 x22_1
 replace p25 := eq_true p25
 replace q25 := eq_true q25
 refine start_ (n := 6) (S := fun w' => w'.cell? ⟨gb198, 0, none⟩ = some (.int .i8 a0_0) ∧ w'.cell? ⟨gb198, 1, none⟩ = some (.int .u8 a0_1) ∧ w'.cell? ⟨gb198, 2, none⟩ = some (.int .u8 a0_2)) (ds := []) #[false, false, false, false, false, false] (by kernel_rfl) rfl rfl ⟨(blk_cell BK198.out 0).trans rfl, (blk_cell BK198.out 1).trans rfl, (blk_cell BK198.out 2).trans rfl⟩ (fun hHeld => ?_)
 generalize w36.drew = w37 at HO_26 HO212 BK198 HB hHeld ⊢
 refine pure_ (i := 0) (N := some 42) (v := ?_) (a' := ?_) #[true, false, false, false, false, false] rfl rfl (by kernel_rfl) (fun _ _ _ h => h) (Or.inl ⟨by rfl, ?_⟩) ?_ ?_
 rotate_left
 {
 intro w'
 go_simp
 with_reducible rfl
 }
 rotate_left
 · simp only [Act.put, zs, zz, zk, i64_w, i32_w]; rfl
 refine pure_ (i := 1) (N := some 43) (v := ?_) (a' := ?_) #[true, true, false, false, false, false] rfl rfl (by kernel_rfl) (fun _ _ _ h => h) (Or.inl ⟨by rfl, ?_⟩) ?_ ?_
 rotate_left
 {
 intro w'
 go_simp
 with_reducible rfl
 }
 rotate_left
 · simp only [Act.put, zs, zz, zk, i64_w, i32_w]; rfl
 refine pure_ (i := 3) (N := some 45) (v := ?_) (a' := ?_) #[true, true, false, true, false, false] rfl rfl (by kernel_rfl) (fun _ _ _ h => h) (Or.inl ⟨by rfl, ?_⟩) ?_ ?_
 rotate_left
 {
 intro w'
 go_simp
 with_reducible rfl
 }
 rotate_left
 · simp only [Act.put, zs, zz, zk, i64_w, i32_w]; rfl
 refine take_ (i := 2) (N := some 44) (v := ?_) (a' := ?_) #[true, true, true, true, false, false] rfl rfl (by kernel_rfl) (fun _ _ _ h => h) (Or.inl ⟨by rfl, ?_⟩) hHeld ?_ ?_
 rotate_left
 {
 rintro w' ⟨s0, s1, s2⟩
 go_simp
 with_reducible rfl
 }
 rotate_left
 · simp only [Act.put, zs, zz, zk, i64_w, i32_w]; rfl
 refine take_ (i := 4) (N := some 46) (v := ?_) (a' := ?_) #[true, true, true, true, true, false] rfl rfl (by kernel_rfl) (fun _ _ _ h => h) (Or.inl ⟨by rfl, ?_⟩) hHeld ?_ ?_
 rotate_left
 {
 rintro w' ⟨s0, s1, s2⟩
 go_simp
 with_reducible rfl
 }
 rotate_left
 · simp only [Act.put, zs, zz, zk, i64_w, i32_w]; rfl
 refine pure_ (i := 5) (N := some 47) (v := ?_) (a' := ?_) #[true, true, true, true, true, true] rfl rfl (by kernel_rfl) (fun _ _ _ h => h) (Or.inl ⟨by rfl, ?_⟩) ?_ ?_
 rotate_left
 {
 intro w'
 go_simp
 with_reducible rfl
 }
 rotate_left
 · simp only [Act.put, zs, zz, zk, i64_w, i32_w]; rfl
 refine done_ (by kernel_rfl) ?_
 try go_wp2
 go_roundg k2
 case measure => have := HK1.out; have := HK2.out; omega
 case rel => exact ⟨(y210), (wrap64 (x28_2 + 1)), (by first | rfl | (simp; done) | (simp [*]; done)), H', ⟨by have := HK1.out; have := HK2.out; omega⟩, ⟨by (with_reducible repeat (first | apply Kd.R_alloc | apply Kd.R_drewN | apply Kd.R_drew)); exact HO212.out⟩, ⟨by (with_reducible repeat (first | apply Kd.R_alloc | apply Kd.R_drewN | apply Kd.R_drew)); exact Kd.R_mono HO_26.out (fun _ hk => hk.2)⟩, ⟨by (with_reducible repeat (first | refine blk_drewN ?_ _ | refine blk_drew ?_ | refine blk_alloc ?_ _)); exact BK198.out⟩, ⟨by repeat (first | (with_reducible first | exact HB.out | apply below_alloc | apply pw_below_drewN | apply below_drew1 | refine below_set ?_ GE198.out) | exact HB.out)⟩⟩
 }
 }
 · rw [if_neg c24] at H; exact absurd H (by simp)
 }
 · rw [if_neg c23] at H; exact absurd H (by simp)
 }
 · rw [if_neg c22] at H; exact absurd H (by simp)
 }
 · rw [if_neg c21] at H; exact absurd H (by simp)
 }
 · rw [if_neg c20] at H; exact absurd H (by simp)
 }
 · rw [if_neg c19] at H; exact absurd H (by simp)
 }
 · rw [if_neg c18] at H; exact absurd H (by simp)
 }
 · rw [if_neg c17] at H; exact absurd H (by simp)
 }
 {
 rw [if_neg c16] at H
 have c16b0 : decide (x28_2 < (x5_1.length : Int)) = false := decide_eq_false c16
 clear c16
 have H' := ak H
 clear H
 go_wp2
 go_roundg k2
 case measure => have := HK1.out; have := HK2.out; omega
 case rel => exact ⟨(x7_2), (wrap64 (x22_1 + 1)), (by first | rfl | (simp; done) | (simp [*]; done)), H', ⟨by have := HK1.out; have := HK2.out; omega⟩, ⟨by (with_reducible repeat (first | apply Kd.R_alloc | apply Kd.R_drewN | apply Kd.R_drew)); exact Kd.R_mono HO_7.out (fun _ hk => trivial)⟩, ⟨by (with_reducible repeat (first | refine blk_drewN ?_ _ | refine blk_drew ?_ | refine blk_alloc ?_ _)); exact BK198.out⟩, ⟨by repeat (first | (with_reducible first | exact HB.out | apply below_alloc | apply pw_below_drewN | apply below_drew1 | refine below_set ?_ GE198.out) | exact HB.out)⟩⟩
 }
 )
 )
 }
 {
 rw [if_neg c12] at H
 have c12b0 : decide (x22_1 < (a1.size : Int)) = false := decide_eq_false c12
 clear c12
 obtain rfl := Option.some.inj H
 go_wp2
 go_ret
 exact ⟨_, by first | rfl | (simp [errW_none, errW_some] <;> rfl) | (simp [*, errW_none, errW_some] <;> rfl), by (with_reducible repeat (first | apply Kd.R_alloc | apply Kd.R_drewN | apply Kd.R_drew)); exact HO_5.out, by repeat (first | (with_reducible first | exact HB.out | apply below_alloc | apply pw_below_drewN | apply below_drew1 | refine below_set ?_ GE198.out) | exact HB.out)⟩
 }
 )
 )
 }
 {
 rw [if_neg c4] at H
 have c4b0 : (a0_0 == 1) = false := beq_eq_false_iff_ne.mpr c4
 have c4b1 : (a0_0 != 1) = true := bne_iff_ne.mpr c4
 by_cases c38 : a0_0 = 2
 {
 rw [if_pos c38] at H
 have c38b0 : (a0_0 == 2) = true := beq_iff_eq.mpr c38
 have c38b1 : (a0_0 != 2) = false := bne_eq_false_iff_eq.mpr c38
 clear c38
 have H' := ak H
 clear H
 go_enter Tryd.func36, Tryd.ntmps36
 go_wp2_with (first | ((with_reducible refine gate_dst (N := 2) rfl ?_); refine box_event ?hg (N := 2) ?hd (cs := #[.int .i8 a0_0, .int .u8 a0_1, .int .u8 a0_2]) (t := 28) ?hr ?_; (case hd => rfl); (case hg => rfl); (case hr => first | (go_simp; done) | (go_simp; rfl)); intro gb198 hg w39 hbox hb; have n0_ := ak (below_step (zB HB.out) hb); have n1_ := ak (hbox); have n2_ := ak ((by rw [hg]; exact (below_size (zB HB.out)) : w.heap.size ≤ gb198)); have n3_ := ak ((by rw [hg]; exact (below_size (zB HB.out)) : w.heap.size ≤ gb198)); clear HB; have HB := n0_; have BK198 := n1_; have GW198 := n2_; have GE198 := n3_; clear n0_ n1_ n2_ n3_; clear hb hbox hg) | ((with_reducible refine gate_callee (f := 51) rfl ?_); refine goesL_ (some 13) rfl rfl Tryd.func51 (by kernel_rfl) rfl #[.string a1] rfl (by (try simp only [List.map_toArray, List.map_cons, List.map_nil]); first | done | rfl | (simp only [List.length_drop, List.length_take]; rfl)) ?_; (with_reducible refine (impl_turned.calls a1 t199 _ A3.out).mono ?_); rintro e w40 ⟨rfl, hb⟩; refine ⟨_, rfl, ?_⟩; have n0_ := ak (blk_below (g := gb198) (o := .cells #[.int .i8 a0_0, .int .u8 a0_1, .int .u8 a0_2] 28 (0, 0)) (zK BK198.out) hb); have n1_ := ak (below_step (zBG HB.out GE198.out) hb); clear BK198 HB; have BK198 := n0_; have HB := n1_; clear n0_ n1_; (try clear hb); (try clear hb2); (try clear hk); (try clear hi)) | ((with_reducible refine gate_dst (N := 14) rfl ?_); refine Kd.R_lit Kd.string _ 9 ?hg (N := 14) ?hd (xs := ([a1, t199] : List ByteArray)) (inner := [.string a1, .string t199]) (ok := fun _ => True) (okp := fun _ => True) ?hr ?hp (fun _ hk => hk) trivial (Below.refl _ _) (Nat.le_refl _) (by simp) ?_; (case hd => rfl); (case hg => rfl); (case hr => first | (go_simp; done) | (go_simp; rfl)); (case hp => exact (Reps.one (show Kd.M Kd.string _ _ _ a1 [.string a1] from rfl) (Reps.one (show Kd.M Kd.string _ _ _ t199 [.string t199] from rfl) (Reps.none _ _)))); intro v201 w41 ho42 hb hg_ hnew_; clear hg_ hnew_; (first | rw [← Ny200.out] at ho42 | (simp only [Int.reduceToNat] at ho42; rw [← Ny200.out] at ho42)); have n0_ := ak (Kd.R_lower ho42 (below_size (zBG HB.out GE198.out))); have n1_ := ak (blk_below (g := gb198) (o := .cells #[.int .i8 a0_0, .int .u8 a0_1, .int .u8 a0_2] 28 (0, 0)) (zK BK198.out) hb); have n2_ := ak (below_step (zBG HB.out GE198.out) hb); clear BK198 HB; have HO202 := n0_; have BK198 := n1_; have HB := n2_; clear n0_ n1_ n2_; clear hb ho42; have hcz43_0 : w41.cell? ⟨gb198, 0, none⟩ = some (.int .i8 a0_0) := (blk_cell BK198.out 0).trans rfl; have hcz43_1 : w41.cell? ⟨gb198, 1, none⟩ = some (.int .u8 a0_1) := (blk_cell BK198.out 1).trans rfl; have hcz43_2 : w41.cell? ⟨gb198, 2, none⟩ = some (.int .u8 a0_2) := (blk_cell BK198.out 2).trans rfl; have hfz43_0 := blk_frozen BK198.out 0; have hfz43_1 := blk_frozen BK198.out 1; have hfz43_2 := blk_frozen BK198.out 2))
 go_loopg [5, 65] k (fun kq v5 v65 w' => ∃ (x5_1 : List ByteArray) (x65_1 : Int), v65 = .int .i64 x65_1 ∧ Aside0 (impl_Habit_tries.l2 kq a1 x5_1 (wrap64 ((a1.size : Int) + 1)) x65_1 a0_0 a0_1 a0_2 = some r) ∧ Aside0 (kq ≤ k) ∧ Aside0 (Kd.R Kd.string 9 w' w.heap.size (fun _ => True) v5 x5_1) ∧ Aside0 (w'.heap[gb198]? = some (.cells #[.int .i8 a0_0, .int .u8 a0_1, .int .u8 a0_2] 28 (0, 0))) ∧ Aside0 (Below w.heap.size w w'))
 case atStart => exact ⟨(y200), (0), (by first | rfl | (simp; done) | (simp [*]; done)), H', ⟨Nat.le_refl _⟩, ⟨by (with_reducible repeat (first | apply Kd.R_alloc | apply Kd.R_drewN | apply Kd.R_drew)); exact HO202.out⟩, ⟨by (with_reducible repeat (first | refine blk_drewN ?_ _ | refine blk_drew ?_ | refine blk_alloc ?_ _)); exact BK198.out⟩, ⟨by repeat (first | (with_reducible first | exact HB.out | apply below_alloc | apply pw_below_drewN | apply below_drew1 | refine below_set ?_ GE198.out) | exact HB.out)⟩⟩
 case round => (
 clear H'
 try clear c1
 try clear c2
 try clear p2
 try clear q2
 try clear hx2
 try clear c3
 try clear hcv3
 try clear c4
 try clear c4b0
 try clear c4b1
 try clear c5
 try clear p6
 try clear c12
 try clear c12b0
 try clear c16
 try clear c16b0
 try clear c17
 try clear c17b0
 try clear c18
 try clear c18b0
 try clear c19
 try clear c19b0
 try clear c19b1
 try clear c20
 try clear c20b0
 try clear c20b1
 try clear p20
 try clear q20
 try clear hx20
 try clear c21
 try clear c21b0
 try clear c21b1
 try clear c22
 try clear c22b0
 try clear c22b1
 try clear c22b2
 try clear c23
 try clear c24
 try clear c24b0
 try clear p25
 try clear q25
 try clear hx25
 try clear c26
 try clear c26b0
 try clear c26b1
 try clear c27
 try clear c27b0
 try clear c27b1
 try clear c27b2
 try clear c28
 try clear hcv34
 try clear c36
 try clear c38
 try clear c38b0
 try clear c38b1
 try clear hcz31_0
 try clear hcz31_1
 try clear hcz31_2
 try clear hcz43_0
 try clear hcz43_1
 try clear hcz43_2
 try clear hcz9_0
 try clear hcz9_1
 try clear hcz9_2
 try clear hfz31_0
 try clear hfz31_1
 try clear hfz31_2
 try clear hfz43_0
 try clear hfz43_1
 try clear hfz43_2
 try clear hfz9_0
 try clear hfz9_1
 try clear hfz9_2
 try clear hx209_0
 try clear p2
 try clear p209
 try clear p25
 try clear p6
 try clear q209
 try clear q25
 obtain ⟨x5_1, x65_1, rfl, HA, HK1, HO_5, BK198, HB⟩ := hrel
 cases gk with
 | zero => exact absurd HA.out (by simp [impl_Habit_tries.l2])
 | succ k1 => (
 have H := HA.out
 clear HA
 simp only [impl_Habit_tries.l2] at H
 by_cases c44 : x65_1 < (wrap64 ((a1.size : Int) + 1))
 {
 rw [if_pos c44] at H
 have c44b0 : decide (x65_1 < (wrap64 ((a1.size : Int) + 1))) = true := decide_eq_true c44
 (try (have c44b1 : decide (x65_1 < (IntKind.i64.wrap ((a1.size : Int) + 1))) = true := by first | simpa only [i64_w, i32_w] using (show decide (x65_1 < (wrap64 ((a1.size : Int) + 1))) = true from decide_eq_true c44) | simpa only [i64_w] using (show decide (x65_1 < (wrap64 ((a1.size : Int) + 1))) = true from decide_eq_true c44)))
 clear c44
 by_cases c45 : 0 ≤ x65_1
 {
 rw [if_pos c45] at H
 have c45b0 := eq_true c45
 have c45b1 : decide (0 ≤ x65_1) = true := decide_eq_true c45
 clear c45
 by_cases c46 : x65_1 ≤ (a1.size : Int)
 {
 rw [if_pos c46] at H
 have c46b0 := eq_true c46
 have c46b1 : decide (x65_1 ≤ (a1.size : Int)) = true := decide_eq_true c46
 clear c46
 obtain ⟨y219, hy219⟩ : ∃ y_ : List Int, y_ = (([a0_1] : List Int)) := ⟨_, rfl⟩
 replace H : (if (a1.extract 0 (x65_1 : Int).toNat).size + (strOfNums y219).size ≤ 9223372036854775807 then (if (a1.extract 0 (x65_1 : Int).toNat).size + (strOfNums y219).size + (a1.extract (x65_1 : Int).toNat a1.size).size ≤ 9223372036854775807 then (if x5_1.length < 8796093022208 then (impl_Habit_tries.l2 k1 a1 (x5_1 ++ [((a1.extract 0 (x65_1 : Int).toNat) ++ (strOfNums y219)) ++ (a1.extract (x65_1 : Int).toNat a1.size)]) (wrap64 ((a1.size : Int) + 1)) (wrap64 (x65_1 + 1)) a0_0 a0_1 a0_2) else (none)) else (none)) else (none)) = some r := by first | (rw [hy219]; with_reducible exact H) | (have H2_ := (Option.bind_some _ _).symm.trans H; rw [hy219]; with_reducible exact H2_) | (have H2_ := (Option.bind_some _ _).symm.trans H; with_reducible exact H2_) | with_reducible exact H | (rw [hy219]; exact H) | exact H
 have Ny219 := ak hy219
 clear hy219
 by_cases c47 : (a1.extract 0 (x65_1 : Int).toNat).size + (strOfNums y219).size ≤ 9223372036854775807
 {
 rw [if_pos c47] at H
 have c47b0 := eq_true c47
 have c47b1 : decide ((a1.extract 0 (x65_1 : Int).toNat).size + (strOfNums y219).size ≤ 9223372036854775807) = true := decide_eq_true c47
 try have c47b2 : (9223372036854775807 < (a1.extract 0 (x65_1 : Int).toNat).size + (strOfNums y219).size) = False := eq_false (Nat.not_lt.2 c47)
 have c48b0 := eq_true (of_decide_eq_true (by first | (with_reducible assumption) | assumption) : 0 ≤ x65_1)
 have c49b0 := eq_true (of_decide_eq_true (by first | (with_reducible assumption) | assumption) : x65_1 ≤ (a1.size : Int))
 by_cases c50 : (a1.extract 0 (x65_1 : Int).toNat).size + (strOfNums y219).size + (a1.extract (x65_1 : Int).toNat a1.size).size ≤ 9223372036854775807
 {
 rw [if_pos c50] at H
 have c50b0 := eq_true c50
 have c50b1 : decide ((a1.extract 0 (x65_1 : Int).toNat).size + (strOfNums y219).size + (a1.extract (x65_1 : Int).toNat a1.size).size ≤ 9223372036854775807) = true := decide_eq_true c50
 try have c50b2 : (9223372036854775807 < (a1.extract 0 (x65_1 : Int).toNat).size + (strOfNums y219).size + (a1.extract (x65_1 : Int).toNat a1.size).size) = False := eq_false (Nat.not_lt.2 c50)
 have ez50 : (a1.extract 0 (x65_1 : Int).toNat).size = x65_1.toNat := by have := of_eq_true c49b0; rw [ByteArray.size_extract]; omega
 have c47b3 : (9223372036854775807 < x65_1.toNat + (strOfNums y219).size) = False := eq_false (by have := of_eq_true c47b0; rw [ez50] at this; omega)
 have c50b3 : (9223372036854775807 < x65_1.toNat + (strOfNums y219).size + (a1.size - x65_1.toNat)) = False := eq_false (by have := of_eq_true c50b0; rw [ez50, ByteArray.size_extract] at this; omega)
 clear ez50
 by_cases c51 : x5_1.length < 8796093022208
 {
 rw [if_pos c51] at H
 have LMc51 := ak c51
 clear c51
 obtain ⟨y222, hy222⟩ : ∃ y_ : List ByteArray, y_ = (x5_1 ++ [((a1.extract 0 (x65_1 : Int).toNat) ++ (strOfNums y219)) ++ (a1.extract (x65_1 : Int).toNat a1.size)]) := ⟨_, rfl⟩
 replace H : (impl_Habit_tries.l2 k1 a1 y222 (wrap64 ((a1.size : Int) + 1)) (wrap64 (x65_1 + 1)) a0_0 a0_1 a0_2) = some r := by first | (rw [hy222]; with_reducible exact H) | (have H2_ := (Option.bind_some _ _).symm.trans H; rw [hy222]; with_reducible exact H2_) | (have H2_ := (Option.bind_some _ _).symm.trans H; with_reducible exact H2_) | with_reducible exact H | (rw [hy222]; exact H) | exact H
 have Ny222 := ak hy222
 clear hy222
 have H' := ak H
 clear H
 try go_wp2
 have n0_ := ak (Kd.R_drew HO_5.out)
 have n1_ := ak (blk_drew BK198.out)
 have n2_ := ak (below_drew1 HB.out)
 clear HO_5 BK198 HB
 have HO_5 := n0_
 have BK198 := n1_
 have HB := n2_
 clear n0_ n1_ n2_
 refine start_ (n := 16) (S := fun w' => w'.cell? ⟨gb198, 0, none⟩ = some (.int .i8 a0_0) ∧ w'.cell? ⟨gb198, 1, none⟩ = some (.int .u8 a0_1) ∧ w'.cell? ⟨gb198, 2, none⟩ = some (.int .u8 a0_2)) (ds := []) #[false, false, false, false, false, false, false, false, false, false, false, false, false, false, false, false] (by kernel_rfl) rfl rfl ⟨(blk_cell BK198.out 0).trans rfl, (blk_cell BK198.out 1).trans rfl, (blk_cell BK198.out 2).trans rfl⟩ (fun hHeld => ?_); refine with_tabW impl_Habit_tries.tab22 impl_Habit_tries.bits22 (fun HT_ HW_ => ?_)
 generalize wr.drew = w52 at HO_5 BK198 HB hHeld ⊢
 refine pure_ (i := 0) (N := some 68) (v := ?_) (a' := ?_) #[true, false, false, false, false, false, false, false, false, false, false, false, false, false, false, false] rfl rfl (any_of HT_.out (by kernel_rfl)) (fun _ _ _ h => h) (Or.inl ⟨by rfl, ?_⟩) ?_ ?_
 rotate_left
 {
 intro w'
 go_simp
 with_reducible rfl
 }
 rotate_left
 · simp only [Act.put, zs, zz, zk, i64_w, i32_w]; rfl
 refine pure_ (i := 1) (N := some 69) (v := ?_) (a' := ?_) #[true, true, false, false, false, false, false, false, false, false, false, false, false, false, false, false] rfl rfl (any_of HT_.out (by kernel_rfl)) (fun _ _ _ h => h) (Or.inl ⟨by rfl, ?_⟩) ?_ ?_
 rotate_left
 {
 intro w'
 go_simp
 with_reducible rfl
 }
 rotate_left
 · simp only [Act.put, zs, zz, zk, i64_w, i32_w]; rfl
 refine pure_ (i := 2) (N := some 70) (v := ?_) (a' := ?_) #[true, true, true, false, false, false, false, false, false, false, false, false, false, false, false, false] rfl rfl (any_of HT_.out (by kernel_rfl)) (fun _ _ _ h => h) (Or.inl ⟨by rfl, ?_⟩) ?_ ?_
 rotate_left
 {
 intro w'
 go_simp
 with_reducible rfl
 }
 rotate_left
 · simp only [Act.put, zs, zz, zk, i64_w, i32_w]; rfl
 refine pure_ (i := 3) (N := some 71) (v := ?_) (a' := ?_) #[true, true, true, true, false, false, false, false, false, false, false, false, false, false, false, false] rfl rfl (any_of HT_.out (by kernel_rfl)) (fun _ _ _ h => h) (Or.inl ⟨by rfl, ?_⟩) ?_ ?_
 rotate_left
 {
 intro w'
 go_simp
 with_reducible rfl
 }
 rotate_left
 · simp only [Act.put, zs, zz, zk, i64_w, i32_w]; rfl
 refine pure_ (i := 4) (N := some 72) (v := ?_) (a' := ?_) #[true, true, true, true, true, false, false, false, false, false, false, false, false, false, false, false] rfl rfl (any_of HT_.out (by kernel_rfl)) (fun _ _ _ h => h) (Or.inl ⟨by rfl, ?_⟩) ?_ ?_
 rotate_left
 {
 intro w'
 go_simp
 with_reducible rfl
 }
 rotate_left
 · simp only [Act.put, zs, zz, zk, i64_w, i32_w]; rfl
 refine pure_ (i := 9) (N := some 77) (v := ?_) (a' := ?_) #[true, true, true, true, true, false, false, false, false, true, false, false, false, false, false, false] rfl rfl (any_of HT_.out (by kernel_rfl)) (fun _ _ _ h => h) (Or.inl ⟨by rfl, ?_⟩) ?_ ?_
 rotate_left
 {
 intro w'
 go_simp
 with_reducible rfl
 }
 rotate_left
 · simp only [Act.put, zs, zz, zk, i64_w, i32_w]; rfl
 refine pure_ (i := 10) (N := some 78) (v := ?_) (a' := ?_) #[true, true, true, true, true, false, false, false, false, true, true, false, false, false, false, false] rfl rfl (any_of HT_.out (by kernel_rfl)) (fun _ _ _ h => h) (Or.inl ⟨by rfl, ?_⟩) ?_ ?_
 rotate_left
 {
 intro w'
 go_simp
 with_reducible rfl
 }
 rotate_left
 · simp only [Act.put, zs, zz, zk, i64_w, i32_w]; rfl
 refine pure_ (i := 11) (N := some 79) (v := ?_) (a' := ?_) #[true, true, true, true, true, false, false, false, false, true, true, true, false, false, false, false] rfl rfl (any_of HT_.out (by kernel_rfl)) (fun _ _ _ h => h) (Or.inl ⟨by rfl, ?_⟩) ?_ ?_
 rotate_left
 {
 intro w'
 go_simp
 with_reducible rfl
 }
 rotate_left
 · simp only [Act.put, zs, zz, zk, i64_w, i32_w]; rfl
 refine take_ (i := 5) (N := some 73) (v := ?_) (a' := ?_) #[true, true, true, true, true, true, false, false, false, true, true, true, false, false, false, false] rfl rfl (take_ofW HT_.out HW_.out (by kernel_rfl)) (fun _ _ _ h => h) (Or.inl ⟨by rfl, ?_⟩) hHeld ?_ ?_
 rotate_left
 {
 rintro w' ⟨s0, s1, s2⟩
 go_simp
 with_reducible rfl
 }
 rotate_left
 · simp only [Act.put, zs, zz, zk, i64_w, i32_w]; rfl
 refine one_ (i := 6) (N := some 74) #[true, true, true, true, true, true, true, false, false, true, true, true, false, false, false, false] rfl rfl (one_of HT_.out (by kernel_rfl)) (by decide) (fun K hK => ?_)
 refine Kd.R_lit_step (Kd.int .u8) _ 5 ?hg (N := 74) ?hd (xs := ([a0_1] : List Int)) (inner := [.int .u8 a0_1]) (ok := fun _ => True) (okp := fun _ => True) ?hr ?hp (fun _ hk => hk) trivial (Below.refl _ _) (Nat.le_refl _) (by simp) ?_; (case hd => rfl); (case hg => rfl); (case hr => first | (go_simp; done) | (go_simp; rfl)); (case hp => exact (Reps.one (show Kd.M (Kd.int .u8) _ _ _ a0_1 [.int .u8 a0_1] from rfl) (Reps.none _ _)))
 intro v220 w53 ho54 hb hg_ hnew_
 clear hg_ hnew_
 (first | rw [← Ny219.out] at ho54 | (simp only [Int.reduceToNat] at ho54; rw [← Ny219.out] at ho54))
 have n0_ := ak (Kd.R_below (zR HO_5.out) hb)
 have n1_ := ak (Kd.R_lower ho54 (below_size (zBG HB.out GE198.out)))
 have n2_ := ak (blk_below (g := gb198) (o := .cells #[.int .i8 a0_0, .int .u8 a0_1, .int .u8 a0_2] 28 (0, 0)) (zK BK198.out) hb)
 have n3_ := ak (below_step (zBG HB.out GE198.out) hb)
 clear HO_5 BK198 HB
 have HO_5 := n0_
 have HO221 := n1_
 have BK198 := n2_
 have HB := n3_
 clear n0_ n1_ n2_ n3_ hb ho54
 refine hK.out _ _ ⟨(blk_cell BK198.out 0).trans rfl, (blk_cell BK198.out 1).trans rfl, (blk_cell BK198.out 2).trans rfl⟩ (fun hHeld => ?_)
 clear hK K
 refine norm_ (a' := ?_) ?_ ?_
 rotate_left
 {
 show Act.put _ (some 74) _ = _
 simp only [Act.put, zs, zz, zk, i64_w, i32_w]
 rfl
 }
 refine one_ (i := 7) (N := some 75) #[true, true, true, true, true, true, true, true, false, true, true, true, false, false, false, false] rfl rfl (one_of HT_.out (by kernel_rfl)) (by decide) (fun K hK => ?_)
 have hcv55 := own_string (P := Tryd.prog) Tryd.underlying58 Tryd.underlying5 Tryd.underlying9 (Kd.own_of_R HO221.out)
 refine value_ (w1 := ?_) (v := ?_) (by rfl) rfl ?_ ?_
 rotate_left 2
 {
 go_simp
 constructor
 · rfl
 · rfl
 }
 clear hcv55
 refine hK.out _ _ ⟨(blk_cell BK198.out 0).trans rfl, (blk_cell BK198.out 1).trans rfl, (blk_cell BK198.out 2).trans rfl⟩ (fun hHeld => ?_)
 clear hK K
 refine norm_ (a' := ?_) ?_ ?_
 rotate_left
 {
 show Act.put _ (some 75) _ = _
 simp only [Act.put, zs, zz, zk, i64_w, i32_w]
 rfl
 }
 refine pure_ (i := 8) (N := some 76) (v := ?_) (a' := ?_) #[true, true, true, true, true, true, true, true, true, true, true, true, false, false, false, false] rfl rfl (any_of HT_.out (by kernel_rfl)) (fun _ _ _ h => h) (Or.inl ⟨by rfl, ?_⟩) ?_ ?_
 rotate_left
 {
 intro w'
 go_simp
 with_reducible rfl
 }
 rotate_left
 · simp only [Act.put, zs, zz, zk, i64_w, i32_w]; rfl
 refine pure_ (i := 12) (N := some 80) (v := ?_) (a' := ?_) #[true, true, true, true, true, true, true, true, true, true, true, true, true, false, false, false] rfl rfl (any_of HT_.out (by kernel_rfl)) (fun _ _ _ h => h) (Or.inl ⟨by rfl, ?_⟩) ?_ ?_
 rotate_left
 {
 intro w'
 go_simp
 with_reducible rfl
 }
 rotate_left
 · simp only [Act.put, zs, zz, zk, i64_w, i32_w]; rfl
 refine one_ (i := 13) (N := some 81) #[true, true, true, true, true, true, true, true, true, true, true, true, true, true, false, false] rfl rfl (one_of HT_.out (by kernel_rfl)) (by decide) (fun K hK => ?_)
 refine value_ (w1 := ?_) (v := ?_) (by rfl) rfl ?_ ?_
 rotate_left 2
 {
 go_simp
 constructor
 · rfl
 · rfl
 }
 refine hK.out _ _ ⟨(blk_cell (blk_alloc BK198.out _) 0).trans rfl, (blk_cell (blk_alloc BK198.out _) 1).trans rfl, (blk_cell (blk_alloc BK198.out _) 2).trans rfl⟩ (fun hHeld => ?_)
 clear hK K
 refine norm_ (a' := ?_) ?_ ?_
 rotate_left
 {
 show Act.put _ (some 81) _ = _
 simp only [Act.put, zs, zz, zk, i64_w, i32_w]
 rfl
 }
 refine one_ (i := 14) (N := some 82) #[true, true, true, true, true, true, true, true, true, true, true, true, true, true, true, false] rfl rfl (one_of HT_.out (by kernel_rfl)) (by decide) (fun K hK => ?_)
 refine Kd.R_append_step Kd.string (w0 := w) w.heap.size (by rfl) (.tmp 68) (.tmp 81) 25 9 (.string ⟨#[]⟩) 16 rfl Tryd.underlying25 info9 rfl (by decide) (by omega) u5 x5_1 (((a1.extract 0 (x65_1 : Int).toNat) ++ (strOfNums y219)) ++ (a1.extract (x65_1 : Int).toNat a1.size)) [.string (((a1.extract 0 (x65_1 : Int).toNat) ++ (strOfNums y219)) ++ (a1.extract (x65_1 : Int).toNat a1.size))] (fun _ => True) (fun _ => False) rfl rfl ?aP (fun _ hk => hk.elim) ?aF ?aO ?aB ?aS ?aL ?_
 (case aP => exact rfl)
 (case aB => exact (zBG HB.out GE198.out))
 (case aF => exact (fun _ _ => trivial))
 (case aO => exact (zR HO_5.out))
 (case aS => exact (below_size (zBG HB.out GE198.out)))
 (case aL => have := LMc51.out; omega)
 intro v223 w56 ho hb hg hat
 rw [← Ny222.out] at ho
 have n0_ := ak (blk_grown (g := gb198) (o := .cells #[.int .i8 a0_0, .int .u8 a0_1, .int .u8 a0_2] 28 (0, 0)) (zK BK198.out) hg (Kd.R_ne HO_5.out BK198.out (by decide)))
 have n1_ := ak (Kd.R_over' (zR HO221.out) (Kd.R_typed (zR HO_5.out)) (by decide) hg)
 have n2_ := ak (hb)
 have n3_ := ak (ho)
 clear BK198 HO221 HB HO_5
 have BK198 := n0_
 have HO221 := n1_
 have HB := n2_
 have HO224 := n3_
 clear n0_ n1_ n2_ n3_ ho hb hg hat
 refine hK.out _ _ ⟨(blk_cell BK198.out 0).trans rfl, (blk_cell BK198.out 1).trans rfl, (blk_cell BK198.out 2).trans rfl⟩ (fun hHeld => ?_)
 clear hK K
 refine norm_ (a' := ?_) ?_ ?_
 rotate_left
 {
 show Act.put _ (some 82) _ = _
 simp only [Act.put, zs, zz, zk, i64_w, i32_w]
 rfl
 }
 refine pure_ (i := 15) (N := some 5) (v := ?_) (a' := ?_) #[true, true, true, true, true, true, true, true, true, true, true, true, true, true, true, true] rfl rfl (any_of HT_.out (by kernel_rfl)) (fun _ _ _ h => h) (Or.inl ⟨by rfl, ?_⟩) ?_ ?_
 rotate_left
 {
 intro w'
 go_simp
 with_reducible rfl
 }
 rotate_left
 · simp only [Act.put, zs, zz, zk, i64_w, i32_w]; rfl
 refine done_ (done_of HT_.out (by kernel_rfl)) ?_
 try go_wp2
 go_roundg k1
 case measure => have := HK1.out; omega
 case rel => exact ⟨(y222), (wrap64 (x65_1 + 1)), (by first | rfl | (simp; done) | (simp [*]; done)), H', ⟨by have := HK1.out; omega⟩, ⟨by (with_reducible repeat (first | apply Kd.R_alloc | apply Kd.R_drewN | apply Kd.R_drew)); exact HO224.out⟩, ⟨by (with_reducible repeat (first | refine blk_drewN ?_ _ | refine blk_drew ?_ | refine blk_alloc ?_ _)); exact BK198.out⟩, ⟨by repeat (first | (with_reducible first | exact HB.out | apply below_alloc | apply pw_below_drewN | apply below_drew1 | refine below_set ?_ GE198.out) | exact HB.out)⟩⟩
 }
 · rw [if_neg c51] at H; exact absurd H (by simp)
 }
 · rw [if_neg c50] at H; exact absurd H (by simp)
 }
 · rw [if_neg c47] at H; exact absurd H (by simp)
 }
 · rw [if_neg c46] at H; exact absurd H (by simp)
 }
 · rw [if_neg c45] at H; exact absurd H (by simp)
 }
 {
 rw [if_neg c44] at H
 have c44b0 : decide (x65_1 < (wrap64 ((a1.size : Int) + 1))) = false := decide_eq_false c44
 (try (have c44b1 : decide (x65_1 < (IntKind.i64.wrap ((a1.size : Int) + 1))) = false := by first | simpa only [i64_w, i32_w] using (show decide (x65_1 < (wrap64 ((a1.size : Int) + 1))) = false from decide_eq_false c44) | simpa only [i64_w] using (show decide (x65_1 < (wrap64 ((a1.size : Int) + 1))) = false from decide_eq_false c44)))
 clear c44
 obtain rfl := Option.some.inj H
 go_wp2
 go_ret
 exact ⟨_, by first | rfl | (simp [errW_none, errW_some] <;> rfl) | (simp [*, errW_none, errW_some] <;> rfl), by (with_reducible repeat (first | apply Kd.R_alloc | apply Kd.R_drewN | apply Kd.R_drew)); exact HO_5.out, by repeat (first | (with_reducible first | exact HB.out | apply below_alloc | apply pw_below_drewN | apply below_drew1 | refine below_set ?_ GE198.out) | exact HB.out)⟩
 }
 )
 )
 }
 {
 rw [if_neg c38] at H
 have c38b0 : (a0_0 == 2) = false := beq_eq_false_iff_ne.mpr c38
 have c38b1 : (a0_0 != 2) = true := bne_iff_ne.mpr c38
 by_cases c57 : a0_0 = 3
 {
 rw [if_pos c57] at H
 have c57b0 : (a0_0 == 3) = true := beq_iff_eq.mpr c57
 have c57b1 : (a0_0 != 3) = false := bne_eq_false_iff_eq.mpr c57
 clear c57
 obtain ⟨ji58, hji58⟩ : ∃ j_ : Int, (wrap64 ((a1.size : Int) - 1)) = j_ := ⟨_, rfl⟩
 replace H : (if 0 ≤ (ji58) then (if (ji58) ≤ (a1.size : Int) then (if y200.length < 8796093022208 then (some (y200 ++ [a1.extract 0 ((ji58) : Int).toNat])) else (none)) else (none)) else (none)) = some r := by first | (rw [hji58] at H; exact H) | (simp only [hji58] at H ⊢; exact H)
 (try rw [hji58] at A3)
 have hji58w : (IntKind.i64.wrap ((a1.size : Int) - 1)) = ji58 := (i64_w _).trans hji58
 by_cases c59 : 0 ≤ (ji58)
 {
 rw [if_pos c59] at H
 have c59b0 := eq_true c59
 have c59b1 : decide (0 ≤ (ji58)) = true := decide_eq_true c59
 clear c59
 by_cases c60 : (ji58) ≤ (a1.size : Int)
 {
 rw [if_pos c60] at H
 have c60b0 := eq_true c60
 have c60b1 : decide ((ji58) ≤ (a1.size : Int)) = true := decide_eq_true c60
 clear c60
 by_cases c61 : y200.length < 8796093022208
 {
 rw [if_pos c61] at H
 have LMc61 := ak c61
 clear c61
 obtain ⟨y225, hy225⟩ : ∃ y_ : List ByteArray, y_ = (y200 ++ [a1.extract 0 ((ji58) : Int).toNat]) := ⟨_, rfl⟩
 replace H : (some y225) = some r := by first | (rw [hy225]; with_reducible exact H) | (have H2_ := (Option.bind_some _ _).symm.trans H; rw [hy225]; with_reducible exact H2_) | (have H2_ := (Option.bind_some _ _).symm.trans H; with_reducible exact H2_) | with_reducible exact H | (rw [hy225]; exact H) | exact H
 have Ny225 := ak hy225
 clear hy225
 obtain rfl := Option.some.inj H
 go_enter Tryd.func36, Tryd.ntmps36
 go_wp2_with (first | ((with_reducible refine gate_dst (N := 2) rfl ?_); refine box_event ?hg (N := 2) ?hd (cs := #[.int .i8 a0_0, .int .u8 a0_1, .int .u8 a0_2]) (t := 28) ?hr ?_; (case hd => rfl); (case hg => rfl); (case hr => first | (go_simp; done) | (go_simp; rfl)); intro gb198 hg w62 hbox hb; have n0_ := ak (below_step (zB HB.out) hb); have n1_ := ak (hbox); have n2_ := ak ((by rw [hg]; exact (below_size (zB HB.out)) : w.heap.size ≤ gb198)); have n3_ := ak ((by rw [hg]; exact (below_size (zB HB.out)) : w.heap.size ≤ gb198)); clear HB; have HB := n0_; have BK198 := n1_; have GW198 := n2_; have GE198 := n3_; clear n0_ n1_ n2_ n3_; clear hb hbox hg) | ((with_reducible refine gate_callee (f := 51) rfl ?_); refine goesL_ (some 13) rfl rfl Tryd.func51 (by kernel_rfl) rfl #[.string a1] rfl (by (try simp only [List.map_toArray, List.map_cons, List.map_nil]); first | done | rfl | (simp only [List.length_drop, List.length_take]; rfl)) ?_; (with_reducible refine (impl_turned.calls a1 t199 _ A3.out).mono ?_); rintro e w63 ⟨rfl, hb⟩; refine ⟨_, rfl, ?_⟩; have n0_ := ak (blk_below (g := gb198) (o := .cells #[.int .i8 a0_0, .int .u8 a0_1, .int .u8 a0_2] 28 (0, 0)) (zK BK198.out) hb); have n1_ := ak (below_step (zBG HB.out GE198.out) hb); clear BK198 HB; have BK198 := n0_; have HB := n1_; clear n0_ n1_; (try clear hb); (try clear hb2); (try clear hk); (try clear hi)) | ((with_reducible refine gate_dst (N := 14) rfl ?_); refine Kd.R_lit Kd.string _ 9 ?hg (N := 14) ?hd (xs := ([a1, t199] : List ByteArray)) (inner := [.string a1, .string t199]) (ok := fun _ => True) (okp := fun _ => True) ?hr ?hp (fun _ hk => hk) trivial (Below.refl _ _) (Nat.le_refl _) (by simp) ?_; (case hd => rfl); (case hg => rfl); (case hr => first | (go_simp; done) | (go_simp; rfl)); (case hp => exact (Reps.one (show Kd.M Kd.string _ _ _ a1 [.string a1] from rfl) (Reps.one (show Kd.M Kd.string _ _ _ t199 [.string t199] from rfl) (Reps.none _ _)))); intro v201 w64 ho65 hb hg_ hnew_; clear hg_ hnew_; (first | rw [← Ny200.out] at ho65 | (simp only [Int.reduceToNat] at ho65; rw [← Ny200.out] at ho65)); have n0_ := ak (Kd.R_lower ho65 (below_size (zBG HB.out GE198.out))); have n1_ := ak (blk_below (g := gb198) (o := .cells #[.int .i8 a0_0, .int .u8 a0_1, .int .u8 a0_2] 28 (0, 0)) (zK BK198.out) hb); have n2_ := ak (below_step (zBG HB.out GE198.out) hb); clear BK198 HB; have HO202 := n0_; have BK198 := n1_; have HB := n2_; clear n0_ n1_ n2_; clear hb ho65; have hcz66_0 : w64.cell? ⟨gb198, 0, none⟩ = some (.int .i8 a0_0) := (blk_cell BK198.out 0).trans rfl; have hcz66_1 : w64.cell? ⟨gb198, 1, none⟩ = some (.int .u8 a0_1) := (blk_cell BK198.out 1).trans rfl; have hcz66_2 : w64.cell? ⟨gb198, 2, none⟩ = some (.int .u8 a0_2) := (blk_cell BK198.out 2).trans rfl; have hfz66_0 := blk_frozen BK198.out 0; have hfz66_1 := blk_frozen BK198.out 1; have hfz66_2 := blk_frozen BK198.out 2) | ((with_reducible refine gate_builtin (b := .append) (xs := #[.tmp 86, .tmp 92]) rfl ?_); at_builtin; refine Kd.R_append Kd.string (w0 := w) w.heap.size rfl (.tmp 86) (.tmp 92) 25 9 (.string ⟨#[]⟩) 16 rfl Tryd.underlying25 info9 rfl (by decide) (by omega) v201 y200 (a1.extract 0 ((ji58) : Int).toNat) [.string (a1.extract 0 ((ji58) : Int).toNat)] (fun _ => True) (fun _ => False) rfl rfl ?aP (fun _ hk => hk.elim) ?aF ?aO ?aB ?aS ?aL ?_; (case aP => exact rfl); (case aB => exact (zBG HB.out GE198.out)); (case aF => exact (fun _ _ => trivial)); (case aO => exact (zR HO202.out)); (case aS => exact (below_size (zBG HB.out GE198.out))); (case aL => have := LMc61.out; omega); intro v226 w67 ho hb hg hat; rw [← Ny225.out] at ho; have n0_ := ak (blk_grown (g := gb198) (o := .cells #[.int .i8 a0_0, .int .u8 a0_1, .int .u8 a0_2] 28 (0, 0)) (zK BK198.out) hg (Kd.R_ne HO202.out BK198.out (by decide))); have n1_ := ak (hb); have n2_ := ak (ho); clear BK198 HB HO202; have BK198 := n0_; have HB := n1_; have HO227 := n2_; clear n0_ n1_ n2_; clear ho hb hg hat))
 go_ret
 exact ⟨_, by first | rfl | (simp [errW_none, errW_some] <;> rfl) | (simp only [← hji58]; first | rfl | (simp [errW_none, errW_some] <;> rfl)) | (simp [*, errW_none, errW_some] <;> rfl), by (with_reducible repeat (first | apply Kd.R_alloc | apply Kd.R_drewN | apply Kd.R_drew)); exact HO227.out, by repeat (first | (with_reducible first | exact HB.out | apply below_alloc | apply pw_below_drewN | apply below_drew1 | refine below_set ?_ GE198.out) | exact HB.out)⟩
 }
 · rw [if_neg c61] at H; exact absurd H (by simp)
 }
 · rw [if_neg c60] at H; exact absurd H (by simp)
 }
 · rw [if_neg c59] at H; exact absurd H (by simp)
 }
 {
 rw [if_neg c57] at H
 have c57b0 : (a0_0 == 3) = false := beq_eq_false_iff_ne.mpr c57
 have c57b1 : (a0_0 != 3) = true := bne_iff_ne.mpr c57
 obtain rfl := Option.some.inj H
 go_enter Tryd.func36, Tryd.ntmps36
 go_wp2_with (first | ((with_reducible refine gate_dst (N := 2) rfl ?_); refine box_event ?hg (N := 2) ?hd (cs := #[.int .i8 a0_0, .int .u8 a0_1, .int .u8 a0_2]) (t := 28) ?hr ?_; (case hd => rfl); (case hg => rfl); (case hr => first | (go_simp; done) | (go_simp; rfl)); intro gb198 hg w68 hbox hb; have n0_ := ak (below_step (zB HB.out) hb); have n1_ := ak (hbox); have n2_ := ak ((by rw [hg]; exact (below_size (zB HB.out)) : w.heap.size ≤ gb198)); have n3_ := ak ((by rw [hg]; exact (below_size (zB HB.out)) : w.heap.size ≤ gb198)); clear HB; have HB := n0_; have BK198 := n1_; have GW198 := n2_; have GE198 := n3_; clear n0_ n1_ n2_ n3_; clear hb hbox hg) | ((with_reducible refine gate_callee (f := 51) rfl ?_); refine goesL_ (some 13) rfl rfl Tryd.func51 (by kernel_rfl) rfl #[.string a1] rfl (by (try simp only [List.map_toArray, List.map_cons, List.map_nil]); first | done | rfl | (simp only [List.length_drop, List.length_take]; rfl)) ?_; (with_reducible refine (impl_turned.calls a1 t199 _ A3.out).mono ?_); rintro e w69 ⟨rfl, hb⟩; refine ⟨_, rfl, ?_⟩; have n0_ := ak (blk_below (g := gb198) (o := .cells #[.int .i8 a0_0, .int .u8 a0_1, .int .u8 a0_2] 28 (0, 0)) (zK BK198.out) hb); have n1_ := ak (below_step (zBG HB.out GE198.out) hb); clear BK198 HB; have BK198 := n0_; have HB := n1_; clear n0_ n1_; (try clear hb); (try clear hb2); (try clear hk); (try clear hi)) | ((with_reducible refine gate_dst (N := 14) rfl ?_); refine Kd.R_lit Kd.string _ 9 ?hg (N := 14) ?hd (xs := ([a1, t199] : List ByteArray)) (inner := [.string a1, .string t199]) (ok := fun _ => True) (okp := fun _ => True) ?hr ?hp (fun _ hk => hk) trivial (Below.refl _ _) (Nat.le_refl _) (by simp) ?_; (case hd => rfl); (case hg => rfl); (case hr => first | (go_simp; done) | (go_simp; rfl)); (case hp => exact (Reps.one (show Kd.M Kd.string _ _ _ a1 [.string a1] from rfl) (Reps.one (show Kd.M Kd.string _ _ _ t199 [.string t199] from rfl) (Reps.none _ _)))); intro v201 w70 ho71 hb hg_ hnew_; clear hg_ hnew_; (first | rw [← Ny200.out] at ho71 | (simp only [Int.reduceToNat] at ho71; rw [← Ny200.out] at ho71)); have n0_ := ak (Kd.R_lower ho71 (below_size (zBG HB.out GE198.out))); have n1_ := ak (blk_below (g := gb198) (o := .cells #[.int .i8 a0_0, .int .u8 a0_1, .int .u8 a0_2] 28 (0, 0)) (zK BK198.out) hb); have n2_ := ak (below_step (zBG HB.out GE198.out) hb); clear BK198 HB; have HO202 := n0_; have BK198 := n1_; have HB := n2_; clear n0_ n1_ n2_; clear hb ho71; have hcz72_0 : w70.cell? ⟨gb198, 0, none⟩ = some (.int .i8 a0_0) := (blk_cell BK198.out 0).trans rfl; have hcz72_1 : w70.cell? ⟨gb198, 1, none⟩ = some (.int .u8 a0_1) := (blk_cell BK198.out 1).trans rfl; have hcz72_2 : w70.cell? ⟨gb198, 2, none⟩ = some (.int .u8 a0_2) := (blk_cell BK198.out 2).trans rfl; have hfz72_0 := blk_frozen BK198.out 0; have hfz72_1 := blk_frozen BK198.out 1; have hfz72_2 := blk_frozen BK198.out 2))
 go_ret
 exact ⟨_, by first | rfl | (simp [errW_none, errW_some] <;> rfl) | (simp [*, errW_none, errW_some] <;> rfl), by (with_reducible repeat (first | apply Kd.R_alloc | apply Kd.R_drewN | apply Kd.R_drew)); exact HO202.out, by repeat (first | (with_reducible first | exact HB.out | apply below_alloc | apply pw_below_drewN | apply below_drew1 | refine below_set ?_ GE198.out) | exact HB.out)⟩
 }
 }
 }
/-! ### strings_ReplaceAll: function 52 -/
def strings_ReplaceAll.f (a0 a1 a2 : ByteArray) (a977_0 : Int) : Option ByteArray := if a0.size ≤ 1048576 then (if a1.size = 1 then (if a2.size ≤ 1 then some ⟨(Go.Lib.replaceAll a0.data.toList a1.data.toList a2.data.toList).toArray⟩ else none) else none) else none
theorem strings_ReplaceAll.calls (a0 : ByteArray) (a1 : ByteArray) (a2 : ByteArray) (a977_0 : Int) (r : ByteArray) (w : World) (hx977 : w.heap[0]? = some (.cells #[.int .i64 a977_0] 3 (0, 0))) (h : strings_ReplaceAll.f a0 a1 a2 a977_0 = some r) :
    Calls Tryd.prog 52 #[.string a0, .string a1, .string a2] w fun e w' => e = .returned (.string r) ∧ Below w.heap.size w w' := by
 unfold strings_ReplaceAll.f at h
 by_cases c : a0.size ≤ 1048576
 {
 rw [if_pos c] at h
 by_cases c1 : a1.size = 1
 {
 rw [if_pos c1] at h
 by_cases c2 : a2.size ≤ 1
 {
 rw [if_pos c2] at h
 obtain rfl := Option.some.inj h
 have hm : w.cell? ⟨0, 0, none⟩ = some (.int .i64 a977_0) := by simp [World.cell?, hx977]
 have hc := Go.Lib.countB_mul_le a1 (by omega) a0.size a0 (Nat.le_refl _)
 rw [c1] at hc
 have hl : Go.Lib.countB a0 a1 * a2.size ≤ Go.Lib.countB a0 a1 * 1 := Nat.mul_le_mul_left _ c2
 exact Tryd.strings_ReplaceAll a0 a1 a2 a977_0 w (by omega) hm (by omega) (by omega)
 }
 · rw [if_neg c2] at h; exact absurd h (by simp)
 }
 · rw [if_neg c1] at h; exact absurd h (by simp)
 }
 · rw [if_neg c] at h; exact absurd h (by simp)
/-! ### strings_IndexByte: function 53 -/
def strings_IndexByte.f (a0 : ByteArray) (a1 : Int) : Option Int := some (Go.Lib.indexByte a0.data.toList a1.toNat.toUInt8)
theorem strings_IndexByte.calls (a0 : ByteArray) (a1 : Int) (r : Int) (w : World) (h : strings_IndexByte.f a0 a1 = some r) :
    Calls Tryd.prog 53 #[.string a0, .int .u8 a1] w fun e w' => e = .returned (.int .i64 r) ∧ ∃ nd, w' = w.drewN nd := by
 obtain rfl := Option.some.inj h
 exact (Tryd.strings_IndexByte a0 a1 w).mono fun e w' ⟨h1, h2⟩ => ⟨h1, 0, by rw [h2]; rfl⟩
end Go.Proofs.YtgnnpgallnafcaaDoor.P
