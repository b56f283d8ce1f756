-- Printed by wip/print (my turned copy of the kit's print) out of the translation; Lean checks it.
import Derived.Test.YtobickehjnogjaaGreatDoorP0
import Derived.Test.YtobickehjnogjaaGreatDoorP4
namespace Go.Proofs.YtobickehjnogjaaGreatDoor.P
open Go.RowKit Go.Proofs.YtobickehjnogjaaGreatDoorW.PrintWords Go.Proofs.YtobickehjnogjaaGreatDoorW.PrintLast Go.Proofs.YtobickehjnogjaaGreatDoorW.PrintMore
attribute [local go_sem] max2_int min2_int max_two min_two max_three min_three max_four min_four   -- for this text's walks alone
set_option linter.unusedVariables false
set_option linter.unusedSimpArgs false

/-! ### impl_Habit_tries: function 67 -/
mutual
def impl_Habit_tries.l0 : Nat → ByteArray → List ByteArray → Int → Int → Int → Int → Int → Option (List ByteArray)
  | 0, _, _, _, _, _, _, _ => none
  | k + 1, x1, x5, x21, x22, x323000, x323001, x323002 => if x22 < x21 then (impl_Habit_tries.l1 k x1 x22 (([] : List ByteArray)) x21 x22 x5 (x5.length : Int) 0 x323000 x323001 x323002) else (some x5)
def impl_Habit_tries.l1 : Nat → ByteArray → Int → List ByteArray → Int → Int → List ByteArray → Int → Int → Int → Int → Int → Option (List ByteArray)
  | 0, _, _, _, _, _, _, _, _, _, _, _ => none
  | k + 1, x1, x6, x7, x21, x22, x26, x27, x28, x323000, x323001, x323002 => if x28 < x27 then (if 0 ≤ x28 then (if x28 < (x26.length : Int) then (if 0 ≤ x6 then (if x6 ≤ (wrap64 (x6 + 1)) then (if (wrap64 (x6 + 1)) ≤ (x1.size : Int) then (if (rdOf ByteArray.empty x26 x28).size + (x1.extract (x6 : Int).toNat ((wrap64 (x6 + 1)) : Int).toNat).size ≤ 9223372036854775807 then (if x7.length < 8796093022208 then ((some (x7 ++ [(rdOf ByteArray.empty x26 x28) ++ (x1.extract (x6 : Int).toNat ((wrap64 (x6 + 1)) : Int).toNat)] : List ByteArray)).bind fun y334 => (if x6 < (x1.size : Int) then (if (bt x1 x6) = x323002 then ((some (([x323001] : List Int) : List Int)).bind fun y337 => (if (rdOf ByteArray.empty x26 x28).size + (strOfNums y337).size ≤ 9223372036854775807 then (if y334.length < 8796093022208 then (impl_Habit_tries.l1 k x1 x6 (y334 ++ [(rdOf ByteArray.empty x26 x28) ++ (strOfNums y337)]) x21 x22 x26 x27 (wrap64 (x28 + 1)) x323000 x323001 x323002) else (none)) else (none))) else (impl_Habit_tries.l1 k x1 x6 y334 x21 x22 x26 x27 (wrap64 (x28 + 1)) x323000 x323001 x323002)) else (none))) else (none)) else (none)) else (none)) else (none)) else (none)) else (none)) else (none)) else (impl_Habit_tries.l0 k x1 x7 x21 (wrap64 (x22 + 1)) x323000 x323001 x323002)
def impl_Habit_tries.l2 : Nat → ByteArray → List ByteArray → Int → Int → Int → Int → Int → Option (List ByteArray)
  | 0, _, _, _, _, _, _, _ => none
  | k + 1, x1, x5, x64, x65, x323000, x323001, x323002 => if x65 < x64 then (if 0 ≤ x65 then (if x65 ≤ (x1.size : Int) then ((some (([x323001] : List Int) : List Int)).bind fun y343 => (if (x1.extract 0 (x65 : Int).toNat).size + (strOfNums y343).size ≤ 9223372036854775807 then (if (x1.extract 0 (x65 : Int).toNat).size + (strOfNums y343).size + (x1.extract (x65 : Int).toNat x1.size).size ≤ 9223372036854775807 then (if x5.length < 8796093022208 then (impl_Habit_tries.l2 k x1 (x5 ++ [((x1.extract 0 (x65 : Int).toNat) ++ (strOfNums y343)) ++ (x1.extract (x65 : Int).toNat x1.size)]) x64 (wrap64 (x65 + 1)) x323000 x323001 x323002) else (none)) else (none)) else (none))) else (none)) else (none)) else (some x5)
end
def impl_Habit_tries.f (k : Nat) (a0_0 : Int) (a0_1 : Int) (a0_2 : Int) (a1 : ByteArray) : Option (List ByteArray) := (impl_turned.f a1).bind fun t323 => ((some (([a1, t323] : List ByteArray) : List ByteArray)).bind fun y324 => (if a0_0 = 1 then (impl_Habit_tries.l0 k a1 (([(⟨#[]⟩ : ByteArray)] : List ByteArray)) (a1.size : Int) 0 a0_0 a0_1 a0_2) else (if a0_0 = 2 then (impl_Habit_tries.l2 k a1 y324 (wrap64 ((a1.size : Int) + 1)) 0 a0_0 a0_1 a0_2) else (if a0_0 = 3 then (if 0 ≤ (wrap64 ((a1.size : Int) - 1)) then (if (wrap64 ((a1.size : Int) - 1)) ≤ (a1.size : Int) then (if y324.length < 8796093022208 then (some (y324 ++ [a1.extract 0 ((wrap64 ((a1.size : Int) - 1)) : Int).toNat])) else (none)) else (none)) else (none)) else (some y324)))))
def impl_Habit_tries.T22 : Bool × List (List Nat × List Nat) := (true, [([], []), ([], []), ([], []), ([1, 2], [1, 2]), ([], []), ([4], [4]), ([5], [5]), ([6], [6]), ([3, 7], [3, 7]), ([], []), ([], []), ([9, 10], [9, 10]), ([8, 11], [8, 11]), ([12], [12]), ([0, 13], [0, 13]), ([14, 14, 0, 1, 2, 3, 4, 5, 6, 7, 8, 9, 10, 11, 12, 13, 14], [0, 14])])
def impl_Habit_tries.B22 : List Nat := [0, 0, 0, 6, 0, 16, 48, 112, 254, 0, 0, 1536, 4094, 8190, 16383, 32767]
theorem impl_Habit_tries.tab22 : rtab .any (opsOf Tryz.f67 22) = impl_Habit_tries.T22 := by kernel_rfl
theorem impl_Habit_tries.bits22 : waitsOk impl_Habit_tries.T22.2 impl_Habit_tries.B22 = true := by kernel_rfl
set_option maxHeartbeats 8000000 in
set_option maxRecDepth 100000 in
theorem impl_Habit_tries.calls (k : Nat) (a0_0 : Int) (a0_1 : Int) (a0_2 : Int) (a1 : ByteArray) (r : List ByteArray) (w : World) (h : impl_Habit_tries.f k a0_0 a0_1 a0_2 a1 = some r) :
    Calls Tryz.prog 67 #[.agg #[.int .i8 a0_0, .int .u8 a0_1, .int .u8 a0_2], .string a1] w fun e w' => ∃ v0_ : Value, e = .returned (v0_) ∧ Kd.R Kd.string 9 w' w.heap.size (fun _ => True) v0_ r ∧ Below w.heap.size w w' := by
 have hu40 := Tryz.underlying40
 have HB := ak (Below.refl w.heap.size w)
 have H := h
 unfold impl_Habit_tries.f at H
 clear h
 replace H := Option.bind_eq_some_iff.mp H
 obtain ⟨t323, A30, H⟩ := H
 have A3 := ak A30
 clear A30
 obtain ⟨y324, hy324⟩ : ∃ y_ : List ByteArray, y_ = (([a1, t323] : List ByteArray)) := ⟨_, rfl⟩
 replace H : (if a0_0 = 1 then (impl_Habit_tries.l0 k a1 (([(⟨#[]⟩ : ByteArray)] : List ByteArray)) (a1.size : Int) 0 a0_0 a0_1 a0_2) else (if a0_0 = 2 then (impl_Habit_tries.l2 k a1 y324 (wrap64 ((a1.size : Int) + 1)) 0 a0_0 a0_1 a0_2) else (if a0_0 = 3 then (if 0 ≤ (wrap64 ((a1.size : Int) - 1)) then (if (wrap64 ((a1.size : Int) - 1)) ≤ (a1.size : Int) then (if y324.length < 8796093022208 then (some (y324 ++ [a1.extract 0 ((wrap64 ((a1.size : Int) - 1)) : Int).toNat])) else (none)) else (none)) else (none)) else (some y324)))) = some r := by first | (rw [hy324]; with_reducible exact H) | (have H2_ := (Option.bind_some _ _).symm.trans H; rw [hy324]; with_reducible exact H2_) | (have H2_ := (Option.bind_some _ _).symm.trans H; with_reducible exact H2_) | with_reducible exact H | (rw [hy324]; exact H) | exact H
 have Ny324 := ak hy324
 clear hy324
 by_cases c4 : a0_0 = 1
 {
 rw [if_pos c4] at H
 have c4b0 : (a0_0 == 1) = true := beq_iff_eq.mpr c4
 have c4b1 : (a0_0 != 1) = false := bne_eq_false_iff_eq.mpr c4
 clear c4
 obtain ⟨y327, hy327⟩ : ∃ y_ : List ByteArray, y_ = (([(⟨#[]⟩ : ByteArray)] : List ByteArray)) := ⟨_, rfl⟩
 replace H : (impl_Habit_tries.l0 k a1 y327 (a1.size : Int) 0 a0_0 a0_1 a0_2) = some r := by first | (rw [hy327]; with_reducible exact H) | (have H2_ := (Option.bind_some _ _).symm.trans H; rw [hy327]; with_reducible exact H2_) | (have H2_ := (Option.bind_some _ _).symm.trans H; with_reducible exact H2_) | with_reducible exact H | (rw [hy327]; exact H) | exact H
 have Ny327 := ak hy327
 clear hy327
 have H' := ak H
 clear H
 go_enter Tryz.func67, Tryz.ntmps67
 go_wp2_with (first | ((with_reducible refine gate_dst (N := 2) rfl ?_); refine box_event ?hg (N := 2) ?hd (cs := #[.int .i8 a0_0, .int .u8 a0_1, .int .u8 a0_2]) (t := 40) ?hr ?_; (case hd => rfl); (case hg => rfl); (case hr => first | (go_simp; done) | (go_simp; rfl)); intro gb322 hg w5 hbox hb; have BK322 := ak (hbox); have GW322 := gS HB hg; have GE322 := gS HB hg; replace HB := kB HB hb; clear hb hbox hg) | ((with_reducible refine gate_callee (f := 65) rfl ?_); refine goesL_ (some 13) rfl rfl Tryz.func65 (by kernel_rfl) rfl #[.string a1] rfl gl_ ?_; (with_reducible refine (impl_turned.calls a1 t323 _ A3.out).mono ?_); rintro e w6 ⟨rfl, hb⟩; refine ⟨_, rfl, ?_⟩; replace BK322 := kK BK322 hb; replace HB := kB1 HB GE322 hb; (try clear hb)) | ((with_reducible refine gate_dst (N := 14) rfl ?_); refine Kd.R_lit Kd.string _ 9 ?hg (N := 14) ?hd (xs := ([a1, t323] : List ByteArray)) (inner := [.string a1, .string t323]) (ok := fun _ => True) (okp := fun _ => True) ?hr ?hp (fun _ hk => hk) trivial (Below.refl _ _) (Nat.le_refl _) (by simp) ?_; (case hd => rfl); (case hg => rfl); (case hr => first | (go_simp; done) | (go_simp; rfl)); (case hp => exact (Reps.one (show Kd.M Kd.string _ _ _ a1 [.string a1] from rfl) (Reps.one (show Kd.M Kd.string _ _ _ t323 [.string t323] from rfl) (Reps.none _ _)))); intro v325 w7 ho8 hb hg_ hnew_; clear hg_ hnew_; (first | rw [← Ny324.out] at ho8 | (simp only [Int.reduceToNat] at ho8; rw [← Ny324.out] at ho8)); have HO326 := ak (Kd.R_lower ho8 (below_size (zBG HB.out GE322.out))); replace BK322 := kK BK322 hb; replace HB := kB1 HB GE322 hb; clear hb ho8; obtain ⟨hcz9_0, hcz9_1, hcz9_2, hfz9_0, hfz9_1, hfz9_2⟩ := cz3 w7 BK322) | ((with_reducible refine gate_dst (N := 19) rfl ?_); refine Kd.R_lit Kd.string _ 9 ?hg (N := 19) ?hd (xs := ([(⟨#[]⟩ : ByteArray)] : List ByteArray)) (inner := [.string (⟨#[]⟩ : ByteArray)]) (ok := fun _ => True) (okp := fun _ => True) ?hr ?hp (fun _ hk => hk) trivial (Below.refl _ _) (Nat.le_refl _) (by simp) ?_; (case hd => rfl); (case hg => rfl); (case hr => first | (go_simp; done) | (go_simp; rfl)); (case hp => exact (Reps.one (show Kd.M Kd.string _ _ _ (⟨#[]⟩ : ByteArray) [.string (⟨#[]⟩ : ByteArray)] from rfl) (Reps.none _ _))); intro v328 w10 ho11 hb hg_ hnew_; clear hg_ hnew_; (first | rw [← Ny327.out] at ho11 | (simp only [Int.reduceToNat] at ho11; rw [← Ny327.out] at ho11)); have HO329 := ak (Kd.R_lower (Kd.R_new' ho11 (Kd.R_lt (zR HO326.out))) (below_size (zBG HB.out GE322.out))); replace HO326 := kE HO326 ho11 hb; replace BK322 := kK BK322 hb; replace HB := kB1 HB GE322 hb; clear hb ho11))
 go_loopg [5, 22] k (fun kq v5 v22 w' => ∃ (x5_1 : List ByteArray) (x22_1 : Int), v22 = .int .i64 x22_1 ∧ Aside0 (impl_Habit_tries.l0 kq a1 x5_1 (a1.size : Int) x22_1 a0_0 a0_1 a0_2 = some r) ∧ Aside0 (kq ≤ k) ∧ Aside0 (Kd.R Kd.string 9 w' w.heap.size (fun _ => True) v5 x5_1) ∧ Aside0 (w'.heap[gb322]? = some (.cells #[.int .i8 a0_0, .int .u8 a0_1, .int .u8 a0_2] 40 (0, 0))) ∧ Aside0 (Below w.heap.size w w'))
 case atStart => exact ⟨(y327), (0), (by first | rfl | (simp; done) | (simp [*]; done)), H', ⟨Nat.le_refl _⟩, ⟨by (with_reducible repeat (first | apply Kd.R_alloc | apply Kd.R_drewN | apply Kd.R_drew)); exact Kd.R_mono HO329.out (fun _ hk => trivial)⟩, ⟨(zK BK322.out)⟩, ⟨zBG HB.out GE322.out⟩⟩
 case round => (
 clear H'
 try clear c4
 try clear c4b0
 try clear c4b1
 try clear hcz9_0
 try clear hcz9_1
 try clear hcz9_2
 try clear hfz9_0
 try clear hfz9_1
 try clear hfz9_2
 obtain ⟨x5_1, x22_1, rfl, HA, HK1, HO_5, BK322, HB⟩ := hrel
 cases gk with
 | zero => exact absurd HA.out (by simp [impl_Habit_tries.l0])
 | succ k1 => (
 have H := HA.out
 clear HA
 simp only [impl_Habit_tries.l0] at H
 by_cases c12 : x22_1 < (a1.size : Int)
 {
 rw [if_pos c12] at H
 have c12b0 : decide (x22_1 < (a1.size : Int)) = true := decide_eq_true c12
 clear c12
 obtain ⟨y330, hy330⟩ : ∃ y_ : List ByteArray, y_ = (([] : List ByteArray)) := ⟨_, rfl⟩
 replace H : (impl_Habit_tries.l1 k1 a1 x22_1 y330 (a1.size : Int) x22_1 x5_1 (x5_1.length : Int) 0 a0_0 a0_1 a0_2) = some r := by first | (rw [hy330]; with_reducible exact H) | (have H2_ := (Option.bind_some _ _).symm.trans H; rw [hy330]; with_reducible exact H2_) | (have H2_ := (Option.bind_some _ _).symm.trans H; with_reducible exact H2_) | with_reducible exact H | (rw [hy330]; exact H) | exact H
 have Ny330 := ak hy330
 clear hy330
 have H' := ak H
 clear H
 go_wp2_with (first | ((with_reducible refine gate_dst (N := 25) rfl ?_); refine Kd.R_lit Kd.string _ 9 ?hg (N := 25) ?hd (xs := ([] : List ByteArray)) (inner := []) (ok := fun _ => True) (okp := fun _ => True) ?hr ?hp (fun _ hk => hk) trivial (Below.refl _ _) (Nat.le_refl _) (by simp) ?_; (case hd => rfl); (case hg => rfl); (case hr => first | (go_simp; done) | (go_simp; rfl)); (case hp => exact (Reps.none _ _)); intro v331 w13 ho14 hb hg_ hnew_; clear hg_ hnew_; (first | rw [← Ny330.out] at ho14 | (simp only [Int.reduceToNat] at ho14; rw [← Ny330.out] at ho14)); have HO332 := ak (Kd.R_lower (Kd.R_new' ho14 (Kd.R_lt (zR HO_5.out))) (below_size (zBG HB.out GE322.out))); replace HO_5 := kE HO_5 ho14 hb; replace BK322 := kK BK322 hb; replace HB := kB1 HB GE322 hb; clear hb ho14; obtain ⟨Ao15, co15, eo15⟩ := Kd.R_slice HO_5.out; subst eo15))
 go_loopg [7, 28] k1 (fun kq v7 v28 w' => ∃ (x7_2 : List ByteArray) (x28_2 : Int), v28 = .int .i64 x28_2 ∧ Aside0 (impl_Habit_tries.l1 kq a1 x22_1 x7_2 (a1.size : Int) x22_1 x5_1 (x5_1.length : Int) x28_2 a0_0 a0_1 a0_2 = some r) ∧ Aside0 (kq ≤ k1) ∧ Aside0 (Kd.R Kd.string 9 w' w.heap.size (fun k_ => some k_ ≠ ((.slice Ao15 x5_1.length co15) : Value).ownBlock) v7 x7_2) ∧ Aside0 (Kd.R Kd.string 9 w' w.heap.size (fun k_ => some k_ ≠ (v7 : Value).ownBlock) (.slice Ao15 x5_1.length co15) x5_1) ∧ Aside0 (w'.heap[gb322]? = some (.cells #[.int .i8 a0_0, .int .u8 a0_1, .int .u8 a0_2] 40 (0, 0))) ∧ Aside0 (Below w.heap.size w w'))
 case atStart => exact ⟨(y330), (0), (by first | rfl | (simp; done) | (simp [*]; done)), H', ⟨Nat.le_refl _⟩, ⟨by (with_reducible repeat (first | apply Kd.R_alloc | apply Kd.R_drewN | apply Kd.R_drew)); exact Kd.R_mono HO332.out (fun _ hk => hk.2)⟩, ⟨by (with_reducible repeat (first | apply Kd.R_alloc | apply Kd.R_drewN | apply Kd.R_drew)); exact Kd.R_mono HO_5.out (fun _ hk => hk.2)⟩, ⟨(zK BK322.out)⟩, ⟨zBG HB.out GE322.out⟩⟩
 case round => (
 clear H'
 try clear c4
 try clear c4b0
 try clear c4b1
 try clear c12
 try clear c12b0
 try clear hcz9_0
 try clear hcz9_1
 try clear hcz9_2
 try clear hfz9_0
 try clear hfz9_1
 try clear hfz9_2
 obtain ⟨x7_2, x28_2, rfl, HA, HK2, HO_7, HO_26, BK322, HB⟩ := hrel
 cases gk with
 | zero => exact absurd HA.out (by simp [impl_Habit_tries.l1])
 | succ k2 => (
 have H := HA.out
 clear HA
 simp only [impl_Habit_tries.l1] at H
 by_cases c16 : x28_2 < (x5_1.length : Int)
 {
 rw [if_pos c16] at H
 have c16b0 : decide (x28_2 < (x5_1.length : Int)) = true := decide_eq_true c16
 clear c16
 by_cases c17 : 0 ≤ x28_2
 {
 rw [if_pos c17] at H
 have c17b0 : decide (0 ≤ x28_2) = true := decide_eq_true c17
 clear c17
 by_cases c18 : x28_2 < (x5_1.length : Int)
 {
 rw [if_pos c18] at H
 have c18b0 : decide (x28_2 < (x5_1.length : Int)) = true := decide_eq_true c18
 clear c18
 by_cases c19 : 0 ≤ x22_1
 {
 rw [if_pos c19] at H
 have c19b0 := eq_true c19
 have c19b1 : decide (0 ≤ x22_1) = true := decide_eq_true c19
 clear c19
 by_cases c20 : x22_1 ≤ (wrap64 (x22_1 + 1))
 {
 rw [if_pos c20] at H
 have c20b0 := eq_true c20
 have c20b1 : decide (x22_1 ≤ (wrap64 (x22_1 + 1))) = true := decide_eq_true c20
 by_cases c21 : (wrap64 (x22_1 + 1)) ≤ (a1.size : Int)
 {
 rw [if_pos c21] at H
 have c21b0 := eq_true c21
 have c21b1 : decide ((wrap64 (x22_1 + 1)) ≤ (a1.size : Int)) = true := decide_eq_true c21
 by_cases c22 : (rdOf ByteArray.empty x5_1 x28_2).size + (a1.extract (x22_1 : Int).toNat ((wrap64 (x22_1 + 1)) : Int).toNat).size ≤ 9223372036854775807
 {
 rw [if_pos c22] at H
 have c22b0 := eq_true c22
 have c22b1 : decide ((rdOf ByteArray.empty x5_1 x28_2).size + (a1.extract (x22_1 : Int).toNat ((wrap64 (x22_1 + 1)) : Int).toNat).size ≤ 9223372036854775807) = true := decide_eq_true c22
 try have c22b2 : (9223372036854775807 < (rdOf ByteArray.empty x5_1 x28_2).size + (a1.extract (x22_1 : Int).toNat ((wrap64 (x22_1 + 1)) : Int).toNat).size) = False := eq_false (Nat.not_lt.2 c22)
 by_cases c23 : x7_2.length < 8796093022208
 {
 rw [if_pos c23] at H
 have LMc23 := ak c23
 clear c23
 obtain ⟨y334, hy334⟩ : ∃ y_ : List ByteArray, y_ = (x7_2 ++ [(rdOf ByteArray.empty x5_1 x28_2) ++ (a1.extract (x22_1 : Int).toNat ((wrap64 (x22_1 + 1)) : Int).toNat)]) := ⟨_, rfl⟩
 replace H : (if x22_1 < (a1.size : Int) then (if (bt a1 x22_1) = a0_2 then ((some (([a0_1] : List Int) : List Int)).bind fun y337 => (if (rdOf ByteArray.empty x5_1 x28_2).size + (strOfNums y337).size ≤ 9223372036854775807 then (if y334.length < 8796093022208 then (impl_Habit_tries.l1 k2 a1 x22_1 (y334 ++ [(rdOf ByteArray.empty x5_1 x28_2) ++ (strOfNums y337)]) (a1.size : Int) x22_1 x5_1 (x5_1.length : Int) (wrap64 (x28_2 + 1)) a0_0 a0_1 a0_2) else (none)) else (none))) else (impl_Habit_tries.l1 k2 a1 x22_1 y334 (a1.size : Int) x22_1 x5_1 (x5_1.length : Int) (wrap64 (x28_2 + 1)) a0_0 a0_1 a0_2)) else (none)) = some r := by first | (rw [hy334]; with_reducible exact H) | (have H2_ := (Option.bind_some _ _).symm.trans H; rw [hy334]; with_reducible exact H2_) | (have H2_ := (Option.bind_some _ _).symm.trans H; with_reducible exact H2_) | with_reducible exact H | (rw [hy334]; exact H) | exact H
 have Ny334 := ak hy334
 clear hy334
 by_cases c24 : x22_1 < (a1.size : Int)
 {
 rw [if_pos c24] at H
 have c24b0 : decide (x22_1 < (a1.size : Int)) = true := decide_eq_true c24
 clear c24
 by_cases c26 : (bt a1 x22_1) = a0_2
 {
 rw [if_pos c26] at H
 have c26b0 : ((bt a1 x22_1) == a0_2) = true := beq_iff_eq.mpr c26
 have c26b1 : ((bt a1 x22_1) != a0_2) = false := bne_eq_false_iff_eq.mpr c26
 clear c26
 obtain ⟨y337, hy337⟩ : ∃ y_ : List Int, y_ = (([a0_1] : List Int)) := ⟨_, rfl⟩
 replace H : (if (rdOf ByteArray.empty x5_1 x28_2).size + (strOfNums y337).size ≤ 9223372036854775807 then (if y334.length < 8796093022208 then (impl_Habit_tries.l1 k2 a1 x22_1 (y334 ++ [(rdOf ByteArray.empty x5_1 x28_2) ++ (strOfNums y337)]) (a1.size : Int) x22_1 x5_1 (x5_1.length : Int) (wrap64 (x28_2 + 1)) a0_0 a0_1 a0_2) else (none)) else (none)) = some r := by first | (rw [hy337]; with_reducible exact H) | (have H2_ := (Option.bind_some _ _).symm.trans H; rw [hy337]; with_reducible exact H2_) | (have H2_ := (Option.bind_some _ _).symm.trans H; with_reducible exact H2_) | with_reducible exact H | (rw [hy337]; exact H) | exact H
 have Ny337 := ak hy337
 clear hy337
 by_cases c27 : (rdOf ByteArray.empty x5_1 x28_2).size + (strOfNums y337).size ≤ 9223372036854775807
 {
 rw [if_pos c27] at H
 have c27b0 := eq_true c27
 have c27b1 : decide ((rdOf ByteArray.empty x5_1 x28_2).size + (strOfNums y337).size ≤ 9223372036854775807) = true := decide_eq_true c27
 try have c27b2 : (9223372036854775807 < (rdOf ByteArray.empty x5_1 x28_2).size + (strOfNums y337).size) = False := eq_false (Nat.not_lt.2 c27)
 by_cases c28 : y334.length < 8796093022208
 {
 rw [if_pos c28] at H
 have LMc28 := ak c28
 clear c28
 obtain ⟨y340, hy340⟩ : ∃ y_ : List ByteArray, y_ = (y334 ++ [(rdOf ByteArray.empty x5_1 x28_2) ++ (strOfNums y337)]) := ⟨_, rfl⟩
 replace H : (impl_Habit_tries.l1 k2 a1 x22_1 y340 (a1.size : Int) x22_1 x5_1 (x5_1.length : Int) (wrap64 (x28_2 + 1)) a0_0 a0_1 a0_2) = some r := by first | (rw [hy340]; with_reducible exact H) | (have H2_ := (Option.bind_some _ _).symm.trans H; rw [hy340]; with_reducible exact H2_) | (have H2_ := (Option.bind_some _ _).symm.trans H; with_reducible exact H2_) | with_reducible exact H | (rw [hy340]; exact H) | exact H
 have Ny340 := ak hy340
 clear hy340
 have H' := ak H
 clear H
 have p333 : 0 ≤ (x28_2 : Int) := of_decide_eq_true (by first | (with_reducible assumption) | assumption)
 have q333 : x28_2 < (x5_1.length : Int) := of_decide_eq_true (by first | (with_reducible assumption) | assumption)
 obtain ⟨ad333, e333, hx333_0⟩ := Kd.at_string (Kd.R_reads' HO_26.out).2.2 x28_2 p333 q333
 cases e333
 replace p333 := eq_true p333
 replace q333 := eq_true q333
 try go_wp2_with (first | ((with_reducible refine gate_builtin (b := .append) (xs := #[.tmp 32, .tmp 40]) rfl ?_); at_builtin; refine Kd.R_append Kd.string (w0 := w) w.heap.size rfl (.tmp 32) (.tmp 40) 29 9 (.string ⟨#[]⟩) 16 rfl Tryz.underlying29 info9 rfl (by decide) (by omega) u7 x7_2 ((rdOf ByteArray.empty x5_1 x28_2) ++ (a1.extract (x22_1 : Int).toNat ((wrap64 (x22_1 + 1)) : Int).toNat)) [.string ((rdOf ByteArray.empty x5_1 x28_2) ++ (a1.extract (x22_1 : Int).toNat ((wrap64 (x22_1 + 1)) : Int).toNat))] (fun k_ => some k_ ≠ (.slice (some ad333) x5_1.length co15 : Value).ownBlock) (fun _ => False) rfl rfl ?aP (fun _ hk => hk.elim) ?aF ?aO ?aB ?aS ?aL ?_; (case aP => exact rfl); (case aB => exact (zBG HB.out GE322.out)); (case aF => exact (fun k_ hk => Kd.fresh' (Kd.R_lt (zR HO_26.out)) k_ hk)); (case aO => exact (zR HO_7.out)); (case aS => exact (below_size (zBG HB.out GE322.out))); (case aL => have := LMc23.out; omega); intro v335 w29 ho hb hg hat; rw [← Ny334.out] at ho; have n0_ := ak (Kd.R_after (ok := (fun _ => True)) (by (with_reducible repeat (first | apply Kd.R_alloc | apply Kd.R_drewN | apply Kd.R_drew)); exact Kd.R_mono HO_26.out (fun _ hk => ⟨trivial, by first | exact hk | exact own_len_ hk⟩)) hg hat); have n1_ := ak (blk_grown (g := gb322) (o := .cells #[.int .i8 a0_0, .int .u8 a0_1, .int .u8 a0_2] 40 (0, 0)) (zK BK322.out) hg (Kd.R_ne HO_7.out BK322.out (by decide))); have n2_ := ak (hb); have n3_ := ak (ho); clear HO_26 BK322 HB HO_7; have HO_26 := n0_; have BK322 := n1_; have HB := n2_; have HO336 := n3_; clear n0_ n1_ n2_ n3_; clear ho hb hg hat))
 replace HO_26 := ak (Kd.R_drew HO_26.out)
 replace HO336 := ak (Kd.R_drew HO336.out)
 replace BK322 := ak (blk_drew BK322.out)
 replace HB := ak (below_drew1 HB.out)
 have p25 : 0 ≤ (x22_1 : Int) := of_decide_eq_true (by first | (with_reducible assumption) | assumption)
 have q25 : x22_1 < (a1.size : Int) := of_decide_eq_true (by first | (with_reducible assumption) | assumption)
 have hx25 := bt_at a1 x22_1
 replace p25 := eq_true p25
 replace q25 := eq_true q25
 refine start_ (n := 6) (S := fun w' => w'.cell? ⟨gb322, 0, none⟩ = some (.int .i8 a0_0) ∧ w'.cell? ⟨gb322, 1, none⟩ = some (.int .u8 a0_1) ∧ w'.cell? ⟨gb322, 2, none⟩ = some (.int .u8 a0_2)) (ds := []) (bA 6 0) (by kernel_rfl) rfl rfl ⟨(blk_cell BK322.out 0).trans rfl, (blk_cell BK322.out 1).trans rfl, (blk_cell BK322.out 2).trans rfl⟩ (fun hHeld => ?_)
 generalize w29.drew = w30 at HO_26 HO336 BK322 HB hHeld ⊢
 refine pure_ (i := 0) (N := some 42) (v := ?_) (a' := ?_) (bA 6 1) rfl rfl (by kernel_rfl) (fun _ _ _ h => h) (Or.inl ⟨by rfl, ?_⟩) ?_ ?_
 rotate_left
 {
 intro w'
 go_simp
 with_reducible rfl
 }
 rotate_left
 · simp only [Act.put, zs, zz, zk, i64_w, i32_w]; rfl
 refine pure_ (i := 1) (N := some 43) (v := ?_) (a' := ?_) (bA 6 3) rfl rfl (by kernel_rfl) (fun _ _ _ h => h) (Or.inl ⟨by rfl, ?_⟩) ?_ ?_
 rotate_left
 {
 intro w'
 go_simp
 with_reducible rfl
 }
 rotate_left
 · simp only [Act.put, zs, zz, zk, i64_w, i32_w]; rfl
 refine pure_ (i := 3) (N := some 45) (v := ?_) (a' := ?_) (bA 6 11) rfl rfl (by kernel_rfl) (fun _ _ _ h => h) (Or.inl ⟨by rfl, ?_⟩) ?_ ?_
 rotate_left
 {
 intro w'
 go_simp
 with_reducible rfl
 }
 rotate_left
 · simp only [Act.put, zs, zz, zk, i64_w, i32_w]; rfl
 refine take_ (i := 2) (N := some 44) (v := ?_) (a' := ?_) (bA 6 15) rfl rfl (by kernel_rfl) (fun _ _ _ h => h) (Or.inl ⟨by rfl, ?_⟩) hHeld ?_ ?_
 rotate_left
 {
 rintro w' ⟨s0, s1, s2⟩
 go_simp
 with_reducible rfl
 }
 rotate_left
 · simp only [Act.put, zs, zz, zk, i64_w, i32_w]; rfl
 refine take_ (i := 4) (N := some 46) (v := ?_) (a' := ?_) (bA 6 31) rfl rfl (by kernel_rfl) (fun _ _ _ h => h) (Or.inl ⟨by rfl, ?_⟩) hHeld ?_ ?_
 rotate_left
 {
 rintro w' ⟨s0, s1, s2⟩
 go_simp
 with_reducible rfl
 }
 rotate_left
 · simp only [Act.put, zs, zz, zk, i64_w, i32_w]; rfl
 refine pure_ (i := 5) (N := some 47) (v := ?_) (a' := ?_) (bA 6 63) rfl rfl (by kernel_rfl) (fun _ _ _ h => h) (Or.inl ⟨by rfl, ?_⟩) ?_ ?_
 rotate_left
 {
 intro w'
 go_simp
 with_reducible rfl
 }
 rotate_left
 · simp only [Act.put, zs, zz, zk, i64_w, i32_w]; rfl
 refine done_ (by kernel_rfl) ?_
 have hcz31_0 : w30.cell? ⟨gb322, 0, none⟩ = some (.int .i8 a0_0) := (blk_cell BK322.out 0).trans rfl
 have hcz31_1 : w30.cell? ⟨gb322, 1, none⟩ = some (.int .u8 a0_1) := (blk_cell BK322.out 1).trans rfl
 have hcz31_2 : w30.cell? ⟨gb322, 2, none⟩ = some (.int .u8 a0_2) := (blk_cell BK322.out 2).trans rfl
 have hfz31_0 := blk_frozen BK322.out 0
 have hfz31_1 := blk_frozen BK322.out 1
 have hfz31_2 := blk_frozen BK322.out 2
 try go_wp2_with (first | ((with_reducible refine gate_dst (N := 52) rfl ?_); refine Kd.R_lit (Kd.int .u8) _ 5 ?hg (N := 52) ?hd (xs := ([a0_1] : List Int)) (inner := [.int .u8 a0_1]) (ok := fun _ => True) (okp := fun _ => True) ?hr ?hp (fun _ hk => hk) trivial (Below.refl _ _) (Nat.le_refl _) (by simp) ?_; (case hd => rfl); (case hg => rfl); (case hr => first | (go_simp; done) | (go_simp; rfl)); (case hp => exact (Reps.one (show Kd.M (Kd.int .u8) _ _ _ a0_1 [.int .u8 a0_1] from rfl) (Reps.none _ _))); intro v338 w32 ho33 hb hg_ hnew_; clear hg_ hnew_; (first | rw [← Ny337.out] at ho33 | (simp only [Int.reduceToNat] at ho33; rw [← Ny337.out] at ho33)); have n0_ := ak (Kd.R_below (zR HO_26.out) hb); have n1_ := ak (Kd.R_below (zR HO336.out) hb); have n2_ := ak (Kd.R_lower ho33 (below_size (zBG HB.out GE322.out))); have n3_ := ak (blk_below (g := gb322) (o := .cells #[.int .i8 a0_0, .int .u8 a0_1, .int .u8 a0_2] 40 (0, 0)) (zK BK322.out) hb); have n4_ := ak (below_step (zBG HB.out GE322.out) hb); clear HO_26 HO336 BK322 HB; have HO_26 := n0_; have HO336 := n1_; have HO339 := n2_; have BK322 := n3_; have HB := n4_; clear n0_ n1_ n2_ n3_ n4_; clear hb ho33; have hcv34 := own_string (P := Tryz.prog) Tryz.underlying22 Tryz.underlying5 Tryz.underlying9 (Kd.own_of_R HO339.out)) | ((with_reducible refine gate_builtin (b := .append) (xs := #[.tmp 48, .tmp 55]) rfl ?_); at_builtin; refine Kd.R_append Kd.string (w0 := w) w.heap.size rfl (.tmp 48) (.tmp 55) 29 9 (.string ⟨#[]⟩) 16 rfl Tryz.underlying29 info9 rfl (by decide) (by omega) v335 y334 ((rdOf ByteArray.empty x5_1 x28_2) ++ (strOfNums y337)) [.string ((rdOf ByteArray.empty x5_1 x28_2) ++ (strOfNums y337))] (fun k_ => some k_ ≠ (.slice (some ad333) x5_1.length co15 : Value).ownBlock) (fun _ => False) rfl rfl ?aP (fun _ hk => hk.elim) ?aF ?aO ?aB ?aS ?aL ?_; (case aP => exact rfl); (case aB => exact (zBG HB.out GE322.out)); (case aF => exact (fun k_ hk => Kd.fresh' (Kd.R_lt (zR HO_26.out)) k_ hk)); (case aO => exact (zR HO336.out)); (case aS => exact (below_size (zBG HB.out GE322.out))); (case aL => have := LMc28.out; omega); intro v341 w35 ho hb hg hat; rw [← Ny340.out] at ho; have n0_ := ak (Kd.R_after (ok := (fun _ => True)) (zR HO_26.out) hg hat); have n1_ := ak (blk_grown (g := gb322) (o := .cells #[.int .i8 a0_0, .int .u8 a0_1, .int .u8 a0_2] 40 (0, 0)) (zK BK322.out) hg (Kd.R_ne HO336.out BK322.out (by decide))); have n2_ := ak (Kd.R_over' (zR HO339.out) (Kd.R_typed (zR HO336.out)) (by decide) hg); have n3_ := ak (hb); have n4_ := ak (ho); clear HO_26 BK322 HO339 HB HO336; have HO_26 := n0_; have BK322 := n1_; have HO339 := n2_; have HB := n3_; have HO342 := n4_; clear n0_ n1_ n2_ n3_ n4_; clear ho hb hg hat))
 go_roundg k2
 case measure => have := HK1.out; have := HK2.out; omega
 case rel => exact ⟨(y340), (wrap64 (x28_2 + 1)), (by first | rfl | (simp; done) | (simp [*]; done)), H', ⟨by have := HK1.out; have := HK2.out; omega⟩, ⟨(zR HO342.out)⟩, ⟨by (with_reducible repeat (first | apply Kd.R_alloc | apply Kd.R_drewN | apply Kd.R_drew)); exact Kd.R_mono HO_26.out (fun _ hk => hk.2)⟩, ⟨(zK BK322.out)⟩, ⟨zBG HB.out GE322.out⟩⟩
 }
 · rw [if_neg c28] at H; exact absurd H (by simp)
 }
 · rw [if_neg c27] at H; exact absurd H (by simp)
 }
 {
 rw [if_neg c26] at H
 have c26b0 : ((bt a1 x22_1) == a0_2) = false := beq_eq_false_iff_ne.mpr c26
 have c26b1 : ((bt a1 x22_1) != a0_2) = true := bne_iff_ne.mpr c26
 have H' := ak H
 clear H
 have p333 : 0 ≤ (x28_2 : Int) := of_decide_eq_true (by first | (with_reducible assumption) | assumption)
 have q333 : x28_2 < (x5_1.length : Int) := of_decide_eq_true (by first | (with_reducible assumption) | assumption)
 obtain ⟨ad333, e333, hx333_0⟩ := Kd.at_string (Kd.R_reads' HO_26.out).2.2 x28_2 p333 q333
 cases e333
 replace p333 := eq_true p333
 replace q333 := eq_true q333
 try go_wp2_with (first | ((with_reducible refine gate_builtin (b := .append) (xs := #[.tmp 32, .tmp 40]) rfl ?_); at_builtin; refine Kd.R_append Kd.string (w0 := w) w.heap.size rfl (.tmp 32) (.tmp 40) 29 9 (.string ⟨#[]⟩) 16 rfl Tryz.underlying29 info9 rfl (by decide) (by omega) u7 x7_2 ((rdOf ByteArray.empty x5_1 x28_2) ++ (a1.extract (x22_1 : Int).toNat ((wrap64 (x22_1 + 1)) : Int).toNat)) [.string ((rdOf ByteArray.empty x5_1 x28_2) ++ (a1.extract (x22_1 : Int).toNat ((wrap64 (x22_1 + 1)) : Int).toNat))] (fun k_ => some k_ ≠ (.slice (some ad333) x5_1.length co15 : Value).ownBlock) (fun _ => False) rfl rfl ?aP (fun _ hk => hk.elim) ?aF ?aO ?aB ?aS ?aL ?_; (case aP => exact rfl); (case aB => exact (zBG HB.out GE322.out)); (case aF => exact (fun k_ hk => Kd.fresh' (Kd.R_lt (zR HO_26.out)) k_ hk)); (case aO => exact (zR HO_7.out)); (case aS => exact (below_size (zBG HB.out GE322.out))); (case aL => have := LMc23.out; omega); intro v335 w36 ho hb hg hat; rw [← Ny334.out] at ho; have n0_ := ak (Kd.R_after (ok := (fun _ => True)) (by (with_reducible repeat (first | apply Kd.R_alloc | apply Kd.R_drewN | apply Kd.R_drew)); exact Kd.R_mono HO_26.out (fun _ hk => ⟨trivial, by first | exact hk | exact own_len_ hk⟩)) hg hat); have n1_ := ak (blk_grown (g := gb322) (o := .cells #[.int .i8 a0_0, .int .u8 a0_1, .int .u8 a0_2] 40 (0, 0)) (zK BK322.out) hg (Kd.R_ne HO_7.out BK322.out (by decide))); have n2_ := ak (hb); have n3_ := ak (ho); clear HO_26 BK322 HB HO_7; have HO_26 := n0_; have BK322 := n1_; have HB := n2_; have HO336 := n3_; clear n0_ n1_ n2_ n3_; clear ho hb hg hat))
 replace HO_26 := ak (Kd.R_drew HO_26.out)
 replace HO336 := ak (Kd.R_drew HO336.out)
 replace BK322 := ak (blk_drew BK322.out)
 replace HB := ak (below_drew1 HB.out)
 have p25 : 0 ≤ (x22_1 : Int) := of_decide_eq_true (by first | (with_reducible assumption) | assumption)
 have q25 : x22_1 < (a1.size : Int) := of_decide_eq_true (by first | (with_reducible assumption) | assumption)
 have hx25 := bt_at a1 x22_1
 replace p25 := eq_true p25
 replace q25 := eq_true q25
 refine start_ (n := 6) (S := fun w' => w'.cell? ⟨gb322, 0, none⟩ = some (.int .i8 a0_0) ∧ w'.cell? ⟨gb322, 1, none⟩ = some (.int .u8 a0_1) ∧ w'.cell? ⟨gb322, 2, none⟩ = some (.int .u8 a0_2)) (ds := []) (bA 6 0) (by kernel_rfl) rfl rfl ⟨(blk_cell BK322.out 0).trans rfl, (blk_cell BK322.out 1).trans rfl, (blk_cell BK322.out 2).trans rfl⟩ (fun hHeld => ?_)
 generalize w36.drew = w37 at HO_26 HO336 BK322 HB hHeld ⊢
 refine pure_ (i := 0) (N := some 42) (v := ?_) (a' := ?_) (bA 6 1) rfl rfl (by kernel_rfl) (fun _ _ _ h => h) (Or.inl ⟨by rfl, ?_⟩) ?_ ?_
 rotate_left
 {
 intro w'
 go_simp
 with_reducible rfl
 }
 rotate_left
 · simp only [Act.put, zs, zz, zk, i64_w, i32_w]; rfl
 refine pure_ (i := 1) (N := some 43) (v := ?_) (a' := ?_) (bA 6 3) rfl rfl (by kernel_rfl) (fun _ _ _ h => h) (Or.inl ⟨by rfl, ?_⟩) ?_ ?_
 rotate_left
 {
 intro w'
 go_simp
 with_reducible rfl
 }
 rotate_left
 · simp only [Act.put, zs, zz, zk, i64_w, i32_w]; rfl
 refine pure_ (i := 3) (N := some 45) (v := ?_) (a' := ?_) (bA 6 11) rfl rfl (by kernel_rfl) (fun _ _ _ h => h) (Or.inl ⟨by rfl, ?_⟩) ?_ ?_
 rotate_left
 {
 intro w'
 go_simp
 with_reducible rfl
 }
 rotate_left
 · simp only [Act.put, zs, zz, zk, i64_w, i32_w]; rfl
 refine take_ (i := 2) (N := some 44) (v := ?_) (a' := ?_) (bA 6 15) rfl rfl (by kernel_rfl) (fun _ _ _ h => h) (Or.inl ⟨by rfl, ?_⟩) hHeld ?_ ?_
 rotate_left
 {
 rintro w' ⟨s0, s1, s2⟩
 go_simp
 with_reducible rfl
 }
 rotate_left
 · simp only [Act.put, zs, zz, zk, i64_w, i32_w]; rfl
 refine take_ (i := 4) (N := some 46) (v := ?_) (a' := ?_) (bA 6 31) rfl rfl (by kernel_rfl) (fun _ _ _ h => h) (Or.inl ⟨by rfl, ?_⟩) hHeld ?_ ?_
 rotate_left
 {
 rintro w' ⟨s0, s1, s2⟩
 go_simp
 with_reducible rfl
 }
 rotate_left
 · simp only [Act.put, zs, zz, zk, i64_w, i32_w]; rfl
 refine pure_ (i := 5) (N := some 47) (v := ?_) (a' := ?_) (bA 6 63) rfl rfl (by kernel_rfl) (fun _ _ _ h => h) (Or.inl ⟨by rfl, ?_⟩) ?_ ?_
 rotate_left
 {
 intro w'
 go_simp
 with_reducible rfl
 }
 rotate_left
 · simp only [Act.put, zs, zz, zk, i64_w, i32_w]; rfl
 refine done_ (by kernel_rfl) ?_
 try go_wp2
 go_roundg k2
 case measure => have := HK1.out; have := HK2.out; omega
 case rel => exact ⟨(y334), (wrap64 (x28_2 + 1)), (by first | rfl | (simp; done) | (simp [*]; done)), H', ⟨by have := HK1.out; have := HK2.out; omega⟩, ⟨(zR HO336.out)⟩, ⟨by (with_reducible repeat (first | apply Kd.R_alloc | apply Kd.R_drewN | apply Kd.R_drew)); exact Kd.R_mono HO_26.out (fun _ hk => hk.2)⟩, ⟨(zK BK322.out)⟩, ⟨zBG HB.out GE322.out⟩⟩
 }
 }
 · rw [if_neg c24] at H; exact absurd H (by simp)
 }
 · rw [if_neg c23] at H; exact absurd H (by simp)
 }
 · rw [if_neg c22] at H; exact absurd H (by simp)
 }
 · rw [if_neg c21] at H; exact absurd H (by simp)
 }
 · rw [if_neg c20] at H; exact absurd H (by simp)
 }
 · rw [if_neg c19] at H; exact absurd H (by simp)
 }
 · rw [if_neg c18] at H; exact absurd H (by simp)
 }
 · rw [if_neg c17] at H; exact absurd H (by simp)
 }
 {
 rw [if_neg c16] at H
 have c16b0 : decide (x28_2 < (x5_1.length : Int)) = false := decide_eq_false c16
 clear c16
 have H' := ak H
 clear H
 go_wp2
 go_roundg k2
 case measure => have := HK1.out; have := HK2.out; omega
 case rel => exact ⟨(x7_2), (wrap64 (x22_1 + 1)), (by first | rfl | (simp; done) | (simp [*]; done)), H', ⟨by have := HK1.out; have := HK2.out; omega⟩, ⟨by (with_reducible repeat (first | apply Kd.R_alloc | apply Kd.R_drewN | apply Kd.R_drew)); exact Kd.R_mono HO_7.out (fun _ hk => trivial)⟩, ⟨(zK BK322.out)⟩, ⟨zBG HB.out GE322.out⟩⟩
 }
 )
 )
 }
 {
 rw [if_neg c12] at H
 have c12b0 : decide (x22_1 < (a1.size : Int)) = false := decide_eq_false c12
 clear c12
 obtain rfl := Option.some.inj H
 go_wp2
 go_ret
 exact ⟨_, by first | rfl | (simp [errW_none, errW_some] <;> rfl) | (simp [*, errW_none, errW_some] <;> rfl), by (with_reducible repeat (first | apply Kd.R_alloc | apply Kd.R_drewN | apply Kd.R_drew)); exact HO_5.out, zBG HB.out GE322.out⟩
 }
 )
 )
 }
 {
 rw [if_neg c4] at H
 have c4b0 : (a0_0 == 1) = false := beq_eq_false_iff_ne.mpr c4
 have c4b1 : (a0_0 != 1) = true := bne_iff_ne.mpr c4
 by_cases c38 : a0_0 = 2
 {
 rw [if_pos c38] at H
 have c38b0 : (a0_0 == 2) = true := beq_iff_eq.mpr c38
 have c38b1 : (a0_0 != 2) = false := bne_eq_false_iff_eq.mpr c38
 clear c38
 have H' := ak H
 clear H
 go_enter Tryz.func67, Tryz.ntmps67
 go_wp2_with (first | ((with_reducible refine gate_dst (N := 2) rfl ?_); refine box_event ?hg (N := 2) ?hd (cs := #[.int .i8 a0_0, .int .u8 a0_1, .int .u8 a0_2]) (t := 40) ?hr ?_; (case hd => rfl); (case hg => rfl); (case hr => first | (go_simp; done) | (go_simp; rfl)); intro gb322 hg w39 hbox hb; have BK322 := ak (hbox); have GW322 := gS HB hg; have GE322 := gS HB hg; replace HB := kB HB hb; clear hb hbox hg) | ((with_reducible refine gate_callee (f := 65) rfl ?_); refine goesL_ (some 13) rfl rfl Tryz.func65 (by kernel_rfl) rfl #[.string a1] rfl gl_ ?_; (with_reducible refine (impl_turned.calls a1 t323 _ A3.out).mono ?_); rintro e w40 ⟨rfl, hb⟩; refine ⟨_, rfl, ?_⟩; replace BK322 := kK BK322 hb; replace HB := kB1 HB GE322 hb; (try clear hb)) | ((with_reducible refine gate_dst (N := 14) rfl ?_); refine Kd.R_lit Kd.string _ 9 ?hg (N := 14) ?hd (xs := ([a1, t323] : List ByteArray)) (inner := [.string a1, .string t323]) (ok := fun _ => True) (okp := fun _ => True) ?hr ?hp (fun _ hk => hk) trivial (Below.refl _ _) (Nat.le_refl _) (by simp) ?_; (case hd => rfl); (case hg => rfl); (case hr => first | (go_simp; done) | (go_simp; rfl)); (case hp => exact (Reps.one (show Kd.M Kd.string _ _ _ a1 [.string a1] from rfl) (Reps.one (show Kd.M Kd.string _ _ _ t323 [.string t323] from rfl) (Reps.none _ _)))); intro v325 w41 ho42 hb hg_ hnew_; clear hg_ hnew_; (first | rw [← Ny324.out] at ho42 | (simp only [Int.reduceToNat] at ho42; rw [← Ny324.out] at ho42)); have HO326 := ak (Kd.R_lower ho42 (below_size (zBG HB.out GE322.out))); replace BK322 := kK BK322 hb; replace HB := kB1 HB GE322 hb; clear hb ho42; obtain ⟨hcz43_0, hcz43_1, hcz43_2, hfz43_0, hfz43_1, hfz43_2⟩ := cz3 w41 BK322))
 go_loopg [5, 65] k (fun kq v5 v65 w' => ∃ (x5_1 : List ByteArray) (x65_1 : Int), v65 = .int .i64 x65_1 ∧ Aside0 (impl_Habit_tries.l2 kq a1 x5_1 (wrap64 ((a1.size : Int) + 1)) x65_1 a0_0 a0_1 a0_2 = some r) ∧ Aside0 (kq ≤ k) ∧ Aside0 (Kd.R Kd.string 9 w' w.heap.size (fun _ => True) v5 x5_1) ∧ Aside0 (w'.heap[gb322]? = some (.cells #[.int .i8 a0_0, .int .u8 a0_1, .int .u8 a0_2] 40 (0, 0))) ∧ Aside0 (Below w.heap.size w w'))
 case atStart => exact ⟨(y324), (0), (by first | rfl | (simp; done) | (simp [*]; done)), H', ⟨Nat.le_refl _⟩, ⟨(zR HO326.out)⟩, ⟨(zK BK322.out)⟩, ⟨zBG HB.out GE322.out⟩⟩
 case round => (
 clear H'
 try clear c4
 try clear c4b0
 try clear c4b1
 try clear c38
 try clear c38b0
 try clear c38b1
 try clear hcz43_0
 try clear hcz43_1
 try clear hcz43_2
 try clear hfz43_0
 try clear hfz43_1
 try clear hfz43_2
 obtain ⟨x5_1, x65_1, rfl, HA, HK1, HO_5, BK322, HB⟩ := hrel
 cases gk with
 | zero => exact absurd HA.out (by simp [impl_Habit_tries.l2])
 | succ k1 => (
 have H := HA.out
 clear HA
 simp only [impl_Habit_tries.l2] at H
 by_cases c44 : x65_1 < (wrap64 ((a1.size : Int) + 1))
 {
 rw [if_pos c44] at H
 have c44b0 : decide (x65_1 < (wrap64 ((a1.size : Int) + 1))) = true := decide_eq_true c44
 (try (have c44b1 : decide (x65_1 < (IntKind.i64.wrap ((a1.size : Int) + 1))) = true := by first | simpa only [i64_w, i32_w] using (show decide (x65_1 < (wrap64 ((a1.size : Int) + 1))) = true from decide_eq_true c44) | simpa only [i64_w] using (show decide (x65_1 < (wrap64 ((a1.size : Int) + 1))) = true from decide_eq_true c44)))
 clear c44
 by_cases c45 : 0 ≤ x65_1
 {
 rw [if_pos c45] at H
 have c45b0 := eq_true c45
 have c45b1 : decide (0 ≤ x65_1) = true := decide_eq_true c45
 clear c45
 by_cases c46 : x65_1 ≤ (a1.size : Int)
 {
 rw [if_pos c46] at H
 have c46b0 := eq_true c46
 have c46b1 : decide (x65_1 ≤ (a1.size : Int)) = true := decide_eq_true c46
 clear c46
 obtain ⟨y343, hy343⟩ : ∃ y_ : List Int, y_ = (([a0_1] : List Int)) := ⟨_, rfl⟩
 replace H : (if (a1.extract 0 (x65_1 : Int).toNat).size + (strOfNums y343).size ≤ 9223372036854775807 then (if (a1.extract 0 (x65_1 : Int).toNat).size + (strOfNums y343).size + (a1.extract (x65_1 : Int).toNat a1.size).size ≤ 9223372036854775807 then (if x5_1.length < 8796093022208 then (impl_Habit_tries.l2 k1 a1 (x5_1 ++ [((a1.extract 0 (x65_1 : Int).toNat) ++ (strOfNums y343)) ++ (a1.extract (x65_1 : Int).toNat a1.size)]) (wrap64 ((a1.size : Int) + 1)) (wrap64 (x65_1 + 1)) a0_0 a0_1 a0_2) else (none)) else (none)) else (none)) = some r := by first | (rw [hy343]; with_reducible exact H) | (have H2_ := (Option.bind_some _ _).symm.trans H; rw [hy343]; with_reducible exact H2_) | (have H2_ := (Option.bind_some _ _).symm.trans H; with_reducible exact H2_) | with_reducible exact H | (rw [hy343]; exact H) | exact H
 have Ny343 := ak hy343
 clear hy343
 by_cases c47 : (a1.extract 0 (x65_1 : Int).toNat).size + (strOfNums y343).size ≤ 9223372036854775807
 {
 rw [if_pos c47] at H
 have c47b0 := eq_true c47
 have c47b1 : decide ((a1.extract 0 (x65_1 : Int).toNat).size + (strOfNums y343).size ≤ 9223372036854775807) = true := decide_eq_true c47
 try have c47b2 : (9223372036854775807 < (a1.extract 0 (x65_1 : Int).toNat).size + (strOfNums y343).size) = False := eq_false (Nat.not_lt.2 c47)
 have c48b0 := eq_true (of_decide_eq_true (by first | (with_reducible assumption) | assumption) : 0 ≤ x65_1)
 have c49b0 := eq_true (of_decide_eq_true (by first | (with_reducible assumption) | assumption) : x65_1 ≤ (a1.size : Int))
 by_cases c50 : (a1.extract 0 (x65_1 : Int).toNat).size + (strOfNums y343).size + (a1.extract (x65_1 : Int).toNat a1.size).size ≤ 9223372036854775807
 {
 rw [if_pos c50] at H
 have c50b0 := eq_true c50
 have c50b1 : decide ((a1.extract 0 (x65_1 : Int).toNat).size + (strOfNums y343).size + (a1.extract (x65_1 : Int).toNat a1.size).size ≤ 9223372036854775807) = true := decide_eq_true c50
 try have c50b2 : (9223372036854775807 < (a1.extract 0 (x65_1 : Int).toNat).size + (strOfNums y343).size + (a1.extract (x65_1 : Int).toNat a1.size).size) = False := eq_false (Nat.not_lt.2 c50)
 have ez50 : (a1.extract 0 (x65_1 : Int).toNat).size = x65_1.toNat := by have := of_eq_true c49b0; rw [ByteArray.size_extract]; omega
 have c47b3 : (9223372036854775807 < x65_1.toNat + (strOfNums y343).size) = False := eq_false (by have := of_eq_true c47b0; rw [ez50] at this; omega)
 have c50b3 : (9223372036854775807 < x65_1.toNat + (strOfNums y343).size + (a1.size - x65_1.toNat)) = False := eq_false (by have := of_eq_true c50b0; rw [ez50, ByteArray.size_extract] at this; omega)
 clear ez50
 by_cases c51 : x5_1.length < 8796093022208
 {
 rw [if_pos c51] at H
 have LMc51 := ak c51
 clear c51
 obtain ⟨y346, hy346⟩ : ∃ y_ : List ByteArray, y_ = (x5_1 ++ [((a1.extract 0 (x65_1 : Int).toNat) ++ (strOfNums y343)) ++ (a1.extract (x65_1 : Int).toNat a1.size)]) := ⟨_, rfl⟩
 replace H : (impl_Habit_tries.l2 k1 a1 y346 (wrap64 ((a1.size : Int) + 1)) (wrap64 (x65_1 + 1)) a0_0 a0_1 a0_2) = some r := by first | (rw [hy346]; with_reducible exact H) | (have H2_ := (Option.bind_some _ _).symm.trans H; rw [hy346]; with_reducible exact H2_) | (have H2_ := (Option.bind_some _ _).symm.trans H; with_reducible exact H2_) | with_reducible exact H | (rw [hy346]; exact H) | exact H
 have Ny346 := ak hy346
 clear hy346
 have H' := ak H
 clear H
 try go_wp2
 replace HO_5 := ak (Kd.R_drew HO_5.out)
 replace BK322 := ak (blk_drew BK322.out)
 replace HB := ak (below_drew1 HB.out)
 refine start_ (n := 16) (S := fun w' => w'.cell? ⟨gb322, 0, none⟩ = some (.int .i8 a0_0) ∧ w'.cell? ⟨gb322, 1, none⟩ = some (.int .u8 a0_1) ∧ w'.cell? ⟨gb322, 2, none⟩ = some (.int .u8 a0_2)) (ds := []) (bA 16 0) (by kernel_rfl) rfl rfl ⟨(blk_cell BK322.out 0).trans rfl, (blk_cell BK322.out 1).trans rfl, (blk_cell BK322.out 2).trans rfl⟩ (fun hHeld => ?_); refine with_tabW impl_Habit_tries.tab22 impl_Habit_tries.bits22 (fun HT_ HW_ => ?_)
 generalize wr.drew = w52 at HO_5 BK322 HB hHeld ⊢
 refine pU 0 68 (bA 16 1) HT_ ?_
 refine pU 1 69 (bA 16 3) HT_ ?_
 refine pU 2 70 (bA 16 7) HT_ ?_
 refine pU 3 71 (bA 16 15) HT_ ?_
 refine pU 4 72 (bA 16 31) HT_ ?_
 refine pU 9 77 (bA 16 543) HT_ ?_
 refine pU 10 78 (bA 16 1567) HT_ ?_
 refine pU 11 79 (bA 16 3615) HT_ ?_
 refine tK 5 73 (bA 16 3647) HT_ HW_ hHeld ?_
 refine one_ (i := 6) (N := some 74) (bA 16 3711) rfl rfl (one_of HT_.out (by kernel_rfl)) (by decide) (fun K hK => ?_)
 refine Kd.R_lit_step (Kd.int .u8) _ 5 ?hg (N := 74) ?hd (xs := ([a0_1] : List Int)) (inner := [.int .u8 a0_1]) (ok := fun _ => True) (okp := fun _ => True) ?hr ?hp (fun _ hk => hk) trivial (Below.refl _ _) (Nat.le_refl _) (by simp) ?_; (case hd => rfl); (case hg => rfl); (case hr => first | (go_simp; done) | (go_simp; rfl)); (case hp => exact (Reps.one (show Kd.M (Kd.int .u8) _ _ _ a0_1 [.int .u8 a0_1] from rfl) (Reps.none _ _)))
 intro v344 w53 ho54 hb hg_ hnew_
 clear hg_ hnew_
 (first | rw [← Ny343.out] at ho54 | (simp only [Int.reduceToNat] at ho54; rw [← Ny343.out] at ho54))
 have HO345 := ak (Kd.R_lower ho54 (below_size (zBG HB.out GE322.out)))
 replace HO_5 := kR HO_5 hb
 replace BK322 := kK BK322 hb
 replace HB := kB1 HB GE322 hb
 refine hK.out _ _ ⟨(blk_cell BK322.out 0).trans rfl, (blk_cell BK322.out 1).trans rfl, (blk_cell BK322.out 2).trans rfl⟩ (fun hHeld => ?_)
 clear hK K
 refine norm_ (a' := ?_) ?_ ?_
 rotate_left
 {
 show Act.put _ (some 74) _ = _
 simp only [Act.put, zs, zz, zk, i64_w, i32_w]
 rfl
 }
 refine one_ (i := 7) (N := some 75) (bA 16 3839) rfl rfl (one_of HT_.out (by kernel_rfl)) (by decide) (fun K hK => ?_)
 have hcv55 := own_string (P := Tryz.prog) Tryz.underlying22 Tryz.underlying5 Tryz.underlying9 (Kd.own_of_R HO345.out)
 refine value_ (w1 := ?_) (v := ?_) (by rfl) rfl ?_ ?_
 rotate_left 2
 {
 go_simp
 constructor
 · rfl
 · rfl
 }
 clear hcv55
 refine hK.out _ _ ⟨(blk_cell BK322.out 0).trans rfl, (blk_cell BK322.out 1).trans rfl, (blk_cell BK322.out 2).trans rfl⟩ (fun hHeld => ?_)
 clear hK K
 refine norm_ (a' := ?_) ?_ ?_
 rotate_left
 {
 show Act.put _ (some 75) _ = _
 simp only [Act.put, zs, zz, zk, i64_w, i32_w]
 rfl
 }
 refine pU 8 76 (bA 16 4095) HT_ ?_
 refine pU 12 80 (bA 16 8191) HT_ ?_
 refine one_ (i := 13) (N := some 81) (bA 16 16383) rfl rfl (one_of HT_.out (by kernel_rfl)) (by decide) (fun K hK => ?_)
 refine value_ (w1 := ?_) (v := ?_) (by rfl) rfl ?_ ?_
 rotate_left 2
 {
 go_simp
 constructor
 · rfl
 · rfl
 }
 refine hK.out _ _ ⟨(blk_cell (blk_alloc BK322.out _) 0).trans rfl, (blk_cell (blk_alloc BK322.out _) 1).trans rfl, (blk_cell (blk_alloc BK322.out _) 2).trans rfl⟩ (fun hHeld => ?_)
 clear hK K
 refine norm_ (a' := ?_) ?_ ?_
 rotate_left
 {
 show Act.put _ (some 81) _ = _
 simp only [Act.put, zs, zz, zk, i64_w, i32_w]
 rfl
 }
 refine one_ (i := 14) (N := some 82) (bA 16 32767) rfl rfl (one_of HT_.out (by kernel_rfl)) (by decide) (fun K hK => ?_)
 refine Kd.R_append_step Kd.string (w0 := w) w.heap.size (by rfl) (.tmp 68) (.tmp 81) 29 9 (.string ⟨#[]⟩) 16 rfl Tryz.underlying29 info9 rfl (by decide) (by omega) u5 x5_1 (((a1.extract 0 (x65_1 : Int).toNat) ++ (strOfNums y343)) ++ (a1.extract (x65_1 : Int).toNat a1.size)) [.string (((a1.extract 0 (x65_1 : Int).toNat) ++ (strOfNums y343)) ++ (a1.extract (x65_1 : Int).toNat a1.size))] (fun _ => True) (fun _ => False) rfl rfl ?aP (fun _ hk => hk.elim) ?aF ?aO ?aB ?aS ?aL ?_
 (case aP => exact rfl)
 (case aB => exact (zBG HB.out GE322.out))
 (case aF => exact (fun _ _ => trivial))
 (case aO => exact (zR HO_5.out))
 (case aS => exact (below_size (zBG HB.out GE322.out)))
 (case aL => have := LMc51.out; omega)
 intro v347 w56 ho hb hg hat
 rw [← Ny346.out] at ho
 have HO348 := ak (ho)
 replace BK322 := ak (blk_grown (g := gb322) (o := .cells #[.int .i8 a0_0, .int .u8 a0_1, .int .u8 a0_2] 40 (0, 0)) (zK BK322.out) hg (Kd.R_ne HO_5.out BK322.out (by decide)))
 replace HO345 := ak (Kd.R_over' (zR HO345.out) (Kd.R_typed (zR HO_5.out)) (by decide) hg)
 replace HB := ak (hb)
 clear HO_5
 refine hK.out _ _ ⟨(blk_cell BK322.out 0).trans rfl, (blk_cell BK322.out 1).trans rfl, (blk_cell BK322.out 2).trans rfl⟩ (fun hHeld => ?_)
 clear hK K
 refine norm_ (a' := ?_) ?_ ?_
 rotate_left
 {
 show Act.put _ (some 82) _ = _
 simp only [Act.put, zs, zz, zk, i64_w, i32_w]
 rfl
 }
 refine pU 15 5 (bA 16 65535) HT_ ?_
 refine done_ (done_of HT_.out (by kernel_rfl)) ?_
 try go_wp2
 go_roundg k1
 case measure => have := HK1.out; omega
 case rel => exact ⟨(y346), (wrap64 (x65_1 + 1)), (by first | rfl | (simp; done) | (simp [*]; done)), H', ⟨by have := HK1.out; omega⟩, ⟨(zR HO348.out)⟩, ⟨(zK BK322.out)⟩, ⟨zBG HB.out GE322.out⟩⟩
 }
 · rw [if_neg c51] at H; exact absurd H (by simp)
 }
 · rw [if_neg c50] at H; exact absurd H (by simp)
 }
 · rw [if_neg c47] at H; exact absurd H (by simp)
 }
 · rw [if_neg c46] at H; exact absurd H (by simp)
 }
 · rw [if_neg c45] at H; exact absurd H (by simp)
 }
 {
 rw [if_neg c44] at H
 have c44b0 : decide (x65_1 < (wrap64 ((a1.size : Int) + 1))) = false := decide_eq_false c44
 (try (have c44b1 : decide (x65_1 < (IntKind.i64.wrap ((a1.size : Int) + 1))) = false := by first | simpa only [i64_w, i32_w] using (show decide (x65_1 < (wrap64 ((a1.size : Int) + 1))) = false from decide_eq_false c44) | simpa only [i64_w] using (show decide (x65_1 < (wrap64 ((a1.size : Int) + 1))) = false from decide_eq_false c44)))
 clear c44
 obtain rfl := Option.some.inj H
 go_wp2
 go_ret
 exact ⟨_, by first | rfl | (simp [errW_none, errW_some] <;> rfl) | (simp [*, errW_none, errW_some] <;> rfl), by (with_reducible repeat (first | apply Kd.R_alloc | apply Kd.R_drewN | apply Kd.R_drew)); exact HO_5.out, zBG HB.out GE322.out⟩
 }
 )
 )
 }
 {
 rw [if_neg c38] at H
 have c38b0 : (a0_0 == 2) = false := beq_eq_false_iff_ne.mpr c38
 have c38b1 : (a0_0 != 2) = true := bne_iff_ne.mpr c38
 by_cases c57 : a0_0 = 3
 {
 rw [if_pos c57] at H
 have c57b0 : (a0_0 == 3) = true := beq_iff_eq.mpr c57
 have c57b1 : (a0_0 != 3) = false := bne_eq_false_iff_eq.mpr c57
 clear c57
 obtain ⟨ji58, hji58⟩ : ∃ j_ : Int, (wrap64 ((a1.size : Int) - 1)) = j_ := ⟨_, rfl⟩
 first | rw [hji58] at H | simp only [hji58] at H
 (try rw [hji58] at A3)
 have hji58w : (IntKind.i64.wrap ((a1.size : Int) - 1)) = ji58 := (i64_w _).trans hji58
 by_cases c59 : 0 ≤ (ji58)
 {
 rw [if_pos c59] at H
 have c59b0 := eq_true c59
 have c59b1 : decide (0 ≤ (ji58)) = true := decide_eq_true c59
 clear c59
 by_cases c60 : (ji58) ≤ (a1.size : Int)
 {
 rw [if_pos c60] at H
 have c60b0 := eq_true c60
 have c60b1 : decide ((ji58) ≤ (a1.size : Int)) = true := decide_eq_true c60
 clear c60
 by_cases c61 : y324.length < 8796093022208
 {
 rw [if_pos c61] at H
 have LMc61 := ak c61
 clear c61
 obtain ⟨y349, hy349⟩ : ∃ y_ : List ByteArray, y_ = (y324 ++ [a1.extract 0 ((ji58) : Int).toNat]) := ⟨_, rfl⟩
 replace H : (some y349) = some r := by first | (rw [hy349]; with_reducible exact H) | (have H2_ := (Option.bind_some _ _).symm.trans H; rw [hy349]; with_reducible exact H2_) | (have H2_ := (Option.bind_some _ _).symm.trans H; with_reducible exact H2_) | with_reducible exact H | (rw [hy349]; exact H) | exact H
 have Ny349 := ak hy349
 clear hy349
 obtain rfl := Option.some.inj H
 go_enter Tryz.func67, Tryz.ntmps67
 go_wp2_with (first | ((with_reducible refine gate_dst (N := 2) rfl ?_); refine box_event ?hg (N := 2) ?hd (cs := #[.int .i8 a0_0, .int .u8 a0_1, .int .u8 a0_2]) (t := 40) ?hr ?_; (case hd => rfl); (case hg => rfl); (case hr => first | (go_simp; done) | (go_simp; rfl)); intro gb322 hg w62 hbox hb; have BK322 := ak (hbox); have GW322 := gS HB hg; have GE322 := gS HB hg; replace HB := kB HB hb; clear hb hbox hg) | ((with_reducible refine gate_callee (f := 65) rfl ?_); refine goesL_ (some 13) rfl rfl Tryz.func65 (by kernel_rfl) rfl #[.string a1] rfl gl_ ?_; (with_reducible refine (impl_turned.calls a1 t323 _ A3.out).mono ?_); rintro e w63 ⟨rfl, hb⟩; refine ⟨_, rfl, ?_⟩; replace BK322 := kK BK322 hb; replace HB := kB1 HB GE322 hb; (try clear hb)) | ((with_reducible refine gate_dst (N := 14) rfl ?_); refine Kd.R_lit Kd.string _ 9 ?hg (N := 14) ?hd (xs := ([a1, t323] : List ByteArray)) (inner := [.string a1, .string t323]) (ok := fun _ => True) (okp := fun _ => True) ?hr ?hp (fun _ hk => hk) trivial (Below.refl _ _) (Nat.le_refl _) (by simp) ?_; (case hd => rfl); (case hg => rfl); (case hr => first | (go_simp; done) | (go_simp; rfl)); (case hp => exact (Reps.one (show Kd.M Kd.string _ _ _ a1 [.string a1] from rfl) (Reps.one (show Kd.M Kd.string _ _ _ t323 [.string t323] from rfl) (Reps.none _ _)))); intro v325 w64 ho65 hb hg_ hnew_; clear hg_ hnew_; (first | rw [← Ny324.out] at ho65 | (simp only [Int.reduceToNat] at ho65; rw [← Ny324.out] at ho65)); have HO326 := ak (Kd.R_lower ho65 (below_size (zBG HB.out GE322.out))); replace BK322 := kK BK322 hb; replace HB := kB1 HB GE322 hb; clear hb ho65; obtain ⟨hcz66_0, hcz66_1, hcz66_2, hfz66_0, hfz66_1, hfz66_2⟩ := cz3 w64 BK322) | ((with_reducible refine gate_builtin (b := .append) (xs := #[.tmp 86, .tmp 92]) rfl ?_); at_builtin; refine Kd.R_append Kd.string (w0 := w) w.heap.size rfl (.tmp 86) (.tmp 92) 29 9 (.string ⟨#[]⟩) 16 rfl Tryz.underlying29 info9 rfl (by decide) (by omega) v325 y324 (a1.extract 0 ((ji58) : Int).toNat) [.string (a1.extract 0 ((ji58) : Int).toNat)] (fun _ => True) (fun _ => False) rfl rfl ?aP (fun _ hk => hk.elim) ?aF ?aO ?aB ?aS ?aL ?_; (case aP => exact rfl); (case aB => exact (zBG HB.out GE322.out)); (case aF => exact (fun _ _ => trivial)); (case aO => exact (zR HO326.out)); (case aS => exact (below_size (zBG HB.out GE322.out))); (case aL => have := LMc61.out; omega); intro v350 w67 ho hb hg hat; rw [← Ny349.out] at ho; have HO351 := ak (ho); replace BK322 := ak (blk_grown (g := gb322) (o := .cells #[.int .i8 a0_0, .int .u8 a0_1, .int .u8 a0_2] 40 (0, 0)) (zK BK322.out) hg (Kd.R_ne HO326.out BK322.out (by decide))); replace HB := ak (hb); clear HO326 ho hb hg hat))
 go_ret
 exact ⟨_, by first | rfl | (simp [errW_none, errW_some] <;> rfl) | (simp only [← hji58]; first | rfl | (simp [errW_none, errW_some] <;> rfl)) | (simp [*, errW_none, errW_some] <;> rfl), by (with_reducible repeat (first | apply Kd.R_alloc | apply Kd.R_drewN | apply Kd.R_drew)); exact HO351.out, zBG HB.out GE322.out⟩
 }
 · rw [if_neg c61] at H; exact absurd H (by simp)
 }
 · rw [if_neg c60] at H; exact absurd H (by simp)
 }
 · rw [if_neg c59] at H; exact absurd H (by simp)
 }
 {
 rw [if_neg c57] at H
 have c57b0 : (a0_0 == 3) = false := beq_eq_false_iff_ne.mpr c57
 have c57b1 : (a0_0 != 3) = true := bne_iff_ne.mpr c57
 obtain rfl := Option.some.inj H
 go_enter Tryz.func67, Tryz.ntmps67
 go_wp2_with (first | ((with_reducible refine gate_dst (N := 2) rfl ?_); refine box_event ?hg (N := 2) ?hd (cs := #[.int .i8 a0_0, .int .u8 a0_1, .int .u8 a0_2]) (t := 40) ?hr ?_; (case hd => rfl); (case hg => rfl); (case hr => first | (go_simp; done) | (go_simp; rfl)); intro gb322 hg w68 hbox hb; have BK322 := ak (hbox); have GW322 := gS HB hg; have GE322 := gS HB hg; replace HB := kB HB hb; clear hb hbox hg) | ((with_reducible refine gate_callee (f := 65) rfl ?_); refine goesL_ (some 13) rfl rfl Tryz.func65 (by kernel_rfl) rfl #[.string a1] rfl gl_ ?_; (with_reducible refine (impl_turned.calls a1 t323 _ A3.out).mono ?_); rintro e w69 ⟨rfl, hb⟩; refine ⟨_, rfl, ?_⟩; replace BK322 := kK BK322 hb; replace HB := kB1 HB GE322 hb; (try clear hb)) | ((with_reducible refine gate_dst (N := 14) rfl ?_); refine Kd.R_lit Kd.string _ 9 ?hg (N := 14) ?hd (xs := ([a1, t323] : List ByteArray)) (inner := [.string a1, .string t323]) (ok := fun _ => True) (okp := fun _ => True) ?hr ?hp (fun _ hk => hk) trivial (Below.refl _ _) (Nat.le_refl _) (by simp) ?_; (case hd => rfl); (case hg => rfl); (case hr => first | (go_simp; done) | (go_simp; rfl)); (case hp => exact (Reps.one (show Kd.M Kd.string _ _ _ a1 [.string a1] from rfl) (Reps.one (show Kd.M Kd.string _ _ _ t323 [.string t323] from rfl) (Reps.none _ _)))); intro v325 w70 ho71 hb hg_ hnew_; clear hg_ hnew_; (first | rw [← Ny324.out] at ho71 | (simp only [Int.reduceToNat] at ho71; rw [← Ny324.out] at ho71)); have HO326 := ak (Kd.R_lower ho71 (below_size (zBG HB.out GE322.out))); replace BK322 := kK BK322 hb; replace HB := kB1 HB GE322 hb; clear hb ho71; obtain ⟨hcz72_0, hcz72_1, hcz72_2, hfz72_0, hfz72_1, hfz72_2⟩ := cz3 w70 BK322))
 go_ret
 exact ⟨_, by first | rfl | (simp [errW_none, errW_some] <;> rfl) | (simp [*, errW_none, errW_some] <;> rfl), by (with_reducible repeat (first | apply Kd.R_alloc | apply Kd.R_drewN | apply Kd.R_drew)); exact HO326.out, zBG HB.out GE322.out⟩
 }
 }
 }
end Go.Proofs.YtobickehjnogjaaGreatDoor.P
