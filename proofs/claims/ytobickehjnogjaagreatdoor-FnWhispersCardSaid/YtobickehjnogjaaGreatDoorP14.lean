-- Printed by wip/print (my turned copy of the kit's print) out of the translation; Lean checks it.
import Derived.Test.YtobickehjnogjaaGreatDoorP0
import Derived.Test.YtobickehjnogjaaGreatDoorP6
import Derived.Test.YtobickehjnogjaaGreatDoorP13
namespace Go.Proofs.YtobickehjnogjaaGreatDoor.P
open Go.RowKit Go.Proofs.YtobickehjnogjaaGreatDoorW.PrintWords Go.Proofs.YtobickehjnogjaaGreatDoorW.PrintLast Go.Proofs.YtobickehjnogjaaGreatDoorW.PrintMore
attribute [local go_sem] max2_int min2_int max_two min_two max_three min_three max_four min_four   -- for this text's walks alone
set_option linter.unusedVariables false
set_option linter.unusedSimpArgs false

/-! ### spec_l04Pasts: function 46 -/
mutual
def spec_l04Pasts.j1 : Nat → ByteArray → List ByteArray → Int → Int → Int → Option (List ByteArray × Bool)
  | 0, _, _, _, _, _ => none
  | k + 1, x1, x6, x174000, x174001, x174002 => if x174000 = 1 then (spec_l04Pasts.l1 k x1 (([] : List ByteArray)) (([] : List Int)) 0 x174000 x174001 x174002) else (some (x6, decide ((x6.length : Int) ≤ 300)))
def spec_l04Pasts.l1 : Nat → ByteArray → List ByteArray → List Int → Int → Int → Int → Int → Option (List ByteArray × Bool)
  | 0, _, _, _, _, _, _, _ => none
  | k + 1, x1, x6, x8, x9, x174000, x174001, x174002 => if x9 < (x1.size : Int) then (if 0 ≤ x9 then (if (bt x1 x9) = x174002 then (if x8.length < 17592186044416 then (if (bt x1 x9) = x174001 then (some (x6, true)) else (spec_l04Pasts.l1 k x1 x6 (x8 ++ [x9]) (wrap64 (x9 + 1)) x174000 x174001 x174002)) else (none)) else (if (bt x1 x9) = x174001 then (some (x6, true)) else (spec_l04Pasts.l1 k x1 x6 x8 (wrap64 (x9 + 1)) x174000 x174001 x174002))) else (none)) else (if (x8.length : Int) > 8 then (some (x6, false)) else (spec_l04Pasts.l2 k x1 x6 x8 0 x174000 x174001 x174002))
def spec_l04Pasts.l2 : Nat → ByteArray → List ByteArray → List Int → Int → Int → Int → Int → Option (List ByteArray × Bool)
  | 0, _, _, _, _, _, _, _ => none
  | k + 1, x1, x6, x8, x10, x174000, x174001, x174002 => if 0 ≤ (IntKind.u64.wrap ((x8.length : Int))) then (if x10 < (shl .i64 1 (IntKind.u64.wrap ((x8.length : Int)))) then (if 0 ≤ (x1.size : Int) then (if ((x1.size : Int) : Int).toNat ≤ 281474976710656 then (spec_l04Pasts.l3 k x1 x6 x8 x10 (bytesOf x1) 0 x174000 x174001 x174002) else (none)) else (none)) else (some (x6, decide ((x6.length : Int) ≤ 300)))) else (none)
def spec_l04Pasts.l3 : Nat → ByteArray → List ByteArray → List Int → Int → List Int → Int → Int → Int → Int → Option (List ByteArray × Bool)
  | 0, _, _, _, _, _, _, _, _, _ => none
  | k + 1, x1, x6, x8, x10, x11, x12, x174000, x174001, x174002 => if x12 < (x8.length : Int) then (if 0 ≤ (IntKind.u64.wrap (x12)) then (if (Go.bits .and .i64 (shr .i64 x10 (IntKind.u64.wrap (x12))) 1) = 1 then (if 0 ≤ x12 then (if 0 ≤ (rd x8 x12) then (if (rd x8 x12) < (x11.length : Int) then (spec_l04Pasts.l3 k x1 x6 x8 x10 (x11.set ((rd x8 x12) : Int).toNat x174001) (wrap64 (x12 + 1)) x174000 x174001 x174002) else (none)) else (none)) else (none)) else (spec_l04Pasts.l3 k x1 x6 x8 x10 x11 (wrap64 (x12 + 1)) x174000 x174001 x174002)) else (none)) else ((spec_l04Put.f k x6 (strOfNums x11)).bind fun t207 => (spec_l04Pasts.l2 k x1 t207 x8 (wrap64 (x10 + 1)) x174000 x174001 x174002))
def spec_l04Pasts.l0 : Nat → ByteArray → List ByteArray → Int → Int → Int → Int → Option (List ByteArray × Bool)
  | 0, _, _, _, _, _, _ => none
  | k + 1, x1, x6, x7, x174000, x174001, x174002 => if x7 ≤ (x1.size : Int) then (if 0 ≤ x7 then ((some (([x174001] : List Int) : List Int)).bind fun y187 => (if (x1.extract 0 (x7 : Int).toNat).size + (strOfNums y187).size ≤ 9223372036854775807 then (if (x1.extract 0 (x7 : Int).toNat).size + (strOfNums y187).size + (x1.extract (x7 : Int).toNat x1.size).size ≤ 9223372036854775807 then ((spec_l04Tried.f k x6 x174000 x174001 x174002 (((x1.extract 0 (x7 : Int).toNat) ++ (strOfNums y187)) ++ (x1.extract (x7 : Int).toNat x1.size)) x1).bind fun t190 => (spec_l04Pasts.l0 k x1 t190 (wrap64 (x7 + 1)) x174000 x174001 x174002)) else (none)) else (none))) else (none)) else (spec_l04Pasts.j1 k x1 x6 x174000 x174001 x174002)
end
def spec_l04Pasts.f (k : Nat) (a0_0 : Int) (a0_1 : Int) (a0_2 : Int) (a1 : ByteArray) : Option (List ByteArray × Bool) := (spec_l04Tried.f k (([] : List ByteArray)) a0_0 a0_1 a0_2 a1 a1).bind fun t177 => ((spec_l04Turn.f k a1).bind fun t180 => ((spec_l04Tried.f k t177 a0_0 a0_1 a0_2 t180 a1).bind fun t181 => (if 0 ≤ (wrap64 ((a1.size : Int) - 1)) then (if (wrap64 ((a1.size : Int) - 1)) ≤ (a1.size : Int) then ((spec_l04Tried.f k t181 a0_0 a0_1 a0_2 (a1.extract 0 ((wrap64 ((a1.size : Int) - 1)) : Int).toNat) a1).bind fun t184 => (if a0_0 = 2 then (spec_l04Pasts.l0 k a1 t184 0 a0_0 a0_1 a0_2) else (spec_l04Pasts.j1 k a1 t184 a0_0 a0_1 a0_2))) else (none)) else (none))))
def spec_l04Pasts.T3 : Bool × List (List Nat × List Nat) := (true, [([], []), ([], []), ([], []), ([], []), ([3], [3]), ([4], [4]), ([2, 5], [2, 5]), ([], []), ([0, 1, 6, 7], [0, 1, 6, 7]), ([8, 8, 0, 1, 2, 3, 4, 5, 6, 7, 8], [0, 8])])
def spec_l04Pasts.B3 : List Nat := [0, 0, 0, 0, 8, 24, 60, 0, 255, 511]
theorem spec_l04Pasts.tab3 : rtab .any (opsOf Tryz.f46 3) = spec_l04Pasts.T3 := by kernel_rfl
theorem spec_l04Pasts.bits3 : waitsOk spec_l04Pasts.T3.2 spec_l04Pasts.B3 = true := by kernel_rfl
def spec_l04Pasts.T8 : Bool × List (List Nat × List Nat) := (true, [([], []), ([], []), ([], []), ([], []), ([2, 3], [2, 3]), ([], []), ([5], [5]), ([6], [6]), ([7], [7]), ([4, 8], [4, 8]), ([], []), ([], []), ([10, 11], [10, 11]), ([9, 12], [9, 12]), ([], []), ([0, 1, 13, 14], [0, 1, 13, 14]), ([15, 15, 0, 1, 2, 3, 4, 5, 6, 7, 8, 9, 10, 11, 12, 13, 14, 15], [0, 15])])
def spec_l04Pasts.B8 : List Nat := [0, 0, 0, 0, 12, 0, 32, 96, 224, 508, 0, 0, 3072, 8188, 0, 32767, 65535]
theorem spec_l04Pasts.tab8 : rtab .any (opsOf Tryz.f46 8) = spec_l04Pasts.T8 := by kernel_rfl
theorem spec_l04Pasts.bits8 : waitsOk spec_l04Pasts.T8.2 spec_l04Pasts.B8 = true := by kernel_rfl
def spec_l04Pasts.T29 : Bool × List (List Nat × List Nat) := (true, [([], []), ([], []), ([], []), ([1, 2], [1, 2]), ([3], [3]), ([], []), ([5], [5]), ([0, 4, 0, 1, 2, 3, 4, 5, 6], [0, 4]), ([7, 6, 0, 1, 2, 3, 4, 5, 6], [6, 7])])
def spec_l04Pasts.B29 : List Nat := [0, 0, 0, 6, 14, 0, 32, 127, 255]
theorem spec_l04Pasts.tab29 : rtab .any (opsOf Tryz.f46 29) = spec_l04Pasts.T29 := by kernel_rfl
theorem spec_l04Pasts.bits29 : waitsOk spec_l04Pasts.T29.2 spec_l04Pasts.B29 = true := by kernel_rfl
set_option maxHeartbeats 8000000 in
set_option maxRecDepth 100000 in
theorem spec_l04Pasts.calls (k : Nat) (a0_0 : Int) (a0_1 : Int) (a0_2 : Int) (a1 : ByteArray) (r1 : List ByteArray) (r2 : Bool) (w : World) (h : spec_l04Pasts.f k a0_0 a0_1 a0_2 a1 = some (r1, r2)) :
    Calls Tryz.prog 46 #[.agg #[.int .i8 a0_0, .int .u8 a0_1, .int .u8 a0_2], .string a1] w fun e w' => ∃ v0_ : Value, e = .returned (.tuple #[v0_, .bool r2]) ∧ Kd.R Kd.string 9 w' w.heap.size (fun _ => True) v0_ r1 ∧ Below w.heap.size w w' := by
 have hu28 := Tryz.underlying40
 have HB := ak (Below.refl w.heap.size w)
 have H := h
 unfold spec_l04Pasts.f at H
 clear h
 obtain ⟨y174, hy174⟩ : ∃ y_ : List ByteArray, y_ = (([] : List ByteArray)) := ⟨_, rfl⟩
 replace H : ((spec_l04Tried.f k y174 a0_0 a0_1 a0_2 a1 a1).bind fun t177 => ((spec_l04Turn.f k a1).bind fun t180 => ((spec_l04Tried.f k t177 a0_0 a0_1 a0_2 t180 a1).bind fun t181 => (if 0 ≤ (wrap64 ((a1.size : Int) - 1)) then (if (wrap64 ((a1.size : Int) - 1)) ≤ (a1.size : Int) then ((spec_l04Tried.f k t181 a0_0 a0_1 a0_2 (a1.extract 0 ((wrap64 ((a1.size : Int) - 1)) : Int).toNat) a1).bind fun t184 => (if a0_0 = 2 then (spec_l04Pasts.l0 k a1 t184 0 a0_0 a0_1 a0_2) else (spec_l04Pasts.j1 k a1 t184 a0_0 a0_1 a0_2))) else (none)) else (none))))) = some (r1, r2) := by first | (rw [hy174]; with_reducible exact H) | (have H2_ := (Option.bind_some _ _).symm.trans H; rw [hy174]; with_reducible exact H2_) | (have H2_ := (Option.bind_some _ _).symm.trans H; with_reducible exact H2_) | with_reducible exact H | (rw [hy174]; exact H) | exact H
 have Ny174 := ak hy174
 clear hy174
 replace H := Option.bind_eq_some_iff.mp H
 obtain ⟨t177, A30, H⟩ := H
 have A3 := ak A30
 clear A30
 replace H := Option.bind_eq_some_iff.mp H
 obtain ⟨t180, A40, H⟩ := H
 have A4 := ak A40
 clear A40
 replace H := Option.bind_eq_some_iff.mp H
 obtain ⟨t181, A50, H⟩ := H
 have A5 := ak A50
 clear A50
 obtain ⟨ji6, hji6⟩ : ∃ j_ : Int, (wrap64 ((a1.size : Int) - 1)) = j_ := ⟨_, rfl⟩
 first | rw [hji6] at H | simp only [hji6] at H
 (try rw [hji6] at A3)
 (try rw [hji6] at A4)
 (try rw [hji6] at A5)
 have hji6w : (IntKind.i64.wrap ((a1.size : Int) - 1)) = ji6 := (i64_w _).trans hji6
 by_cases c7 : 0 ≤ (ji6)
 {
 rw [if_pos c7] at H
 have c7b0 := eq_true c7
 have c7b1 : decide (0 ≤ (ji6)) = true := decide_eq_true c7
 clear c7
 by_cases c8 : (ji6) ≤ (a1.size : Int)
 {
 rw [if_pos c8] at H
 have c8b0 := eq_true c8
 have c8b1 : decide ((ji6) ≤ (a1.size : Int)) = true := decide_eq_true c8
 clear c8
 replace H := Option.bind_eq_some_iff.mp H
 obtain ⟨t184, A90, H⟩ := H
 have A9 := ak A90
 clear A90
 have HC10 := ak H
 clear H
 go_enter Tryz.func46, Tryz.ntmps46
 try go_wp2_with (first | ((with_reducible refine gate_dst (N := 2) rfl ?_); refine box_event ?hg (N := 2) ?hd (cs := #[.int .i8 a0_0, .int .u8 a0_1, .int .u8 a0_2]) (t := 40) ?hr ?_; (case hd => rfl); (case hg => rfl); (case hr => first | (go_simp; done) | (go_simp; rfl)); intro gb173 hg w11 hbox hb; have n0_ := ak (below_step (zB HB.out) hb); have n1_ := ak (hbox); have n2_ := gS HB hg; have n3_ := gS HB hg; clear HB; have HB := n0_; have BK173 := n1_; have GW173 := n2_; have GE173 := n3_; clear n0_ n1_ n2_ n3_; clear hb hbox hg) | ((with_reducible refine gate_dst (N := 13) rfl ?_); refine Kd.R_lit Kd.string _ 9 ?hg (N := 13) ?hd (xs := ([] : List ByteArray)) (inner := []) (ok := fun _ => True) (okp := fun _ => True) ?hr ?hp (fun _ hk => hk) trivial (Below.refl _ _) (Nat.le_refl _) (by simp) ?_; (case hd => rfl); (case hg => rfl); (case hr => first | (go_simp; done) | (go_simp; rfl)); (case hp => exact (Reps.none _ _)); intro v175 w12 ho13 hb hg_ hnew_; clear hg_ hnew_; (first | rw [← Ny174.out] at ho13 | (simp only [Int.reduceToNat] at ho13; rw [← Ny174.out] at ho13)); have n0_ := ak (Kd.R_lower ho13 (below_size (zBG HB.out GE173.out))); have n1_ := ak (blk_below (g := gb173) (o := .cells #[.int .i8 a0_0, .int .u8 a0_1, .int .u8 a0_2] 40 (0, 0)) (zK BK173.out) hb); have n2_ := ak (below_step (zBG HB.out GE173.out) hb); clear BK173 HB; have HO176 := n0_; have BK173 := n1_; have HB := n2_; clear n0_ n1_ n2_; clear hb ho13; have hcz14_0 : w12.cell? ⟨gb173, 0, none⟩ = some (.int .i8 a0_0) := (blk_cell BK173.out 0).trans rfl; have hcz14_1 : w12.cell? ⟨gb173, 1, none⟩ = some (.int .u8 a0_1) := (blk_cell BK173.out 1).trans rfl; have hcz14_2 : w12.cell? ⟨gb173, 2, none⟩ = some (.int .u8 a0_2) := (blk_cell BK173.out 2).trans rfl; have hfz14_0 := blk_frozen BK173.out 0; have hfz14_1 := blk_frozen BK173.out 1; have hfz14_2 := blk_frozen BK173.out 2; obtain ⟨Ao15, co15, eo15⟩ := Kd.R_slice HO176.out; subst eo15) | ((with_reducible refine gate_callee (f := 69) rfl ?_); refine goesL_ (some 17) rfl rfl Tryz.func69 (by kernel_rfl) rfl #[.slice Ao15 y174.length co15, .agg #[.int .i8 a0_0, .int .u8 a0_1, .int .u8 a0_2], .string a1, .string a1] rfl gl_ ?_; (with_reducible refine (spec_l04Tried.calls k (fun k_ => some k_ = (.slice Ao15 y174.length co15 : Value).ownBlock) (.slice Ao15 y174.length co15) y174 a0_0 a0_1 a0_2 a1 a1 t177 w _ ?side1 ?side2 A3.out).mono ?_); (case side1 => repeat (first | (with_reducible first | exact HB.out | apply below_alloc | apply pw_below_drewN | apply below_drew1 | refine below_set ?_ GE173.out) | exact HB.out)); (case side2 => exact Kd.R_tight rfl HO176.out); rintro e w16 ⟨v178, rfl, ho0, hb, hkp⟩; refine ⟨_, rfl, ?_⟩; have n0_ := ak (blk_kept (zK BK173.out) hkp (fun hs_ => (fun e_ => (Kd.R_ne HO176.out BK173.out (by decide)) e_) hs_)); have n1_ := ak (Kd.R_mono (ok' := fun k_ => True) ho0 (fun k_ hk_ => trivial)); have n2_ := ak (hb); clear BK173 HB HO176; have BK173 := n0_; have HO179 := n1_; have HB := n2_; clear n0_ n1_ n2_; (try clear hb); (try clear hkp); (try clear ho0)))
 replace HO179 := ak (Kd.R_drew HO179.out)
 replace BK173 := ak (blk_drew BK173.out)
 replace HB := ak (below_drew1 HB.out)
 refine start_ (n := 7) (S := fun w' => w'.cell? ⟨gb173, 0, none⟩ = some (.int .i8 a0_0) ∧ w'.cell? ⟨gb173, 1, none⟩ = some (.int .u8 a0_1) ∧ w'.cell? ⟨gb173, 2, none⟩ = some (.int .u8 a0_2)) (ds := []) (bA 7 0) (by kernel_rfl) rfl rfl ⟨(blk_cell BK173.out 0).trans rfl, (blk_cell BK173.out 1).trans rfl, (blk_cell BK173.out 2).trans rfl⟩ (fun hHeld => ?_)
 generalize w16.drew = w17 at HO179 BK173 HB hHeld ⊢
 refine pure_ (i := 0) (N := some 18) (v := ?_) (a' := ?_) (bA 7 1) rfl rfl (by kernel_rfl) (fun _ _ _ h => h) (Or.inl ⟨by rfl, ?_⟩) ?_ ?_
 rotate_left
 {
 intro w'
 go_simp
 with_reducible rfl
 }
 rotate_left
 · simp only [Act.put, zs, zz, zk, i64_w, i32_w]; rfl
 refine pure_ (i := 2) (N := some 20) (v := ?_) (a' := ?_) (bA 7 5) rfl rfl (by kernel_rfl) (fun _ _ _ h => h) (Or.inl ⟨by rfl, ?_⟩) ?_ ?_
 rotate_left
 {
 intro w'
 go_simp
 with_reducible rfl
 }
 rotate_left
 · simp only [Act.put, zs, zz, zk, i64_w, i32_w]; rfl
 refine pure_ (i := 4) (N := some 22) (v := ?_) (a' := ?_) (bA 7 21) rfl rfl (by kernel_rfl) (fun _ _ _ h => h) (Or.inl ⟨by rfl, ?_⟩) ?_ ?_
 rotate_left
 {
 intro w'
 go_simp
 with_reducible rfl
 }
 rotate_left
 · simp only [Act.put, zs, zz, zk, i64_w, i32_w]; rfl
 refine take_ (i := 1) (N := some 19) (v := ?_) (a' := ?_) (bA 7 23) rfl rfl (by kernel_rfl) (fun _ _ _ h => h) (Or.inl ⟨by rfl, ?_⟩) hHeld ?_ ?_
 rotate_left
 {
 rintro w' ⟨s0, s1, s2⟩
 go_simp
 with_reducible rfl
 }
 rotate_left
 · simp only [Act.put, zs, zz, zk, i64_w, i32_w]; rfl
 refine one_ (i := 3) (N := some 21) (bA 7 31) rfl rfl (by kernel_rfl) (by decide) (fun K hK => ?_)
 refine goes_ Tryz.func70 (by kernel_rfl) rfl #[.string a1] (by rfl) rfl rfl gl_ ?_
 with_reducible refine (spec_l04Turn.calls k a1 t180 _ A4.out).mono ?_
 rintro e w18 ⟨rfl, hb⟩
 refine ⟨_, rfl, ?_⟩
 replace HO179 := kR HO179 hb
 replace BK173 := kK BK173 hb
 replace HB := kB1 HB GE173 hb
 (try clear hb)
 obtain ⟨Ao19, co19, eo19⟩ := Kd.R_slice HO179.out
 (first | subst eo19 | (injection eo19 with f1_ f2_ f3_; have f4_ := f1_.symm; have f5_ := f3_.symm; clear f1_ f2_ f3_; subst f4_; subst f5_))
 refine hK.out _ _ ⟨(blk_cell BK173.out 0).trans rfl, (blk_cell BK173.out 1).trans rfl, (blk_cell BK173.out 2).trans rfl⟩ (fun hHeld => ?_)
 clear hK K
 refine norm_ (a' := ?_) ?_ ?_
 rotate_left
 {
 show Act.put _ (some 21) _ = _
 simp only [Act.put, zs, zz, zk, i64_w, i32_w]
 rfl
 }
 refine one_ (i := 5) (N := some 23) (bA 7 63) rfl rfl (by kernel_rfl) (by decide) (fun K hK => ?_)
 refine goes_ Tryz.func69 (by kernel_rfl) rfl #[.slice Ao19 t177.length co19, .agg #[.int .i8 a0_0, .int .u8 a0_1, .int .u8 a0_2], .string t180, .string a1] (by rfl) rfl rfl gl_ ?_
 with_reducible refine (spec_l04Tried.calls k (fun k_ => some k_ = (.slice Ao19 t177.length co19 : Value).ownBlock) (.slice Ao19 t177.length co19) t177 a0_0 a0_1 a0_2 t180 a1 t181 w _ ?side1 ?side2 A5.out).mono ?_
 (case side1 => repeat (first | (with_reducible first | exact HB.out | apply below_alloc | apply pw_below_drewN | apply below_drew1 | refine below_set ?_ GE173.out) | exact HB.out))
 (case side2 => exact Kd.R_tight rfl HO179.out)
 rintro e w20 ⟨v182, rfl, ho0, hb, hkp⟩
 refine ⟨_, rfl, ?_⟩
 have HO183 := ak (Kd.R_mono (ok' := fun k_ => True) ho0 (fun k_ hk_ => trivial))
 replace BK173 := ak (blk_kept (zK BK173.out) hkp (fun hs_ => (fun e_ => (Kd.R_ne HO179.out BK173.out (by decide)) e_) hs_))
 replace HB := ak (hb)
 clear HO179
 (try clear hb)
 (try clear hkp)
 (try clear ho0)
 refine hK.out _ _ ⟨(blk_cell BK173.out 0).trans rfl, (blk_cell BK173.out 1).trans rfl, (blk_cell BK173.out 2).trans rfl⟩ (fun hHeld => ?_)
 clear hK K
 refine norm_ (a' := ?_) ?_ ?_
 rotate_left
 {
 show Act.put _ (some 23) _ = _
 simp only [Act.put, zs, zz, zk, i64_w, i32_w]
 rfl
 }
 refine pure_ (i := 6) (N := some 6) (v := ?_) (a' := ?_) (bA 7 127) rfl rfl (by kernel_rfl) (fun _ _ _ h => h) (Or.inl ⟨by rfl, ?_⟩) ?_ ?_
 rotate_left
 {
 intro w'
 go_simp
 with_reducible rfl
 }
 rotate_left
 · simp only [Act.put, zs, zz, zk, i64_w, i32_w]; rfl
 refine done_ (by kernel_rfl) ?_
 try go_wp2
 replace HO183 := ak (Kd.R_drew HO183.out)
 replace BK173 := ak (blk_drew BK173.out)
 replace HB := ak (below_drew1 HB.out)
 obtain ⟨Ao22, co22, eo22⟩ := Kd.R_slice HO183.out
 (first | subst eo22 | (injection eo22 with f1_ f2_ f3_; have f4_ := f1_.symm; have f5_ := f3_.symm; clear f1_ f2_ f3_; subst f4_; subst f5_))
 refine start_ (n := 10) (S := fun w' => w'.cell? ⟨gb173, 0, none⟩ = some (.int .i8 a0_0) ∧ w'.cell? ⟨gb173, 1, none⟩ = some (.int .u8 a0_1) ∧ w'.cell? ⟨gb173, 2, none⟩ = some (.int .u8 a0_2)) (ds := []) (bA 10 0) (by kernel_rfl) rfl rfl ⟨(blk_cell BK173.out 0).trans rfl, (blk_cell BK173.out 1).trans rfl, (blk_cell BK173.out 2).trans rfl⟩ (fun hHeld => ?_); refine with_tabW spec_l04Pasts.tab3 spec_l04Pasts.bits3 (fun HT_ HW_ => ?_)
 generalize w20.drew = w21 at HO183 BK173 HB hHeld ⊢
 refine pU 0 24 (bA 10 1) HT_ ?_
 refine pU 2 26 (bA 10 5) HT_ ?_
 refine pU 3 27 (bA 10 13) HT_ ?_
 refine pU 4 28 (bA 10 29) HT_ ?_
 refine pU 5 29 (bA 10 61) HT_ ?_
 refine pU 6 30 (bA 10 125) HT_ ?_
 refine pU 7 31 (bA 10 253) HT_ ?_
 refine tK 1 25 (bA 10 255) HT_ HW_ hHeld ?_
 refine one_ (i := 8) (N := some 32) (bA 10 511) rfl rfl (one_of HT_.out (by kernel_rfl)) (by decide) (fun K hK => ?_)
 refine goes_ Tryz.func69 (by kernel_rfl) rfl #[.slice Ao22 t181.length co22, .agg #[.int .i8 a0_0, .int .u8 a0_1, .int .u8 a0_2], .string (a1.extract 0 ((ji6) : Int).toNat), .string a1] (by rfl) rfl rfl (by (try simp only [List.map_toArray, List.map_cons, List.map_nil]); first | done | (simp only [hji6]; rfl) | rfl | (simp only [List.length_drop, List.length_take]; rfl)) ?_
 with_reducible refine (spec_l04Tried.calls k (fun k_ => some k_ = (.slice Ao22 t181.length co22 : Value).ownBlock) (.slice Ao22 t181.length co22) t181 a0_0 a0_1 a0_2 (a1.extract 0 ((ji6) : Int).toNat) a1 t184 w _ ?side1 ?side2 A9.out).mono ?_
 (case side1 => repeat (first | (with_reducible first | exact HB.out | apply below_alloc | apply pw_below_drewN | apply below_drew1 | refine below_set ?_ GE173.out) | exact HB.out))
 (case side2 => exact Kd.R_tight rfl HO183.out)
 rintro e w23 ⟨v185, rfl, ho0, hb, hkp⟩
 refine ⟨_, rfl, ?_⟩
 have HO186 := ak (Kd.R_mono (ok' := fun k_ => True) ho0 (fun k_ hk_ => trivial))
 replace BK173 := ak (blk_kept (zK BK173.out) hkp (fun hs_ => (fun e_ => (Kd.R_ne HO183.out BK173.out (by decide)) e_) hs_))
 replace HB := ak (hb)
 clear HO183
 (try clear hb)
 (try clear hkp)
 (try clear ho0)
 refine hK.out _ _ ⟨(blk_cell BK173.out 0).trans rfl, (blk_cell BK173.out 1).trans rfl, (blk_cell BK173.out 2).trans rfl⟩ (fun hHeld => ?_)
 clear hK K
 refine norm_ (a' := ?_) ?_ ?_
 rotate_left
 {
 show Act.put _ (some 32) _ = _
 simp only [Act.put, zs, zz, zk, i64_w, i32_w]
 rfl
 }
 refine pU 9 6 (bA 10 1023) HT_ ?_
 refine done_ (done_of HT_.out (by kernel_rfl)) ?_
 have hcz24_0 : w23.cell? ⟨gb173, 0, none⟩ = some (.int .i8 a0_0) := (blk_cell BK173.out 0).trans rfl
 have hcz24_1 : w23.cell? ⟨gb173, 1, none⟩ = some (.int .u8 a0_1) := (blk_cell BK173.out 1).trans rfl
 have hcz24_2 : w23.cell? ⟨gb173, 2, none⟩ = some (.int .u8 a0_2) := (blk_cell BK173.out 2).trans rfl
 have hfz24_0 := blk_frozen BK173.out 0
 have hfz24_1 := blk_frozen BK173.out 1
 have hfz24_2 := blk_frozen BK173.out 2
 go_upto_if 35 with (fail)
 go_cut [6] (fun v6 wc => ∃ (kq : Nat) (x6_9 : List ByteArray), Aside0 (spec_l04Pasts.j1 kq a1 x6_9 a0_0 a0_1 a0_2 = some (r1, r2)) ∧ Aside0 (kq ≤ k) ∧ Aside0 (Kd.R Kd.string 9 wc w.heap.size (fun _ => True) v6 x6_9) ∧ Aside0 (wc.heap[gb173]? = some (.cells #[.int .i8 a0_0, .int .u8 a0_1, .int .u8 a0_2] 40 (0, 0))) ∧ Aside0 (Below w.heap.size w wc))
 case first => (
 have H := HC10.out
 clear HC10
 by_cases c25 : a0_0 = 2
 {
 rw [if_pos c25] at H
 have c25b0 : (a0_0 == 2) = true := beq_iff_eq.mpr c25
 have c25b1 : (a0_0 != 2) = false := bne_eq_false_iff_eq.mpr c25
 clear c25
 (first | rw [c25b0] | (simp only [i64_w, i32_w]; rw [c25b0]) | skip)
 have H' := ak H
 clear H
 go_wp2
 go_loopg [6, 7] k (fun kq v6 v7 w' => ∃ (x6_1 : List ByteArray) (x7_1 : Int), v7 = .int .i64 x7_1 ∧ Aside0 (spec_l04Pasts.l0 kq a1 x6_1 x7_1 a0_0 a0_1 a0_2 = some (r1, r2)) ∧ Aside0 (kq ≤ k) ∧ Aside0 (Kd.R Kd.string 9 w' w.heap.size (fun _ => True) v6 x6_1) ∧ Aside0 (w'.heap[gb173]? = some (.cells #[.int .i8 a0_0, .int .u8 a0_1, .int .u8 a0_2] 40 (0, 0))) ∧ Aside0 (Below w.heap.size w w'))
 case atStart => exact ⟨(t184), (0), (by first | rfl | (simp; done) | (simp [*]; done)), H', ⟨Nat.le_refl _⟩, ⟨(zR HO186.out)⟩, ⟨(zK BK173.out)⟩, ⟨zBG HB.out GE173.out⟩⟩
 case round => (
 clear H'
 try clear c7
 try clear c7b0
 try clear c7b1
 try clear c8
 try clear c8b0
 try clear c8b1
 try clear c25
 try clear c25b0
 try clear c25b1
 try clear hcz14_0
 try clear hcz14_1
 try clear hcz14_2
 try clear hcz24_0
 try clear hcz24_1
 try clear hcz24_2
 try clear hfz14_0
 try clear hfz14_1
 try clear hfz14_2
 try clear hfz24_0
 try clear hfz24_1
 try clear hfz24_2
 obtain ⟨x6_1, x7_1, rfl, HA, HK1, HO_6, BK173, HB⟩ := hrel
 cases gk with
 | zero => exact absurd HA.out (by simp [spec_l04Pasts.l0])
 | succ k1 => (
 have H := HA.out
 clear HA
 simp only [spec_l04Pasts.l0] at H
 by_cases c26 : x7_1 ≤ (a1.size : Int)
 {
 rw [if_pos c26] at H
 have c26b0 : decide (x7_1 ≤ (a1.size : Int)) = true := decide_eq_true c26
 clear c26
 by_cases c27 : 0 ≤ x7_1
 {
 rw [if_pos c27] at H
 have c27b0 := eq_true c27
 have c27b1 : decide (0 ≤ x7_1) = true := decide_eq_true c27
 clear c27
 have c28b0 := eq_true (of_decide_eq_true (by first | (with_reducible assumption) | assumption) : x7_1 ≤ (a1.size : Int))
 obtain ⟨y187, hy187⟩ : ∃ y_ : List Int, y_ = (([a0_1] : List Int)) := ⟨_, rfl⟩
 replace H : (if (a1.extract 0 (x7_1 : Int).toNat).size + (strOfNums y187).size ≤ 9223372036854775807 then (if (a1.extract 0 (x7_1 : Int).toNat).size + (strOfNums y187).size + (a1.extract (x7_1 : Int).toNat a1.size).size ≤ 9223372036854775807 then ((spec_l04Tried.f k1 x6_1 a0_0 a0_1 a0_2 (((a1.extract 0 (x7_1 : Int).toNat) ++ (strOfNums y187)) ++ (a1.extract (x7_1 : Int).toNat a1.size)) a1).bind fun t190 => (spec_l04Pasts.l0 k1 a1 t190 (wrap64 (x7_1 + 1)) a0_0 a0_1 a0_2)) else (none)) else (none)) = some (r1, r2) := by first | (rw [hy187]; with_reducible exact H) | (have H2_ := (Option.bind_some _ _).symm.trans H; rw [hy187]; with_reducible exact H2_) | (have H2_ := (Option.bind_some _ _).symm.trans H; with_reducible exact H2_) | with_reducible exact H | (rw [hy187]; exact H) | exact H
 have Ny187 := ak hy187
 clear hy187
 by_cases c29 : (a1.extract 0 (x7_1 : Int).toNat).size + (strOfNums y187).size ≤ 9223372036854775807
 {
 rw [if_pos c29] at H
 have c29b0 := eq_true c29
 have c29b1 : decide ((a1.extract 0 (x7_1 : Int).toNat).size + (strOfNums y187).size ≤ 9223372036854775807) = true := decide_eq_true c29
 try have c29b2 : (9223372036854775807 < (a1.extract 0 (x7_1 : Int).toNat).size + (strOfNums y187).size) = False := eq_false (Nat.not_lt.2 c29)
 have c30b0 := eq_true (of_decide_eq_true (by first | (with_reducible assumption) | assumption) : 0 ≤ x7_1)
 have c31b0 := eq_true (of_decide_eq_true (by first | (with_reducible assumption) | assumption) : x7_1 ≤ (a1.size : Int))
 by_cases c32 : (a1.extract 0 (x7_1 : Int).toNat).size + (strOfNums y187).size + (a1.extract (x7_1 : Int).toNat a1.size).size ≤ 9223372036854775807
 {
 rw [if_pos c32] at H
 have c32b0 := eq_true c32
 have c32b1 : decide ((a1.extract 0 (x7_1 : Int).toNat).size + (strOfNums y187).size + (a1.extract (x7_1 : Int).toNat a1.size).size ≤ 9223372036854775807) = true := decide_eq_true c32
 try have c32b2 : (9223372036854775807 < (a1.extract 0 (x7_1 : Int).toNat).size + (strOfNums y187).size + (a1.extract (x7_1 : Int).toNat a1.size).size) = False := eq_false (Nat.not_lt.2 c32)
 have ez32 : (a1.extract 0 (x7_1 : Int).toNat).size = x7_1.toNat := by have := of_eq_true c31b0; rw [ByteArray.size_extract]; omega
 have c29b3 : (9223372036854775807 < x7_1.toNat + (strOfNums y187).size) = False := eq_false (by have := of_eq_true c29b0; rw [ez32] at this; omega)
 have c32b3 : (9223372036854775807 < x7_1.toNat + (strOfNums y187).size + (a1.size - x7_1.toNat)) = False := eq_false (by have := of_eq_true c32b0; rw [ez32, ByteArray.size_extract] at this; omega)
 clear ez32
 replace H := Option.bind_eq_some_iff.mp H
 obtain ⟨t190, A330, H⟩ := H
 have A33 := ak A330
 clear A330
 have H' := ak H
 clear H
 try go_wp2
 replace HO_6 := ak (Kd.R_drew HO_6.out)
 replace BK173 := ak (blk_drew BK173.out)
 replace HB := ak (below_drew1 HB.out)
 refine start_ (n := 17) (S := fun w' => w'.cell? ⟨gb173, 0, none⟩ = some (.int .i8 a0_0) ∧ w'.cell? ⟨gb173, 1, none⟩ = some (.int .u8 a0_1) ∧ w'.cell? ⟨gb173, 2, none⟩ = some (.int .u8 a0_2)) (ds := []) (bA 17 0) (by kernel_rfl) rfl rfl ⟨(blk_cell BK173.out 0).trans rfl, (blk_cell BK173.out 1).trans rfl, (blk_cell BK173.out 2).trans rfl⟩ (fun hHeld => ?_); refine with_tabW spec_l04Pasts.tab8 spec_l04Pasts.bits8 (fun HT_ HW_ => ?_)
 generalize wr.drew = w34 at HO_6 BK173 HB hHeld ⊢
 refine pU 0 42 (bA 17 1) HT_ ?_
 refine pU 2 44 (bA 17 5) HT_ ?_
 refine pU 3 45 (bA 17 13) HT_ ?_
 refine pU 4 46 (bA 17 29) HT_ ?_
 refine pU 5 47 (bA 17 61) HT_ ?_
 refine pU 10 52 (bA 17 1085) HT_ ?_
 refine pU 11 53 (bA 17 3133) HT_ ?_
 refine pU 12 54 (bA 17 7229) HT_ ?_
 refine pU 14 56 (bA 17 23613) HT_ ?_
 refine tK 1 43 (bA 17 23615) HT_ HW_ hHeld ?_
 refine tK 6 48 (bA 17 23679) HT_ HW_ hHeld ?_
 refine one_ (i := 7) (N := some 49) (bA 17 23807) rfl rfl (one_of HT_.out (by kernel_rfl)) (by decide) (fun K hK => ?_)
 refine Kd.R_lit_step (Kd.int .u8) _ 5 ?hg (N := 49) ?hd (xs := ([a0_1] : List Int)) (inner := [.int .u8 a0_1]) (ok := fun _ => True) (okp := fun _ => True) ?hr ?hp (fun _ hk => hk) trivial (Below.refl _ _) (Nat.le_refl _) (by simp) ?_; (case hd => rfl); (case hg => rfl); (case hr => first | (go_simp; done) | (go_simp; rfl)); (case hp => exact (Reps.one (show Kd.M (Kd.int .u8) _ _ _ a0_1 [.int .u8 a0_1] from rfl) (Reps.none _ _)))
 intro v188 w35 ho36 hb hg_ hnew_
 clear hg_ hnew_
 (first | rw [← Ny187.out] at ho36 | (simp only [Int.reduceToNat] at ho36; rw [← Ny187.out] at ho36))
 have HO189 := ak (Kd.R_lower ho36 (below_size (zBG HB.out GE173.out)))
 replace HO_6 := kR HO_6 hb
 replace BK173 := kK BK173 hb
 replace HB := kB1 HB GE173 hb
 obtain ⟨Ao38, co38, eo38⟩ := Kd.R_slice HO_6.out
 (first | subst eo38 | (injection eo38 with f1_ f2_ f3_; have f4_ := f1_.symm; have f5_ := f3_.symm; clear f1_ f2_ f3_; subst f4_; subst f5_))
 refine hK.out _ _ ⟨(blk_cell BK173.out 0).trans rfl, (blk_cell BK173.out 1).trans rfl, (blk_cell BK173.out 2).trans rfl⟩ (fun hHeld => ?_)
 clear hK K
 refine norm_ (a' := ?_) ?_ ?_
 rotate_left
 {
 show Act.put _ (some 49) _ = _
 simp only [Act.put, zs, zz, zk, i64_w, i32_w]
 rfl
 }
 refine one_ (i := 8) (N := some 50) (bA 17 24063) rfl rfl (one_of HT_.out (by kernel_rfl)) (by decide) (fun K hK => ?_)
 have hcv37 := own_string (P := Tryz.prog) Tryz.underlying22 Tryz.underlying5 Tryz.underlying9 (Kd.own_of_R HO189.out)
 refine value_ (w1 := ?_) (v := ?_) (by rfl) rfl ?_ ?_
 rotate_left 2
 {
 go_simp
 constructor
 · rfl
 · rfl
 }
 clear hcv37
 refine hK.out _ _ ⟨(blk_cell BK173.out 0).trans rfl, (blk_cell BK173.out 1).trans rfl, (blk_cell BK173.out 2).trans rfl⟩ (fun hHeld => ?_)
 clear hK K
 refine norm_ (a' := ?_) ?_ ?_
 rotate_left
 {
 show Act.put _ (some 50) _ = _
 simp only [Act.put, zs, zz, zk, i64_w, i32_w]
 rfl
 }
 refine pU 9 51 (bA 17 24575) HT_ ?_
 refine pU 13 55 (bA 17 32767) HT_ ?_
 refine one_ (i := 15) (N := some 57) (bA 17 65535) rfl rfl (one_of HT_.out (by kernel_rfl)) (by decide) (fun K hK => ?_)
 refine goes_ Tryz.func69 (by kernel_rfl) rfl #[.slice Ao38 x6_1.length co38, .agg #[.int .i8 a0_0, .int .u8 a0_1, .int .u8 a0_2], .string (((a1.extract 0 (x7_1 : Int).toNat) ++ (strOfNums y187)) ++ (a1.extract (x7_1 : Int).toNat a1.size)), .string a1] (by rfl) rfl rfl gl_ ?_
 with_reducible refine (spec_l04Tried.calls k1 (fun k_ => some k_ = (.slice Ao38 x6_1.length co38 : Value).ownBlock) (.slice Ao38 x6_1.length co38) x6_1 a0_0 a0_1 a0_2 (((a1.extract 0 (x7_1 : Int).toNat) ++ (strOfNums y187)) ++ (a1.extract (x7_1 : Int).toNat a1.size)) a1 t190 w _ ?side1 ?side2 A33.out).mono ?_
 (case side1 => repeat (first | (with_reducible first | exact HB.out | apply below_alloc | apply pw_below_drewN | apply below_drew1 | refine below_set ?_ GE173.out) | exact HB.out))
 (case side2 => exact Kd.R_tight rfl HO_6.out)
 rintro e w39 ⟨v191, rfl, ho0, hb, hkp⟩
 refine ⟨_, rfl, ?_⟩
 have HO192 := ak (Kd.R_mono (ok' := fun k_ => True) ho0 (fun k_ hk_ => trivial))
 replace BK173 := ak (blk_kept (zK BK173.out) hkp (fun hs_ => (fun e_ => (Kd.R_ne HO_6.out BK173.out (by decide)) e_) hs_))
 replace HO189 := ak (Kd.R_mono (ok' := fun k_ => True) (Kd.R_keptB ((Kd.R_apart' HO189.out (Kd.R_typed HO_6.out) (by decide))) hkp (fun k_ hk_ hs_ => (hk_.2) hs_)) (fun k_ hk_ => trivial))
 replace HB := ak (hb)
 clear HO_6
 (try clear hb)
 (try clear hkp)
 (try clear ho0)
 refine hK.out _ _ ⟨(blk_cell BK173.out 0).trans rfl, (blk_cell BK173.out 1).trans rfl, (blk_cell BK173.out 2).trans rfl⟩ (fun hHeld => ?_)
 clear hK K
 refine norm_ (a' := ?_) ?_ ?_
 rotate_left
 {
 show Act.put _ (some 57) _ = _
 simp only [Act.put, zs, zz, zk, i64_w, i32_w]
 rfl
 }
 refine pU 16 6 (bA 17 131071) HT_ ?_
 refine done_ (done_of HT_.out (by kernel_rfl)) ?_
 try go_wp2
 go_roundg k1
 case measure => have := HK1.out; omega
 case rel => exact ⟨(t190), (wrap64 (x7_1 + 1)), (by first | rfl | (simp; done) | (simp [*]; done)), H', ⟨by have := HK1.out; omega⟩, ⟨(zR HO192.out)⟩, ⟨(zK BK173.out)⟩, ⟨zBG HB.out GE173.out⟩⟩
 }
 · rw [if_neg c32] at H; exact absurd H (by simp)
 }
 · rw [if_neg c29] at H; exact absurd H (by simp)
 }
 · rw [if_neg c27] at H; exact absurd H (by simp)
 }
 {
 rw [if_neg c26] at H
 have c26b0 : decide (x7_1 ≤ (a1.size : Int)) = false := decide_eq_false c26
 clear c26
 have H' := ak H
 clear H
 go_wp2
 go_meet
 case rel => exact ⟨_, (x6_1), H', ⟨by have := HK1.out; first | omega | exact Nat.le_refl _⟩, ⟨(zR HO_6.out)⟩, ⟨(zK BK173.out)⟩, ⟨zBG HB.out GE173.out⟩⟩
 }
 )
 )
 }
 {
 rw [if_neg c25] at H
 have c25b0 : (a0_0 == 2) = false := beq_eq_false_iff_ne.mpr c25
 have c25b1 : (a0_0 != 2) = true := bne_iff_ne.mpr c25
 (first | rw [c25b0] | (simp only [i64_w, i32_w]; rw [c25b0]) | skip)
 have H' := ak H
 clear H
 go_wp2
 go_meet
 case rel => exact ⟨_, (t184), H', ⟨by first | omega | exact Nat.le_refl _⟩, ⟨(zR HO186.out)⟩, ⟨(zK BK173.out)⟩, ⟨zBG HB.out GE173.out⟩⟩
 }
 )
 case rest => (
 clear HC10
 try clear c7
 try clear c7b0
 try clear c7b1
 try clear c8
 try clear c8b0
 try clear c8b1
 try clear hcz14_0
 try clear hcz14_1
 try clear hcz14_2
 try clear hcz24_0
 try clear hcz24_1
 try clear hcz24_2
 try clear hfz14_0
 try clear hfz14_1
 try clear hfz14_2
 try clear hfz24_0
 try clear hfz24_1
 try clear hfz24_2
 obtain ⟨kq, x6_9, HA, HJ9, HO_6, BK173, HB⟩ := hcut
 cases kq with
 | zero => exact absurd HA.out (by simp [spec_l04Pasts.j1])
 | succ kj9 => (
 have H := HA.out
 clear HA
 simp only [spec_l04Pasts.j1] at H
 by_cases c40 : a0_0 = 1
 {
 rw [if_pos c40] at H
 have c40b0 : (a0_0 == 1) = true := beq_iff_eq.mpr c40
 have c40b1 : (a0_0 != 1) = false := bne_eq_false_iff_eq.mpr c40
 clear c40
 obtain ⟨y193, hy193⟩ : ∃ y_ : List ByteArray, y_ = (([] : List ByteArray)) := ⟨_, rfl⟩
 replace H : (spec_l04Pasts.l1 kj9 a1 y193 (([] : List Int)) 0 a0_0 a0_1 a0_2) = some (r1, r2) := by first | (rw [hy193]; with_reducible exact H) | (have H2_ := (Option.bind_some _ _).symm.trans H; rw [hy193]; with_reducible exact H2_) | (have H2_ := (Option.bind_some _ _).symm.trans H; with_reducible exact H2_) | with_reducible exact H | (rw [hy193]; exact H) | exact H
 have Ny193 := ak hy193
 clear hy193
 obtain ⟨y196, hy196⟩ : ∃ y_ : List Int, y_ = (([] : List Int)) := ⟨_, rfl⟩
 replace H : (spec_l04Pasts.l1 kj9 a1 y193 y196 0 a0_0 a0_1 a0_2) = some (r1, r2) := by first | (rw [hy196]; with_reducible exact H) | (have H2_ := (Option.bind_some _ _).symm.trans H; rw [hy196]; with_reducible exact H2_) | (have H2_ := (Option.bind_some _ _).symm.trans H; with_reducible exact H2_) | with_reducible exact H | (rw [hy196]; exact H) | exact H
 have Ny196 := ak hy196
 clear hy196
 have H' := ak H
 clear H
 have hcz41_0 : wc.cell? ⟨gb173, 0, none⟩ = some (.int .i8 a0_0) := (blk_cell BK173.out 0).trans rfl
 have hcz41_1 : wc.cell? ⟨gb173, 1, none⟩ = some (.int .u8 a0_1) := (blk_cell BK173.out 1).trans rfl
 have hcz41_2 : wc.cell? ⟨gb173, 2, none⟩ = some (.int .u8 a0_2) := (blk_cell BK173.out 2).trans rfl
 have hfz41_0 := blk_frozen BK173.out 0
 have hfz41_1 := blk_frozen BK173.out 1
 have hfz41_2 := blk_frozen BK173.out 2
 go_wp2_with (first | ((with_reducible refine gate_dst (N := 61) rfl ?_); refine Kd.R_lit Kd.string _ 9 ?hg (N := 61) ?hd (xs := ([] : List ByteArray)) (inner := []) (ok := fun _ => True) (okp := fun _ => True) ?hr ?hp (fun _ hk => hk) trivial (Below.refl _ _) (Nat.le_refl _) (by simp) ?_; (case hd => rfl); (case hg => rfl); (case hr => first | (go_simp; done) | (go_simp; rfl)); (case hp => exact (Reps.none _ _)); intro v194 w42 ho43 hb hg_ hnew_; clear hg_ hnew_; (first | rw [← Ny193.out] at ho43 | (simp only [Int.reduceToNat] at ho43; rw [← Ny193.out] at ho43)); have HO195 := ak (Kd.R_lower (Kd.R_new' ho43 (Kd.R_lt (zR HO_6.out))) (below_size (zBG HB.out GE173.out))); replace HO_6 := kE HO_6 ho43 hb; replace BK173 := kK BK173 hb; replace HB := kB1 HB GE173 hb; clear hb ho43) | ((with_reducible refine gate_dst (N := 62) rfl ?_); refine Kd.R_lit (Kd.int .i64) _ 3 ?hg (N := 62) ?hd (xs := ([] : List Int)) (inner := []) (ok := fun _ => True) (okp := fun _ => True) ?hr ?hp (fun _ hk => hk) trivial (Below.refl _ _) (Nat.le_refl _) (by simp) ?_; (case hd => rfl); (case hg => rfl); (case hr => first | (go_simp; done) | (go_simp; rfl)); (case hp => exact (Reps.none _ _)); intro v197 w44 ho45 hb hg_ hnew_; clear hg_ hnew_; (first | rw [← Ny196.out] at ho45 | (simp only [Int.reduceToNat] at ho45; rw [← Ny196.out] at ho45)); have HO198 := ak (Kd.R_lower ho45 (below_size (zBG HB.out GE173.out))); replace HO_6 := kR HO_6 hb; replace HO195 := kR HO195 hb; replace BK173 := kK BK173 hb; replace HB := kB1 HB GE173 hb; clear hb ho45))
 go_loopg [8, 9] kj9 (fun kq v8 v9 w' => ∃ (x8_2 : List Int) (x9_2 : Int), v9 = .int .i64 x9_2 ∧ Aside0 (spec_l04Pasts.l1 kq a1 y193 x8_2 x9_2 a0_0 a0_1 a0_2 = some (r1, r2)) ∧ Aside0 (kq ≤ kj9) ∧ Aside0 (Kd.R Kd.string 9 w' w.heap.size (fun _ => True) v194 y193) ∧ Aside0 (Kd.R (Kd.int .i64) 3 w' w.heap.size (fun _ => True) v8 x8_2) ∧ Aside0 (w'.heap[gb173]? = some (.cells #[.int .i8 a0_0, .int .u8 a0_1, .int .u8 a0_2] 40 (0, 0))) ∧ Aside0 (Below w.heap.size w w'))
 case atStart => exact ⟨(y196), (0), (by first | rfl | (simp; done) | (simp [*]; done)), H', ⟨Nat.le_refl _⟩, ⟨by (with_reducible repeat (first | apply Kd.R_alloc | apply Kd.R_drewN | apply Kd.R_drew)); exact Kd.R_mono HO195.out (fun _ hk => trivial)⟩, ⟨(zR HO198.out)⟩, ⟨(zK BK173.out)⟩, ⟨zBG HB.out GE173.out⟩⟩
 case round => (
 clear H'
 try clear c7
 try clear c7b0
 try clear c7b1
 try clear c8
 try clear c8b0
 try clear c8b1
 try clear c40
 try clear c40b0
 try clear c40b1
 try clear hcz14_0
 try clear hcz14_1
 try clear hcz14_2
 try clear hcz24_0
 try clear hcz24_1
 try clear hcz24_2
 try clear hcz41_0
 try clear hcz41_1
 try clear hcz41_2
 try clear hfz14_0
 try clear hfz14_1
 try clear hfz14_2
 try clear hfz24_0
 try clear hfz24_1
 try clear hfz24_2
 try clear hfz41_0
 try clear hfz41_1
 try clear hfz41_2
 obtain ⟨x8_2, x9_2, rfl, HA, HK2, HO_6, HO_8, BK173, HB⟩ := hrel
 cases gk with
 | zero => exact absurd HA.out (by simp [spec_l04Pasts.l1])
 | succ k2 => (
 have H := HA.out
 clear HA
 simp only [spec_l04Pasts.l1] at H
 by_cases c46 : x9_2 < (a1.size : Int)
 {
 rw [if_pos c46] at H
 have c46b0 : decide (x9_2 < (a1.size : Int)) = true := decide_eq_true c46
 clear c46
 by_cases c47 : 0 ≤ x9_2
 {
 rw [if_pos c47] at H
 have c47b0 : decide (0 ≤ x9_2) = true := decide_eq_true c47
 clear c47
 by_cases c49 : (bt a1 x9_2) = a0_2
 {
 rw [if_pos c49] at H
 have c49b0 : ((bt a1 x9_2) == a0_2) = true := beq_iff_eq.mpr c49
 have c49b1 : ((bt a1 x9_2) != a0_2) = false := bne_eq_false_iff_eq.mpr c49
 clear c49
 by_cases c50 : x8_2.length < 17592186044416
 {
 rw [if_pos c50] at H
 have LMc50 := ak c50
 clear c50
 obtain ⟨y199, hy199⟩ : ∃ y_ : List Int, y_ = (x8_2 ++ [x9_2]) := ⟨_, rfl⟩
 replace H : (if (bt a1 x9_2) = a0_1 then (some (y193, true)) else (spec_l04Pasts.l1 k2 a1 y193 y199 (wrap64 (x9_2 + 1)) a0_0 a0_1 a0_2)) = some (r1, r2) := by first | (rw [hy199]; with_reducible exact H) | (have H2_ := (Option.bind_some _ _).symm.trans H; rw [hy199]; with_reducible exact H2_) | (have H2_ := (Option.bind_some _ _).symm.trans H; with_reducible exact H2_) | with_reducible exact H | (rw [hy199]; exact H) | exact H
 have Ny199 := ak hy199
 clear hy199
 by_cases c52 : (bt a1 x9_2) = a0_1
 {
 rw [if_pos c52] at H
 have c52b0 : ((bt a1 x9_2) == a0_1) = true := beq_iff_eq.mpr c52
 have c52b1 : ((bt a1 x9_2) != a0_1) = false := bne_eq_false_iff_eq.mpr c52
 clear c52
 simp only [Option.some.injEq, Prod.mk.injEq] at H
 obtain ⟨rfl, rfl⟩ := H
 try go_wp2
 replace HO_6 := ak (Kd.R_drew HO_6.out)
 replace HO_8 := ak (Kd.R_drew HO_8.out)
 replace BK173 := ak (blk_drew BK173.out)
 replace HB := ak (below_drew1 HB.out)
 have p48 : 0 ≤ (x9_2 : Int) := of_decide_eq_true (by first | (with_reducible assumption) | assumption)
 have q48 : x9_2 < (a1.size : Int) := of_decide_eq_true (by first | (with_reducible assumption) | assumption)
 have hx48 := bt_at a1 x9_2
 replace p48 := eq_true p48
 replace q48 := eq_true q48
 refine start_ (n := 6) (S := fun w' => w'.cell? ⟨gb173, 0, none⟩ = some (.int .i8 a0_0) ∧ w'.cell? ⟨gb173, 1, none⟩ = some (.int .u8 a0_1) ∧ w'.cell? ⟨gb173, 2, none⟩ = some (.int .u8 a0_2)) (ds := []) (bA 6 0) (by kernel_rfl) rfl rfl ⟨(blk_cell BK173.out 0).trans rfl, (blk_cell BK173.out 1).trans rfl, (blk_cell BK173.out 2).trans rfl⟩ (fun hHeld => ?_)
 generalize wr.drew = w53 at HO_6 HO_8 BK173 HB hHeld ⊢
 refine pure_ (i := 0) (N := some 69) (v := ?_) (a' := ?_) (bA 6 1) rfl rfl (by kernel_rfl) (fun _ _ _ h => h) (Or.inl ⟨by rfl, ?_⟩) ?_ ?_
 rotate_left
 {
 intro w'
 go_simp
 with_reducible rfl
 }
 rotate_left
 · simp only [Act.put, zs, zz, zk, i64_w, i32_w]; rfl
 refine pure_ (i := 1) (N := some 70) (v := ?_) (a' := ?_) (bA 6 3) rfl rfl (by kernel_rfl) (fun _ _ _ h => h) (Or.inl ⟨by rfl, ?_⟩) ?_ ?_
 rotate_left
 {
 intro w'
 go_simp
 with_reducible rfl
 }
 rotate_left
 · simp only [Act.put, zs, zz, zk, i64_w, i32_w]; rfl
 refine pure_ (i := 3) (N := some 72) (v := ?_) (a' := ?_) (bA 6 11) rfl rfl (by kernel_rfl) (fun _ _ _ h => h) (Or.inl ⟨by rfl, ?_⟩) ?_ ?_
 rotate_left
 {
 intro w'
 go_simp
 with_reducible rfl
 }
 rotate_left
 · simp only [Act.put, zs, zz, zk, i64_w, i32_w]; rfl
 refine take_ (i := 2) (N := some 71) (v := ?_) (a' := ?_) (bA 6 15) rfl rfl (by kernel_rfl) (fun _ _ _ h => h) (Or.inl ⟨by rfl, ?_⟩) hHeld ?_ ?_
 rotate_left
 {
 rintro w' ⟨s0, s1, s2⟩
 go_simp
 with_reducible rfl
 }
 rotate_left
 · simp only [Act.put, zs, zz, zk, i64_w, i32_w]; rfl
 refine take_ (i := 4) (N := some 73) (v := ?_) (a' := ?_) (bA 6 31) rfl rfl (by kernel_rfl) (fun _ _ _ h => h) (Or.inl ⟨by rfl, ?_⟩) hHeld ?_ ?_
 rotate_left
 {
 rintro w' ⟨s0, s1, s2⟩
 go_simp
 with_reducible rfl
 }
 rotate_left
 · simp only [Act.put, zs, zz, zk, i64_w, i32_w]; rfl
 refine pure_ (i := 5) (N := some 74) (v := ?_) (a' := ?_) (bA 6 63) rfl rfl (by kernel_rfl) (fun _ _ _ h => h) (Or.inl ⟨by rfl, ?_⟩) ?_ ?_
 rotate_left
 {
 intro w'
 go_simp
 with_reducible rfl
 }
 rotate_left
 · simp only [Act.put, zs, zz, zk, i64_w, i32_w]; rfl
 refine done_ (by kernel_rfl) ?_
 try go_wp2_with (first | ((with_reducible refine gate_builtin (b := .append) (xs := #[.tmp 75, .tmp 77]) rfl ?_); at_builtin; refine Kd.R_append (Kd.int .i64) (w0 := w) w.heap.size rfl (.tmp 75) (.tmp 77) 93 3 (.int .i64 0) 8 rfl Tryz.underlying93 info3 rfl (by decide) (by omega) u8 x8_2 x9_2 [.int .i64 x9_2] (fun _ => True) (fun _ => False) rfl rfl ?aP (fun _ hk => hk.elim) ?aF ?aO ?aB ?aS ?aL ?_; (case aP => exact rfl); (case aB => exact (zBG HB.out GE173.out)); (case aF => exact (fun _ _ => trivial)); (case aO => exact (zR HO_8.out)); (case aS => exact (below_size (zBG HB.out GE173.out))); (case aL => have := LMc50.out; omega); intro v200 w54 ho hb hg hat; rw [← Ny199.out] at ho; have n0_ := ak (Kd.R_over' (zR HO_6.out) (Kd.R_typed (zR HO_8.out)) (by decide) hg); have n1_ := ak (blk_grown (g := gb173) (o := .cells #[.int .i8 a0_0, .int .u8 a0_1, .int .u8 a0_2] 40 (0, 0)) (zK BK173.out) hg (Kd.R_ne HO_8.out BK173.out (by decide))); have n2_ := ak (hb); have n3_ := ak (ho); clear HO_6 BK173 HB HO_8; have HO_6 := n0_; have BK173 := n1_; have HB := n2_; have HO201 := n3_; clear n0_ n1_ n2_ n3_; clear ho hb hg hat))
 replace HO_6 := ak (Kd.R_drew HO_6.out)
 replace HO201 := ak (Kd.R_drew HO201.out)
 replace BK173 := ak (blk_drew BK173.out)
 replace HB := ak (below_drew1 HB.out)
 have p51 : 0 ≤ (x9_2 : Int) := of_decide_eq_true (by first | (with_reducible assumption) | assumption)
 have q51 : x9_2 < (a1.size : Int) := of_decide_eq_true (by first | (with_reducible assumption) | assumption)
 have hx51 := bt_at a1 x9_2
 replace p51 := eq_true p51
 replace q51 := eq_true q51
 refine start_ (n := 6) (S := fun w' => w'.cell? ⟨gb173, 0, none⟩ = some (.int .i8 a0_0) ∧ w'.cell? ⟨gb173, 1, none⟩ = some (.int .u8 a0_1) ∧ w'.cell? ⟨gb173, 2, none⟩ = some (.int .u8 a0_2)) (ds := []) (bA 6 0) (by kernel_rfl) rfl rfl ⟨(blk_cell BK173.out 0).trans rfl, (blk_cell BK173.out 1).trans rfl, (blk_cell BK173.out 2).trans rfl⟩ (fun hHeld => ?_)
 generalize w54.drew = w55 at HO_6 HO201 BK173 HB hHeld ⊢
 refine pure_ (i := 0) (N := some 79) (v := ?_) (a' := ?_) (bA 6 1) rfl rfl (by kernel_rfl) (fun _ _ _ h => h) (Or.inl ⟨by rfl, ?_⟩) ?_ ?_
 rotate_left
 {
 intro w'
 go_simp
 with_reducible rfl
 }
 rotate_left
 · simp only [Act.put, zs, zz, zk, i64_w, i32_w]; rfl
 refine pure_ (i := 1) (N := some 80) (v := ?_) (a' := ?_) (bA 6 3) rfl rfl (by kernel_rfl) (fun _ _ _ h => h) (Or.inl ⟨by rfl, ?_⟩) ?_ ?_
 rotate_left
 {
 intro w'
 go_simp
 with_reducible rfl
 }
 rotate_left
 · simp only [Act.put, zs, zz, zk, i64_w, i32_w]; rfl
 refine pure_ (i := 3) (N := some 82) (v := ?_) (a' := ?_) (bA 6 11) rfl rfl (by kernel_rfl) (fun _ _ _ h => h) (Or.inl ⟨by rfl, ?_⟩) ?_ ?_
 rotate_left
 {
 intro w'
 go_simp
 with_reducible rfl
 }
 rotate_left
 · simp only [Act.put, zs, zz, zk, i64_w, i32_w]; rfl
 refine take_ (i := 2) (N := some 81) (v := ?_) (a' := ?_) (bA 6 15) rfl rfl (by kernel_rfl) (fun _ _ _ h => h) (Or.inl ⟨by rfl, ?_⟩) hHeld ?_ ?_
 rotate_left
 {
 rintro w' ⟨s0, s1, s2⟩
 go_simp
 with_reducible rfl
 }
 rotate_left
 · simp only [Act.put, zs, zz, zk, i64_w, i32_w]; rfl
 refine take_ (i := 4) (N := some 83) (v := ?_) (a' := ?_) (bA 6 31) rfl rfl (by kernel_rfl) (fun _ _ _ h => h) (Or.inl ⟨by rfl, ?_⟩) hHeld ?_ ?_
 rotate_left
 {
 rintro w' ⟨s0, s1, s2⟩
 go_simp
 with_reducible rfl
 }
 rotate_left
 · simp only [Act.put, zs, zz, zk, i64_w, i32_w]; rfl
 refine pure_ (i := 5) (N := some 84) (v := ?_) (a' := ?_) (bA 6 63) rfl rfl (by kernel_rfl) (fun _ _ _ h => h) (Or.inl ⟨by rfl, ?_⟩) ?_ ?_
 rotate_left
 {
 intro w'
 go_simp
 with_reducible rfl
 }
 rotate_left
 · simp only [Act.put, zs, zz, zk, i64_w, i32_w]; rfl
 refine done_ (by kernel_rfl) ?_
 try go_wp2
 go_ret2
 exact ⟨_, by first | rfl | (simp [errW_none, errW_some] <;> rfl) | (simp only [← hji6]; first | rfl | (simp [errW_none, errW_some] <;> rfl)) | (simp [*, errW_none, errW_some] <;> rfl), by (with_reducible repeat (first | apply Kd.R_alloc | apply Kd.R_drewN | apply Kd.R_drew)); exact HO_6.out, zBG HB.out GE173.out⟩
 }
 {
 rw [if_neg c52] at H
 have c52b0 : ((bt a1 x9_2) == a0_1) = false := beq_eq_false_iff_ne.mpr c52
 have c52b1 : ((bt a1 x9_2) != a0_1) = true := bne_iff_ne.mpr c52
 have H' := ak H
 clear H
 try go_wp2
 replace HO_6 := ak (Kd.R_drew HO_6.out)
 replace HO_8 := ak (Kd.R_drew HO_8.out)
 replace BK173 := ak (blk_drew BK173.out)
 replace HB := ak (below_drew1 HB.out)
 have p48 : 0 ≤ (x9_2 : Int) := of_decide_eq_true (by first | (with_reducible assumption) | assumption)
 have q48 : x9_2 < (a1.size : Int) := of_decide_eq_true (by first | (with_reducible assumption) | assumption)
 have hx48 := bt_at a1 x9_2
 replace p48 := eq_true p48
 replace q48 := eq_true q48
 refine start_ (n := 6) (S := fun w' => w'.cell? ⟨gb173, 0, none⟩ = some (.int .i8 a0_0) ∧ w'.cell? ⟨gb173, 1, none⟩ = some (.int .u8 a0_1) ∧ w'.cell? ⟨gb173, 2, none⟩ = some (.int .u8 a0_2)) (ds := []) (bA 6 0) (by kernel_rfl) rfl rfl ⟨(blk_cell BK173.out 0).trans rfl, (blk_cell BK173.out 1).trans rfl, (blk_cell BK173.out 2).trans rfl⟩ (fun hHeld => ?_)
 generalize wr.drew = w56 at HO_6 HO_8 BK173 HB hHeld ⊢
 refine pure_ (i := 0) (N := some 69) (v := ?_) (a' := ?_) (bA 6 1) rfl rfl (by kernel_rfl) (fun _ _ _ h => h) (Or.inl ⟨by rfl, ?_⟩) ?_ ?_
 rotate_left
 {
 intro w'
 go_simp
 with_reducible rfl
 }
 rotate_left
 · simp only [Act.put, zs, zz, zk, i64_w, i32_w]; rfl
 refine pure_ (i := 1) (N := some 70) (v := ?_) (a' := ?_) (bA 6 3) rfl rfl (by kernel_rfl) (fun _ _ _ h => h) (Or.inl ⟨by rfl, ?_⟩) ?_ ?_
 rotate_left
 {
 intro w'
 go_simp
 with_reducible rfl
 }
 rotate_left
 · simp only [Act.put, zs, zz, zk, i64_w, i32_w]; rfl
 refine pure_ (i := 3) (N := some 72) (v := ?_) (a' := ?_) (bA 6 11) rfl rfl (by kernel_rfl) (fun _ _ _ h => h) (Or.inl ⟨by rfl, ?_⟩) ?_ ?_
 rotate_left
 {
 intro w'
 go_simp
 with_reducible rfl
 }
 rotate_left
 · simp only [Act.put, zs, zz, zk, i64_w, i32_w]; rfl
 refine take_ (i := 2) (N := some 71) (v := ?_) (a' := ?_) (bA 6 15) rfl rfl (by kernel_rfl) (fun _ _ _ h => h) (Or.inl ⟨by rfl, ?_⟩) hHeld ?_ ?_
 rotate_left
 {
 rintro w' ⟨s0, s1, s2⟩
 go_simp
 with_reducible rfl
 }
 rotate_left
 · simp only [Act.put, zs, zz, zk, i64_w, i32_w]; rfl
 refine take_ (i := 4) (N := some 73) (v := ?_) (a' := ?_) (bA 6 31) rfl rfl (by kernel_rfl) (fun _ _ _ h => h) (Or.inl ⟨by rfl, ?_⟩) hHeld ?_ ?_
 rotate_left
 {
 rintro w' ⟨s0, s1, s2⟩
 go_simp
 with_reducible rfl
 }
 rotate_left
 · simp only [Act.put, zs, zz, zk, i64_w, i32_w]; rfl
 refine pure_ (i := 5) (N := some 74) (v := ?_) (a' := ?_) (bA 6 63) rfl rfl (by kernel_rfl) (fun _ _ _ h => h) (Or.inl ⟨by rfl, ?_⟩) ?_ ?_
 rotate_left
 {
 intro w'
 go_simp
 with_reducible rfl
 }
 rotate_left
 · simp only [Act.put, zs, zz, zk, i64_w, i32_w]; rfl
 refine done_ (by kernel_rfl) ?_
 try go_wp2_with (first | ((with_reducible refine gate_builtin (b := .append) (xs := #[.tmp 75, .tmp 77]) rfl ?_); at_builtin; refine Kd.R_append (Kd.int .i64) (w0 := w) w.heap.size rfl (.tmp 75) (.tmp 77) 93 3 (.int .i64 0) 8 rfl Tryz.underlying93 info3 rfl (by decide) (by omega) u8 x8_2 x9_2 [.int .i64 x9_2] (fun _ => True) (fun _ => False) rfl rfl ?aP (fun _ hk => hk.elim) ?aF ?aO ?aB ?aS ?aL ?_; (case aP => exact rfl); (case aB => exact (zBG HB.out GE173.out)); (case aF => exact (fun _ _ => trivial)); (case aO => exact (zR HO_8.out)); (case aS => exact (below_size (zBG HB.out GE173.out))); (case aL => have := LMc50.out; omega); intro v200 w57 ho hb hg hat; rw [← Ny199.out] at ho; have n0_ := ak (Kd.R_over' (zR HO_6.out) (Kd.R_typed (zR HO_8.out)) (by decide) hg); have n1_ := ak (blk_grown (g := gb173) (o := .cells #[.int .i8 a0_0, .int .u8 a0_1, .int .u8 a0_2] 40 (0, 0)) (zK BK173.out) hg (Kd.R_ne HO_8.out BK173.out (by decide))); have n2_ := ak (hb); have n3_ := ak (ho); clear HO_6 BK173 HB HO_8; have HO_6 := n0_; have BK173 := n1_; have HB := n2_; have HO201 := n3_; clear n0_ n1_ n2_ n3_; clear ho hb hg hat))
 replace HO_6 := ak (Kd.R_drew HO_6.out)
 replace HO201 := ak (Kd.R_drew HO201.out)
 replace BK173 := ak (blk_drew BK173.out)
 replace HB := ak (below_drew1 HB.out)
 have p51 : 0 ≤ (x9_2 : Int) := of_decide_eq_true (by first | (with_reducible assumption) | assumption)
 have q51 : x9_2 < (a1.size : Int) := of_decide_eq_true (by first | (with_reducible assumption) | assumption)
 have hx51 := bt_at a1 x9_2
 replace p51 := eq_true p51
 replace q51 := eq_true q51
 refine start_ (n := 6) (S := fun w' => w'.cell? ⟨gb173, 0, none⟩ = some (.int .i8 a0_0) ∧ w'.cell? ⟨gb173, 1, none⟩ = some (.int .u8 a0_1) ∧ w'.cell? ⟨gb173, 2, none⟩ = some (.int .u8 a0_2)) (ds := []) (bA 6 0) (by kernel_rfl) rfl rfl ⟨(blk_cell BK173.out 0).trans rfl, (blk_cell BK173.out 1).trans rfl, (blk_cell BK173.out 2).trans rfl⟩ (fun hHeld => ?_)
 generalize w57.drew = w58 at HO_6 HO201 BK173 HB hHeld ⊢
 refine pure_ (i := 0) (N := some 79) (v := ?_) (a' := ?_) (bA 6 1) rfl rfl (by kernel_rfl) (fun _ _ _ h => h) (Or.inl ⟨by rfl, ?_⟩) ?_ ?_
 rotate_left
 {
 intro w'
 go_simp
 with_reducible rfl
 }
 rotate_left
 · simp only [Act.put, zs, zz, zk, i64_w, i32_w]; rfl
 refine pure_ (i := 1) (N := some 80) (v := ?_) (a' := ?_) (bA 6 3) rfl rfl (by kernel_rfl) (fun _ _ _ h => h) (Or.inl ⟨by rfl, ?_⟩) ?_ ?_
 rotate_left
 {
 intro w'
 go_simp
 with_reducible rfl
 }
 rotate_left
 · simp only [Act.put, zs, zz, zk, i64_w, i32_w]; rfl
 refine pure_ (i := 3) (N := some 82) (v := ?_) (a' := ?_) (bA 6 11) rfl rfl (by kernel_rfl) (fun _ _ _ h => h) (Or.inl ⟨by rfl, ?_⟩) ?_ ?_
 rotate_left
 {
 intro w'
 go_simp
 with_reducible rfl
 }
 rotate_left
 · simp only [Act.put, zs, zz, zk, i64_w, i32_w]; rfl
 refine take_ (i := 2) (N := some 81) (v := ?_) (a' := ?_) (bA 6 15) rfl rfl (by kernel_rfl) (fun _ _ _ h => h) (Or.inl ⟨by rfl, ?_⟩) hHeld ?_ ?_
 rotate_left
 {
 rintro w' ⟨s0, s1, s2⟩
 go_simp
 with_reducible rfl
 }
 rotate_left
 · simp only [Act.put, zs, zz, zk, i64_w, i32_w]; rfl
 refine take_ (i := 4) (N := some 83) (v := ?_) (a' := ?_) (bA 6 31) rfl rfl (by kernel_rfl) (fun _ _ _ h => h) (Or.inl ⟨by rfl, ?_⟩) hHeld ?_ ?_
 rotate_left
 {
 rintro w' ⟨s0, s1, s2⟩
 go_simp
 with_reducible rfl
 }
 rotate_left
 · simp only [Act.put, zs, zz, zk, i64_w, i32_w]; rfl
 refine pure_ (i := 5) (N := some 84) (v := ?_) (a' := ?_) (bA 6 63) rfl rfl (by kernel_rfl) (fun _ _ _ h => h) (Or.inl ⟨by rfl, ?_⟩) ?_ ?_
 rotate_left
 {
 intro w'
 go_simp
 with_reducible rfl
 }
 rotate_left
 · simp only [Act.put, zs, zz, zk, i64_w, i32_w]; rfl
 refine done_ (by kernel_rfl) ?_
 try go_wp2
 go_roundg k2
 case measure => have := HJ9.out; have := HK2.out; omega
 case rel => exact ⟨(y199), (wrap64 (x9_2 + 1)), (by first | rfl | (simp; done) | (simp [*]; done)), H', ⟨by have := HJ9.out; have := HK2.out; omega⟩, ⟨(zR HO_6.out)⟩, ⟨(zR HO201.out)⟩, ⟨(zK BK173.out)⟩, ⟨zBG HB.out GE173.out⟩⟩
 }
 }
 · rw [if_neg c50] at H; exact absurd H (by simp)
 }
 {
 rw [if_neg c49] at H
 have c49b0 : ((bt a1 x9_2) == a0_2) = false := beq_eq_false_iff_ne.mpr c49
 have c49b1 : ((bt a1 x9_2) != a0_2) = true := bne_iff_ne.mpr c49
 by_cases c60 : (bt a1 x9_2) = a0_1
 {
 rw [if_pos c60] at H
 have c60b0 : ((bt a1 x9_2) == a0_1) = true := beq_iff_eq.mpr c60
 have c60b1 : ((bt a1 x9_2) != a0_1) = false := bne_eq_false_iff_eq.mpr c60
 clear c60
 simp only [Option.some.injEq, Prod.mk.injEq] at H
 obtain ⟨rfl, rfl⟩ := H
 try go_wp2
 replace HO_6 := ak (Kd.R_drew HO_6.out)
 replace HO_8 := ak (Kd.R_drew HO_8.out)
 replace BK173 := ak (blk_drew BK173.out)
 replace HB := ak (below_drew1 HB.out)
 have p48 : 0 ≤ (x9_2 : Int) := of_decide_eq_true (by first | (with_reducible assumption) | assumption)
 have q48 : x9_2 < (a1.size : Int) := of_decide_eq_true (by first | (with_reducible assumption) | assumption)
 have hx48 := bt_at a1 x9_2
 replace p48 := eq_true p48
 replace q48 := eq_true q48
 refine start_ (n := 6) (S := fun w' => w'.cell? ⟨gb173, 0, none⟩ = some (.int .i8 a0_0) ∧ w'.cell? ⟨gb173, 1, none⟩ = some (.int .u8 a0_1) ∧ w'.cell? ⟨gb173, 2, none⟩ = some (.int .u8 a0_2)) (ds := []) (bA 6 0) (by kernel_rfl) rfl rfl ⟨(blk_cell BK173.out 0).trans rfl, (blk_cell BK173.out 1).trans rfl, (blk_cell BK173.out 2).trans rfl⟩ (fun hHeld => ?_)
 generalize wr.drew = w61 at HO_6 HO_8 BK173 HB hHeld ⊢
 refine pure_ (i := 0) (N := some 69) (v := ?_) (a' := ?_) (bA 6 1) rfl rfl (by kernel_rfl) (fun _ _ _ h => h) (Or.inl ⟨by rfl, ?_⟩) ?_ ?_
 rotate_left
 {
 intro w'
 go_simp
 with_reducible rfl
 }
 rotate_left
 · simp only [Act.put, zs, zz, zk, i64_w, i32_w]; rfl
 refine pure_ (i := 1) (N := some 70) (v := ?_) (a' := ?_) (bA 6 3) rfl rfl (by kernel_rfl) (fun _ _ _ h => h) (Or.inl ⟨by rfl, ?_⟩) ?_ ?_
 rotate_left
 {
 intro w'
 go_simp
 with_reducible rfl
 }
 rotate_left
 · simp only [Act.put, zs, zz, zk, i64_w, i32_w]; rfl
 refine pure_ (i := 3) (N := some 72) (v := ?_) (a' := ?_) (bA 6 11) rfl rfl (by kernel_rfl) (fun _ _ _ h => h) (Or.inl ⟨by rfl, ?_⟩) ?_ ?_
 rotate_left
 {
 intro w'
 go_simp
 with_reducible rfl
 }
 rotate_left
 · simp only [Act.put, zs, zz, zk, i64_w, i32_w]; rfl
 refine take_ (i := 2) (N := some 71) (v := ?_) (a' := ?_) (bA 6 15) rfl rfl (by kernel_rfl) (fun _ _ _ h => h) (Or.inl ⟨by rfl, ?_⟩) hHeld ?_ ?_
 rotate_left
 {
 rintro w' ⟨s0, s1, s2⟩
 go_simp
 with_reducible rfl
 }
 rotate_left
 · simp only [Act.put, zs, zz, zk, i64_w, i32_w]; rfl
 refine take_ (i := 4) (N := some 73) (v := ?_) (a' := ?_) (bA 6 31) rfl rfl (by kernel_rfl) (fun _ _ _ h => h) (Or.inl ⟨by rfl, ?_⟩) hHeld ?_ ?_
 rotate_left
 {
 rintro w' ⟨s0, s1, s2⟩
 go_simp
 with_reducible rfl
 }
 rotate_left
 · simp only [Act.put, zs, zz, zk, i64_w, i32_w]; rfl
 refine pure_ (i := 5) (N := some 74) (v := ?_) (a' := ?_) (bA 6 63) rfl rfl (by kernel_rfl) (fun _ _ _ h => h) (Or.inl ⟨by rfl, ?_⟩) ?_ ?_
 rotate_left
 {
 intro w'
 go_simp
 with_reducible rfl
 }
 rotate_left
 · simp only [Act.put, zs, zz, zk, i64_w, i32_w]; rfl
 refine done_ (by kernel_rfl) ?_
 try go_wp2
 replace HO_6 := ak (Kd.R_drew HO_6.out)
 replace HO_8 := ak (Kd.R_drew HO_8.out)
 replace BK173 := ak (blk_drew BK173.out)
 replace HB := ak (below_drew1 HB.out)
 have p59 : 0 ≤ (x9_2 : Int) := of_decide_eq_true (by first | (with_reducible assumption) | assumption)
 have q59 : x9_2 < (a1.size : Int) := of_decide_eq_true (by first | (with_reducible assumption) | assumption)
 have hx59 := bt_at a1 x9_2
 replace p59 := eq_true p59
 replace q59 := eq_true q59
 refine start_ (n := 6) (S := fun w' => w'.cell? ⟨gb173, 0, none⟩ = some (.int .i8 a0_0) ∧ w'.cell? ⟨gb173, 1, none⟩ = some (.int .u8 a0_1) ∧ w'.cell? ⟨gb173, 2, none⟩ = some (.int .u8 a0_2)) (ds := []) (bA 6 0) (by kernel_rfl) rfl rfl ⟨(blk_cell BK173.out 0).trans rfl, (blk_cell BK173.out 1).trans rfl, (blk_cell BK173.out 2).trans rfl⟩ (fun hHeld => ?_)
 generalize w61.drew = w62 at HO_6 HO_8 BK173 HB hHeld ⊢
 refine pure_ (i := 0) (N := some 79) (v := ?_) (a' := ?_) (bA 6 1) rfl rfl (by kernel_rfl) (fun _ _ _ h => h) (Or.inl ⟨by rfl, ?_⟩) ?_ ?_
 rotate_left
 {
 intro w'
 go_simp
 with_reducible rfl
 }
 rotate_left
 · simp only [Act.put, zs, zz, zk, i64_w, i32_w]; rfl
 refine pure_ (i := 1) (N := some 80) (v := ?_) (a' := ?_) (bA 6 3) rfl rfl (by kernel_rfl) (fun _ _ _ h => h) (Or.inl ⟨by rfl, ?_⟩) ?_ ?_
 rotate_left
 {
 intro w'
 go_simp
 with_reducible rfl
 }
 rotate_left
 · simp only [Act.put, zs, zz, zk, i64_w, i32_w]; rfl
 refine pure_ (i := 3) (N := some 82) (v := ?_) (a' := ?_) (bA 6 11) rfl rfl (by kernel_rfl) (fun _ _ _ h => h) (Or.inl ⟨by rfl, ?_⟩) ?_ ?_
 rotate_left
 {
 intro w'
 go_simp
 with_reducible rfl
 }
 rotate_left
 · simp only [Act.put, zs, zz, zk, i64_w, i32_w]; rfl
 refine take_ (i := 2) (N := some 81) (v := ?_) (a' := ?_) (bA 6 15) rfl rfl (by kernel_rfl) (fun _ _ _ h => h) (Or.inl ⟨by rfl, ?_⟩) hHeld ?_ ?_
 rotate_left
 {
 rintro w' ⟨s0, s1, s2⟩
 go_simp
 with_reducible rfl
 }
 rotate_left
 · simp only [Act.put, zs, zz, zk, i64_w, i32_w]; rfl
 refine take_ (i := 4) (N := some 83) (v := ?_) (a' := ?_) (bA 6 31) rfl rfl (by kernel_rfl) (fun _ _ _ h => h) (Or.inl ⟨by rfl, ?_⟩) hHeld ?_ ?_
 rotate_left
 {
 rintro w' ⟨s0, s1, s2⟩
 go_simp
 with_reducible rfl
 }
 rotate_left
 · simp only [Act.put, zs, zz, zk, i64_w, i32_w]; rfl
 refine pure_ (i := 5) (N := some 84) (v := ?_) (a' := ?_) (bA 6 63) rfl rfl (by kernel_rfl) (fun _ _ _ h => h) (Or.inl ⟨by rfl, ?_⟩) ?_ ?_
 rotate_left
 {
 intro w'
 go_simp
 with_reducible rfl
 }
 rotate_left
 · simp only [Act.put, zs, zz, zk, i64_w, i32_w]; rfl
 refine done_ (by kernel_rfl) ?_
 try go_wp2
 go_ret2
 exact ⟨_, by first | rfl | (simp [errW_none, errW_some] <;> rfl) | (simp only [← hji6]; first | rfl | (simp [errW_none, errW_some] <;> rfl)) | (simp [*, errW_none, errW_some] <;> rfl), by (with_reducible repeat (first | apply Kd.R_alloc | apply Kd.R_drewN | apply Kd.R_drew)); exact HO_6.out, zBG HB.out GE173.out⟩
 }
 {
 rw [if_neg c60] at H
 have c60b0 : ((bt a1 x9_2) == a0_1) = false := beq_eq_false_iff_ne.mpr c60
 have c60b1 : ((bt a1 x9_2) != a0_1) = true := bne_iff_ne.mpr c60
 have H' := ak H
 clear H
 try go_wp2
 replace HO_6 := ak (Kd.R_drew HO_6.out)
 replace HO_8 := ak (Kd.R_drew HO_8.out)
 replace BK173 := ak (blk_drew BK173.out)
 replace HB := ak (below_drew1 HB.out)
 have p48 : 0 ≤ (x9_2 : Int) := of_decide_eq_true (by first | (with_reducible assumption) | assumption)
 have q48 : x9_2 < (a1.size : Int) := of_decide_eq_true (by first | (with_reducible assumption) | assumption)
 have hx48 := bt_at a1 x9_2
 replace p48 := eq_true p48
 replace q48 := eq_true q48
 refine start_ (n := 6) (S := fun w' => w'.cell? ⟨gb173, 0, none⟩ = some (.int .i8 a0_0) ∧ w'.cell? ⟨gb173, 1, none⟩ = some (.int .u8 a0_1) ∧ w'.cell? ⟨gb173, 2, none⟩ = some (.int .u8 a0_2)) (ds := []) (bA 6 0) (by kernel_rfl) rfl rfl ⟨(blk_cell BK173.out 0).trans rfl, (blk_cell BK173.out 1).trans rfl, (blk_cell BK173.out 2).trans rfl⟩ (fun hHeld => ?_)
 generalize wr.drew = w63 at HO_6 HO_8 BK173 HB hHeld ⊢
 refine pure_ (i := 0) (N := some 69) (v := ?_) (a' := ?_) (bA 6 1) rfl rfl (by kernel_rfl) (fun _ _ _ h => h) (Or.inl ⟨by rfl, ?_⟩) ?_ ?_
 rotate_left
 {
 intro w'
 go_simp
 with_reducible rfl
 }
 rotate_left
 · simp only [Act.put, zs, zz, zk, i64_w, i32_w]; rfl
 refine pure_ (i := 1) (N := some 70) (v := ?_) (a' := ?_) (bA 6 3) rfl rfl (by kernel_rfl) (fun _ _ _ h => h) (Or.inl ⟨by rfl, ?_⟩) ?_ ?_
 rotate_left
 {
 intro w'
 go_simp
 with_reducible rfl
 }
 rotate_left
 · simp only [Act.put, zs, zz, zk, i64_w, i32_w]; rfl
 refine pure_ (i := 3) (N := some 72) (v := ?_) (a' := ?_) (bA 6 11) rfl rfl (by kernel_rfl) (fun _ _ _ h => h) (Or.inl ⟨by rfl, ?_⟩) ?_ ?_
 rotate_left
 {
 intro w'
 go_simp
 with_reducible rfl
 }
 rotate_left
 · simp only [Act.put, zs, zz, zk, i64_w, i32_w]; rfl
 refine take_ (i := 2) (N := some 71) (v := ?_) (a' := ?_) (bA 6 15) rfl rfl (by kernel_rfl) (fun _ _ _ h => h) (Or.inl ⟨by rfl, ?_⟩) hHeld ?_ ?_
 rotate_left
 {
 rintro w' ⟨s0, s1, s2⟩
 go_simp
 with_reducible rfl
 }
 rotate_left
 · simp only [Act.put, zs, zz, zk, i64_w, i32_w]; rfl
 refine take_ (i := 4) (N := some 73) (v := ?_) (a' := ?_) (bA 6 31) rfl rfl (by kernel_rfl) (fun _ _ _ h => h) (Or.inl ⟨by rfl, ?_⟩) hHeld ?_ ?_
 rotate_left
 {
 rintro w' ⟨s0, s1, s2⟩
 go_simp
 with_reducible rfl
 }
 rotate_left
 · simp only [Act.put, zs, zz, zk, i64_w, i32_w]; rfl
 refine pure_ (i := 5) (N := some 74) (v := ?_) (a' := ?_) (bA 6 63) rfl rfl (by kernel_rfl) (fun _ _ _ h => h) (Or.inl ⟨by rfl, ?_⟩) ?_ ?_
 rotate_left
 {
 intro w'
 go_simp
 with_reducible rfl
 }
 rotate_left
 · simp only [Act.put, zs, zz, zk, i64_w, i32_w]; rfl
 refine done_ (by kernel_rfl) ?_
 try go_wp2
 replace HO_6 := ak (Kd.R_drew HO_6.out)
 replace HO_8 := ak (Kd.R_drew HO_8.out)
 replace BK173 := ak (blk_drew BK173.out)
 replace HB := ak (below_drew1 HB.out)
 have p59 : 0 ≤ (x9_2 : Int) := of_decide_eq_true (by first | (with_reducible assumption) | assumption)
 have q59 : x9_2 < (a1.size : Int) := of_decide_eq_true (by first | (with_reducible assumption) | assumption)
 have hx59 := bt_at a1 x9_2
 replace p59 := eq_true p59
 replace q59 := eq_true q59
 refine start_ (n := 6) (S := fun w' => w'.cell? ⟨gb173, 0, none⟩ = some (.int .i8 a0_0) ∧ w'.cell? ⟨gb173, 1, none⟩ = some (.int .u8 a0_1) ∧ w'.cell? ⟨gb173, 2, none⟩ = some (.int .u8 a0_2)) (ds := []) (bA 6 0) (by kernel_rfl) rfl rfl ⟨(blk_cell BK173.out 0).trans rfl, (blk_cell BK173.out 1).trans rfl, (blk_cell BK173.out 2).trans rfl⟩ (fun hHeld => ?_)
 generalize w63.drew = w64 at HO_6 HO_8 BK173 HB hHeld ⊢
 refine pure_ (i := 0) (N := some 79) (v := ?_) (a' := ?_) (bA 6 1) rfl rfl (by kernel_rfl) (fun _ _ _ h => h) (Or.inl ⟨by rfl, ?_⟩) ?_ ?_
 rotate_left
 {
 intro w'
 go_simp
 with_reducible rfl
 }
 rotate_left
 · simp only [Act.put, zs, zz, zk, i64_w, i32_w]; rfl
 refine pure_ (i := 1) (N := some 80) (v := ?_) (a' := ?_) (bA 6 3) rfl rfl (by kernel_rfl) (fun _ _ _ h => h) (Or.inl ⟨by rfl, ?_⟩) ?_ ?_
 rotate_left
 {
 intro w'
 go_simp
 with_reducible rfl
 }
 rotate_left
 · simp only [Act.put, zs, zz, zk, i64_w, i32_w]; rfl
 refine pure_ (i := 3) (N := some 82) (v := ?_) (a' := ?_) (bA 6 11) rfl rfl (by kernel_rfl) (fun _ _ _ h => h) (Or.inl ⟨by rfl, ?_⟩) ?_ ?_
 rotate_left
 {
 intro w'
 go_simp
 with_reducible rfl
 }
 rotate_left
 · simp only [Act.put, zs, zz, zk, i64_w, i32_w]; rfl
 refine take_ (i := 2) (N := some 81) (v := ?_) (a' := ?_) (bA 6 15) rfl rfl (by kernel_rfl) (fun _ _ _ h => h) (Or.inl ⟨by rfl, ?_⟩) hHeld ?_ ?_
 rotate_left
 {
 rintro w' ⟨s0, s1, s2⟩
 go_simp
 with_reducible rfl
 }
 rotate_left
 · simp only [Act.put, zs, zz, zk, i64_w, i32_w]; rfl
 refine take_ (i := 4) (N := some 83) (v := ?_) (a' := ?_) (bA 6 31) rfl rfl (by kernel_rfl) (fun _ _ _ h => h) (Or.inl ⟨by rfl, ?_⟩) hHeld ?_ ?_
 rotate_left
 {
 rintro w' ⟨s0, s1, s2⟩
 go_simp
 with_reducible rfl
 }
 rotate_left
 · simp only [Act.put, zs, zz, zk, i64_w, i32_w]; rfl
 refine pure_ (i := 5) (N := some 84) (v := ?_) (a' := ?_) (bA 6 63) rfl rfl (by kernel_rfl) (fun _ _ _ h => h) (Or.inl ⟨by rfl, ?_⟩) ?_ ?_
 rotate_left
 {
 intro w'
 go_simp
 with_reducible rfl
 }
 rotate_left
 · simp only [Act.put, zs, zz, zk, i64_w, i32_w]; rfl
 refine done_ (by kernel_rfl) ?_
 try go_wp2
 go_roundg k2
 case measure => have := HJ9.out; have := HK2.out; omega
 case rel => exact ⟨(x8_2), (wrap64 (x9_2 + 1)), (by first | rfl | (simp; done) | (simp [*]; done)), H', ⟨by have := HJ9.out; have := HK2.out; omega⟩, ⟨(zR HO_6.out)⟩, ⟨(zR HO_8.out)⟩, ⟨(zK BK173.out)⟩, ⟨zBG HB.out GE173.out⟩⟩
 }
 }
 }
 · rw [if_neg c47] at H; exact absurd H (by simp)
 }
 {
 rw [if_neg c46] at H
 have c46b0 : decide (x9_2 < (a1.size : Int)) = false := decide_eq_false c46
 clear c46
 by_cases c65 : (x8_2.length : Int) > 8
 {
 rw [if_pos c65] at H
 have c65b0 : decide (8 < (x8_2.length : Int)) = true := decide_eq_true c65
 have c65b1 : decide (8 < x8_2.length) = true := decide_eq_true (by omega)
 clear c65
 simp only [Option.some.injEq, Prod.mk.injEq] at H
 obtain ⟨rfl, rfl⟩ := H
 obtain ⟨Ao66, co66, eo66⟩ := Kd.R_slice HO_8.out
 subst eo66
 go_wp2
 go_ret2
 exact ⟨_, by first | rfl | (simp [errW_none, errW_some] <;> rfl) | (simp only [← hji6]; first | rfl | (simp [errW_none, errW_some] <;> rfl)) | (simp [*, errW_none, errW_some] <;> rfl), by (with_reducible repeat (first | apply Kd.R_alloc | apply Kd.R_drewN | apply Kd.R_drew)); exact HO_6.out, zBG HB.out GE173.out⟩
 }
 {
 rw [if_neg c65] at H
 have c65b0 : decide (8 < (x8_2.length : Int)) = false := decide_eq_false c65
 have c65b1 : decide (8 < x8_2.length) = false := decide_eq_false (by omega)
 clear c65
 have H' := ak H
 clear H
 obtain ⟨Ao67, co67, eo67⟩ := Kd.R_slice HO_8.out
 subst eo67
 go_wp2
 go_loopg [6, 10] k2 (fun kq v6 v10 w' => ∃ (x6_3 : List ByteArray) (x10_3 : Int), v10 = .int .i64 x10_3 ∧ Aside0 (spec_l04Pasts.l2 kq a1 x6_3 x8_2 x10_3 a0_0 a0_1 a0_2 = some (r1, r2)) ∧ Aside0 (kq ≤ k2) ∧ Aside0 (Kd.R Kd.string 9 w' w.heap.size (fun _ => True) v6 x6_3) ∧ Aside0 (Kd.R (Kd.int .i64) 3 w' w.heap.size (fun _ => True) (.slice Ao67 x8_2.length co67) x8_2) ∧ Aside0 (w'.heap[gb173]? = some (.cells #[.int .i8 a0_0, .int .u8 a0_1, .int .u8 a0_2] 40 (0, 0))) ∧ Aside0 (Below w.heap.size w w'))
 case atStart => exact ⟨(y193), (0), (by first | rfl | (simp; done) | (simp [*]; done)), H', ⟨Nat.le_refl _⟩, ⟨(zR HO_6.out)⟩, ⟨(zR HO_8.out)⟩, ⟨(zK BK173.out)⟩, ⟨zBG HB.out GE173.out⟩⟩
 case round => (
 clear H'
 try clear c46
 try clear c46b0
 try clear c65
 try clear c65b0
 try clear c65b1
 obtain ⟨x6_3, x10_3, rfl, HA, HK3, HO_6, HO_8, BK173, HB⟩ := hrel
 cases gk with
 | zero => exact absurd HA.out (by simp [spec_l04Pasts.l2])
 | succ k3 => (
 have H := HA.out
 clear HA
 simp only [spec_l04Pasts.l2] at H
 obtain ⟨ji68, hji68⟩ : ∃ j_ : Int, (IntKind.u64.wrap ((x8_2.length : Int))) = j_ := ⟨_, rfl⟩
 first | rw [hji68] at H | simp only [hji68] at H
 by_cases c69 : 0 ≤ (ji68)
 {
 rw [if_pos c69] at H
 have c69b0 := eq_true c69
 have c69b1 : decide (0 ≤ (ji68)) = true := decide_eq_true c69
 clear c69
 obtain ⟨ji70, hji70⟩ : ∃ j_ : Int, (shl .i64 1 (ji68)) = j_ := ⟨_, rfl⟩
 first | rw [hji70] at H | simp only [hji70] at H
 have hji70_ : (IntKind.i64.wrap (1 * 2 ^ min (ji68).toNat 64)) = ji70 := hji70
 have hji70z : (ji68) ≤ 64 → (IntKind.i64.wrap (1 * 2 ^ (ji68).toNat)) = ji70 := shl_small hji70
 have hji70u : (IntKind.i64.wrap (2 ^ min (ji68).toNat 64)) = ji70 := by have h_ := hji70_; rw [Int.one_mul] at h_; exact h_
 have hji70v : (ji68) ≤ 64 → (IntKind.i64.wrap (2 ^ (ji68).toNat)) = ji70 := fun hle_ => by have h_ := hji70z hle_; rw [Int.one_mul] at h_; exact h_
 have hji70y : (wrap64 (1 * 2 ^ min (ji68).toNat 64)) = ji70 := (i64_w _).symm.trans hji70_
 have hji70x : (ji68) ≤ 64 → (wrap64 (1 * 2 ^ (ji68).toNat)) = ji70 := fun h_ => (i64_w _).symm.trans (hji70z h_)
 by_cases c71 : x10_3 < (ji70)
 {
 rw [if_pos c71] at H
 have c71b0 : decide (x10_3 < (ji70)) = true := decide_eq_true c71
 clear c71
 by_cases c72 : 0 ≤ (a1.size : Int)
 {
 rw [if_pos c72] at H
 have c72b0 := eq_true c72
 have c72b1 : decide (0 ≤ (a1.size : Int)) = true := decide_eq_true c72
 clear c72
 by_cases c73 : ((a1.size : Int) : Int).toNat ≤ 281474976710656
 {
 rw [if_pos c73] at H
 have c73b0 := eq_true c73
 have c73b1 : decide (((a1.size : Int) : Int).toNat ≤ 281474976710656) = true := decide_eq_true c73
 clear c73
 obtain ⟨y202, hy202⟩ : ∃ y_ : List Int, y_ = (bytesOf a1) := ⟨_, rfl⟩
 replace H : (spec_l04Pasts.l3 k3 a1 x6_3 x8_2 x10_3 y202 0 a0_0 a0_1 a0_2) = some (r1, r2) := by first | (rw [hy202]; with_reducible exact H) | (have H2_ := (Option.bind_some _ _).symm.trans H; rw [hy202]; with_reducible exact H2_) | (have H2_ := (Option.bind_some _ _).symm.trans H; with_reducible exact H2_) | with_reducible exact H | (rw [hy202]; exact H) | exact H
 have Ny202 := ak hy202
 clear hy202
 have H' := ak H
 clear H
 have hcvz := Lib.run_convert_string_bytes (P := Tryz.prog) wr 9 22 5 a1 Tryz.underlying9 Tryz.underlying22 Tryz.underlying5
 have hz_ := Go.Proofs.YtobickehjnogjaaGreatDoor.H.RZ_new wr w.heap.size a1 (below_size (zBG HB.out GE173.out))
 have hb := bytes_below (Below.refl wr.heap.size wr) (Nat.le_refl _) 5 a1
 rw [← Ny202.out] at hz_
 generalize hw_ : Lib.bytesWorld wr 5 a1 = w74 at hcvz hz_ hb
 generalize hv_ : (Value.slice (some ⟨wr.heap.size, 0, none⟩) a1.size (grownCap wr a1.size 0 5)) = v203 at hcvz hz_
 clear hw_ hv_
 have HO204 := ak hz_
 replace HO_6 := kR HO_6 hb
 replace HO_8 := kR HO_8 hb
 replace BK173 := kK BK173 hb
 replace HB := kB1 HB GE173 hb
 go_wp2
 clear hcvz
 go_loopg [12] k3 (fun kq v12 w' => ∃ (x11_4 : List Int) (x12_4 : Int), v12 = .int .i64 x12_4 ∧ Aside0 (spec_l04Pasts.l3 kq a1 x6_3 x8_2 x10_3 x11_4 x12_4 a0_0 a0_1 a0_2 = some (r1, r2)) ∧ Aside0 (kq ≤ k3) ∧ Aside0 (Kd.R Kd.string 9 w' w.heap.size (fun _ => True) u6 x6_3) ∧ Aside0 (Kd.R (Kd.int .i64) 3 w' w.heap.size (fun _ => True) (.slice Ao67 x8_2.length co67) x8_2) ∧ Aside0 (Go.Proofs.YtobickehjnogjaaGreatDoor.H.RZ w' w.heap.size v203 x11_4) ∧ Aside0 (w'.heap[gb173]? = some (.cells #[.int .i8 a0_0, .int .u8 a0_1, .int .u8 a0_2] 40 (0, 0))) ∧ Aside0 (Below w.heap.size w w'))
 case atStart => exact ⟨(y202), (0), (by first | rfl | (simp; done) | (simp [*]; done)), H', ⟨Nat.le_refl _⟩, ⟨(zR HO_6.out)⟩, ⟨(zR HO_8.out)⟩, ⟨(zR HO204.out)⟩, ⟨(zK BK173.out)⟩, ⟨zBG HB.out GE173.out⟩⟩
 case round => (
 clear H'
 try clear c7
 try clear c46
 try clear c46b0
 try clear c65
 try clear c65b0
 try clear c65b1
 try clear c69
 try clear c69b0
 try clear c69b1
 try clear c71
 try clear c71b0
 try clear c72
 try clear c72b0
 try clear c72b1
 try clear c73
 try clear c73b0
 try clear c73b1
 obtain ⟨x11_4, x12_4, rfl, HA, HK4, HO_6, HO_8, HO_11, BK173, HB⟩ := hrel
 cases gk with
 | zero => exact absurd HA.out (by simp [spec_l04Pasts.l3])
 | succ k4 => (
 have H := HA.out
 clear HA
 simp only [spec_l04Pasts.l3] at H
 by_cases c76 : x12_4 < (x8_2.length : Int)
 {
 rw [if_pos c76] at H
 have c76b0 : decide (x12_4 < (x8_2.length : Int)) = true := decide_eq_true c76
 clear c76
 obtain ⟨ji77, hji77⟩ : ∃ j_ : Int, (IntKind.u64.wrap (x12_4)) = j_ := ⟨_, rfl⟩
 first | rw [hji77] at H | simp only [hji77] at H
 by_cases c78 : 0 ≤ (ji77)
 {
 rw [if_pos c78] at H
 have c78b0 := eq_true c78
 have c78b1 : decide (0 ≤ (ji77)) = true := decide_eq_true c78
 clear c78
 obtain ⟨ji79, hji79⟩ : ∃ j_ : Int, (shr .i64 x10_3 (ji77)) = j_ := ⟨_, rfl⟩
 first | rw [hji79] at H | simp only [hji79] at H
 have hji79_ : (x10_3 / 2 ^ min (ji77).toNat 64) = ji79 := hji79
 have hji79z : (ji77) ≤ 64 → (x10_3 / 2 ^ (ji77).toNat) = ji79 := shr_small hji79
 by_cases c80 : (Go.bits .and .i64 (ji79) 1) = 1
 {
 rw [if_pos c80] at H
 have c80b0 : ((Go.bits .and .i64 (ji79) 1) == 1) = true := beq_iff_eq.mpr c80
 have c80b1 : ((Go.bits .and .i64 (ji79) 1) != 1) = false := bne_eq_false_iff_eq.mpr c80
 clear c80
 by_cases c81 : 0 ≤ x12_4
 {
 rw [if_pos c81] at H
 have c81b0 : decide (0 ≤ x12_4) = true := decide_eq_true c81
 clear c81
 by_cases c82 : 0 ≤ (rd x8_2 x12_4)
 {
 rw [if_pos c82] at H
 have c82b0 : decide (0 ≤ (rd x8_2 x12_4)) = true := decide_eq_true c82
 clear c82
 by_cases c83 : (rd x8_2 x12_4) < (x11_4.length : Int)
 {
 rw [if_pos c83] at H
 have c83b0 : decide ((rd x8_2 x12_4) < (x11_4.length : Int)) = true := decide_eq_true c83
 clear c83
 obtain ⟨y206, hy206⟩ : ∃ y_ : List Int, y_ = (x11_4.set ((rd x8_2 x12_4) : Int).toNat a0_1) := ⟨_, rfl⟩
 replace H : (spec_l04Pasts.l3 k4 a1 x6_3 x8_2 x10_3 y206 (wrap64 (x12_4 + 1)) a0_0 a0_1 a0_2) = some (r1, r2) := by first | (rw [hy206]; with_reducible exact H) | (have H2_ := (Option.bind_some _ _).symm.trans H; rw [hy206]; with_reducible exact H2_) | (have H2_ := (Option.bind_some _ _).symm.trans H; with_reducible exact H2_) | with_reducible exact H | (rw [hy206]; exact H) | exact H
 have Ny206 := ak hy206
 clear hy206
 have H' := ak H
 clear H
 try go_wp2
 replace HO_6 := ak (Kd.R_drew HO_6.out)
 replace HO_8 := ak (Kd.R_drew HO_8.out)
 replace HO_11 := ak (Go.Proofs.YtobickehjnogjaaGreatDoor.H.RZ_drew HO_11.out)
 replace BK173 := ak (blk_drew BK173.out)
 replace HB := ak (below_drew1 HB.out)
 have p205 : 0 ≤ (x12_4 : Int) := of_decide_eq_true (by first | (with_reducible assumption) | assumption)
 have q205 : x12_4 < (x8_2.length : Int) := of_decide_eq_true (by first | (with_reducible assumption) | assumption)
 obtain ⟨ad205, e205, hx205_0⟩ := Kd.at_int (Kd.R_reads' HO_8.out).2.2 x12_4 p205 q205
 cases e205
 replace p205 := eq_true p205
 replace q205 := eq_true q205
 have p84 : 0 ≤ ((rd x8_2 x12_4) : Int) := of_decide_eq_true (by first | (with_reducible assumption) | assumption)
 have q84 : ((rd x8_2 x12_4) : Int) < ((x11_4.length : Int) : Int) := of_decide_eq_true (by first | (with_reducible assumption) | assumption)
 obtain ⟨go84, co84, eo84, gb84, gl84, cl84, HG84⟩ := Go.Proofs.YtobickehjnogjaaGreatDoor.H.RZ_form HO_11.out
 (first | cases eo84 | (injection eo84 with ea_ en_ ec_; (first | subst ea_ | (injection ea_ with ea_; subst ea_)); subst ec_; clear en_))
 have GB84 := ak gb84
 have GG84 := ak HG84
 clear gb84 gl84 HG84
 obtain ⟨hx84_0, hf84_0⟩ := Go.Proofs.YtobickehjnogjaaGreatDoor.H.RZ_celln HO_11.out ((rd x8_2 x12_4) : Int) p84 q84
 replace p84 := eq_true p84
 replace q84 := eq_true q84
 have HP86 := Go.Proofs.YtobickehjnogjaaGreatDoor.H.RZ_putn HO_11.out ((rd x8_2 x12_4) : Int) a0_1
 rw [← Ny206.out] at HP86
 have HQ86 := ak HP86
 clear HP86
 refine start_ (n := 9) (S := fun w' => w'.cell? ⟨gb173, 0, none⟩ = some (.int .i8 a0_0) ∧ w'.cell? ⟨gb173, 1, none⟩ = some (.int .u8 a0_1) ∧ w'.cell? ⟨gb173, 2, none⟩ = some (.int .u8 a0_2) ∧ w'.cell? (ad205.add (x12_4).toNat) = some (.int .i64 (rd x8_2 x12_4))) (ds := [8]) (bA 9 0) (by kernel_rfl) rfl rfl ⟨(blk_cell BK173.out 0).trans rfl, (blk_cell BK173.out 1).trans rfl, (blk_cell BK173.out 2).trans rfl, hx205_0⟩ (fun hHeld => ?_); refine with_tabW spec_l04Pasts.tab29 spec_l04Pasts.bits29 (fun HT_ HW_ => ?_)
 generalize wr.drew = w85 at HO_6 HO_8 HO_11 BK173 HB GG84 HQ86 hf84_0 hx205_0 hx84_0 hHeld ⊢
 refine pU 0 112 (bA 9 1) HT_ ?_
 refine pU 1 113 (bA 9 3) HT_ ?_
 refine pU 2 114 (bA 9 7) HT_ ?_
 refine pU 3 115 (bA 9 15) HT_ ?_
 refine pU 5 117 (bA 9 47) HT_ ?_
 refine tK 4 116 (bA 9 63) HT_ HW_ hHeld ?_
 refine tK 6 118 (bA 9 127) HT_ HW_ hHeld ?_
 refine pU 7 119 (bA 9 255) HT_ ?_
 refine last_ (i := 8) (N := none) #[true, true, true, true, true, true, true, true, true] rfl rfl (one_of HT_.out (by kernel_rfl)) (by decide) (fun K hK => ?_)
 refine skip_ (w1 := ?_) (by rfl) rfl ?_ ?_
 rotate_left
 · go_simp; rfl
 refine hK.out _ _ ?_
 clear hK K
 refine done_ (done_of HT_.out (by kernel_rfl)) ?_
 try go_wp2
 go_roundg k4
 case measure => have := HJ9.out; have := HK2.out; have := HK3.out; have := HK4.out; omega
 case rel => exact ⟨(y206), (wrap64 (x12_4 + 1)), (by first | rfl | (simp; done) | (simp [*]; done)), H', ⟨by have := HJ9.out; have := HK2.out; have := HK3.out; have := HK4.out; omega⟩, ⟨by (with_reducible repeat (first | apply Kd.R_alloc | apply Kd.R_drewN | apply Kd.R_drew)); exact Kd.R_mono (Kd.R_far (p := ⟨go84, ((rd x8_2 x12_4) : Int).toNat, none⟩) (Go.Proofs.YtobickehjnogjaaGreatDoor.H.R_offB HO_6.out GG84.out (by decide)) (fun _ hk => hk.2) (.int .u8 a0_1)) (fun _ hk => trivial)⟩, ⟨by (with_reducible repeat (first | apply Kd.R_alloc | apply Kd.R_drewN | apply Kd.R_drew)); exact Kd.R_mono (Kd.R_far (p := ⟨go84, ((rd x8_2 x12_4) : Int).toNat, none⟩) (Go.Proofs.YtobickehjnogjaaGreatDoor.H.R_offB HO_8.out GG84.out (by decide)) (fun _ hk => hk.2) (.int .u8 a0_1)) (fun _ hk => trivial)⟩, ⟨(zR HQ86.out)⟩, ⟨by (with_reducible repeat (first | refine blk_drewN ?_ _ | refine blk_drew ?_ | refine blk_alloc ?_ _)); refine blk_far ?_ (by have h_ := Go.Proofs.YtobickehjnogjaaGreatDoor.H.RZ_ne HO_11.out BK173.out (by decide); intro e_; exact h_ (by rw [e_]; rfl)) _; (with_reducible repeat (first | refine blk_drewN ?_ _ | refine blk_drew ?_ | refine blk_alloc ?_ _)); exact BK173.out⟩, ⟨zH2 HB GB84 GE173⟩⟩
 }
 · rw [if_neg c83] at H; exact absurd H (by simp)
 }
 · rw [if_neg c82] at H; exact absurd H (by simp)
 }
 · rw [if_neg c81] at H; exact absurd H (by simp)
 }
 {
 rw [if_neg c80] at H
 have c80b0 : ((Go.bits .and .i64 (ji79) 1) == 1) = false := beq_eq_false_iff_ne.mpr c80
 have c80b1 : ((Go.bits .and .i64 (ji79) 1) != 1) = true := bne_iff_ne.mpr c80
 have H' := ak H
 clear H
 go_wp2
 go_roundg k4
 case measure => have := HJ9.out; have := HK2.out; have := HK3.out; have := HK4.out; omega
 case rel => exact ⟨(x11_4), (wrap64 (x12_4 + 1)), (by first | rfl | (simp; done) | (simp [*]; done)), H', ⟨by have := HJ9.out; have := HK2.out; have := HK3.out; have := HK4.out; omega⟩, ⟨(zR HO_6.out)⟩, ⟨(zR HO_8.out)⟩, ⟨(zR HO_11.out)⟩, ⟨(zK BK173.out)⟩, ⟨zBG HB.out GE173.out⟩⟩
 }
 }
 · rw [if_neg c78] at H; exact absurd H (by simp)
 }
 {
 rw [if_neg c76] at H
 have c76b0 : decide (x12_4 < (x8_2.length : Int)) = false := decide_eq_false c76
 clear c76
 replace H := Option.bind_eq_some_iff.mp H
 obtain ⟨t207, A870, H⟩ := H
 have A87 := ak A870
 clear A870
 have H' := ak H
 clear H
 have hcv88 := Go.Proofs.YtobickehjnogjaaGreatDoor.H.RZ_string HO_11.out
 obtain ⟨Ao89, co89, eo89⟩ := Kd.R_slice HO_6.out
 subst eo89
 go_wp2_with (first | ((with_reducible refine gate_callee (f := 51) rfl ?_); refine goesL_ (some 123) rfl rfl Tryz.func51 (by kernel_rfl) rfl #[.slice Ao89 x6_3.length co89, .string (strOfNums x11_4)] rfl gl_ ?_; (with_reducible refine (spec_l04Put.calls k4 (fun k_ => some k_ = (.slice Ao89 x6_3.length co89 : Value).ownBlock) (.slice Ao89 x6_3.length co89) x6_3 (strOfNums x11_4) t207 w _ ?side1 ?side2 A87.out).mono ?_); (case side1 => repeat (first | (with_reducible first | exact HB.out | apply below_alloc | apply pw_below_drewN | apply below_drew1 | refine below_set ?_ GE173.out) | exact HB.out)); (case side2 => exact Kd.R_tight rfl HO_6.out); rintro e w90 ⟨v208, rfl, ho0, hb, hkp⟩; refine ⟨_, rfl, ?_⟩; have n0_ := ak (Kd.R_mono (ok' := fun k_ => True) (Kd.R_keptB ((Kd.R_apart' HO_8.out (Kd.R_typed HO_6.out) (by decide))) hkp (fun k_ hk_ hs_ => (hk_.2) hs_)) (fun k_ hk_ => trivial)); have n2_ := ak (blk_kept (zK BK173.out) hkp (fun hs_ => (fun e_ => (Kd.R_ne HO_6.out BK173.out (by decide)) e_) hs_)); have n3_ := ak (Kd.R_mono (ok' := fun k_ => True) ho0 (fun k_ hk_ => trivial)); have n4_ := ak (hb); clear HO_8 HO_11 BK173 HB HO_6; have HO_8 := n0_; have BK173 := n2_; have HO209 := n3_; have HB := n4_; clear n0_ n2_ n3_ n4_; (try clear hb); (try clear hkp); (try clear ho0)))
 go_roundg k4
 case measure => have := HJ9.out; have := HK2.out; have := HK3.out; have := HK4.out; omega
 case rel => exact ⟨(t207), (wrap64 (x10_3 + 1)), (by first | rfl | (simp; done) | (simp [*]; done)), H', ⟨by have := HJ9.out; have := HK2.out; have := HK3.out; have := HK4.out; omega⟩, ⟨(zR HO209.out)⟩, ⟨(zR HO_8.out)⟩, ⟨(zK BK173.out)⟩, ⟨zBG HB.out GE173.out⟩⟩
 }
 )
 )
 }
 · rw [if_neg c73] at H; exact absurd H (by simp)
 }
 · rw [if_neg c72] at H; exact absurd H (by simp)
 }
 {
 rw [if_neg c71] at H
 have c71b0 : decide (x10_3 < (ji70)) = false := decide_eq_false c71
 clear c71
 simp only [Option.some.injEq, Prod.mk.injEq] at H
 obtain ⟨rfl, rfl⟩ := H
 obtain ⟨Ao91, co91, eo91⟩ := Kd.R_slice HO_6.out
 subst eo91
 go_wp2
 go_ret2
 exact ⟨_, by first | rfl | (simp [errW_none, errW_some] <;> rfl) | (simp only [← hji6, ← hji68, ← hji70]; first | rfl | (simp [errW_none, errW_some] <;> rfl)) | (simp [*, errW_none, errW_some] <;> rfl), by (with_reducible repeat (first | apply Kd.R_alloc | apply Kd.R_drewN | apply Kd.R_drew)); exact HO_6.out, zBG HB.out GE173.out⟩
 }
 }
 · rw [if_neg c69] at H; exact absurd H (by simp)
 )
 )
 }
 }
 )
 )
 }
 {
 rw [if_neg c40] at H
 have c40b0 : (a0_0 == 1) = false := beq_eq_false_iff_ne.mpr c40
 have c40b1 : (a0_0 != 1) = true := bne_iff_ne.mpr c40
 simp only [Option.some.injEq, Prod.mk.injEq] at H
 obtain ⟨rfl, rfl⟩ := H
 have hcz92_0 : wc.cell? ⟨gb173, 0, none⟩ = some (.int .i8 a0_0) := (blk_cell BK173.out 0).trans rfl
 have hcz92_1 : wc.cell? ⟨gb173, 1, none⟩ = some (.int .u8 a0_1) := (blk_cell BK173.out 1).trans rfl
 have hcz92_2 : wc.cell? ⟨gb173, 2, none⟩ = some (.int .u8 a0_2) := (blk_cell BK173.out 2).trans rfl
 have hfz92_0 := blk_frozen BK173.out 0
 have hfz92_1 := blk_frozen BK173.out 1
 have hfz92_2 := blk_frozen BK173.out 2
 obtain ⟨Ao93, co93, eo93⟩ := Kd.R_slice HO_6.out
 subst eo93
 go_wp2
 go_ret2
 exact ⟨_, by first | rfl | (simp [errW_none, errW_some] <;> rfl) | (simp only [← hji6]; first | rfl | (simp [errW_none, errW_some] <;> rfl)) | (simp [*, errW_none, errW_some] <;> rfl), by (with_reducible repeat (first | apply Kd.R_alloc | apply Kd.R_drewN | apply Kd.R_drew)); exact HO_6.out, zBG HB.out GE173.out⟩
 }
 )
 )
 }
 · rw [if_neg c8] at H; exact absurd H (by simp)
 }
 · rw [if_neg c7] at H; exact absurd H (by simp)
end Go.Proofs.YtobickehjnogjaaGreatDoor.P
