-- Printed by wip/print (my turned copy of the kit's print) out of the translation; Lean checks it.
import Derived.Test.YtobickehjnogjaaGreatDoorP0
import Derived.Test.YtobickehjnogjaaGreatDoorP7
import Derived.Test.YtobickehjnogjaaGreatDoorP8
namespace Go.Proofs.YtobickehjnogjaaGreatDoor.P
open Go.RowKit Go.Proofs.YtobickehjnogjaaGreatDoorW.PrintWords Go.Proofs.YtobickehjnogjaaGreatDoorW.PrintLast Go.Proofs.YtobickehjnogjaaGreatDoorW.PrintMore
attribute [local go_sem] max2_int min2_int max_two min_two max_three min_three max_four min_four   -- for this text's walks alone
set_option linter.unusedVariables false
set_option linter.unusedSimpArgs false

/-! ### impl_ReadHabit: function 16 -/
def impl_ReadHabit.l0 : Nat → ByteArray → List ByteArray → Int → Int → Int → Int → Int → Int → Int → Option (Int × Int × Int × Int)
  | 0, _, _, _, _, _, _, _, _, _ => none
  | k + 1, x0, x20, x21, x22, x312000, x312001, x312002, x313000, x313001 => if x22 < x21 then (if 0 ≤ x22 then (if x22 < (x20.length : Int) then (if x22 < 2 then (if ((rdOf ByteArray.empty x20 x22).size : Int) = 1 then (if 0 < ((rdOf ByteArray.empty x20 x22).size : Int) then (if x22 = 0 then (impl_ReadHabit.l0 k x0 x20 x21 (wrap64 (x22 + 1)) x312000 x312001 x312002 (bt (rdOf ByteArray.empty x20 x22) 0) x313001) else (if x22 = 1 then (impl_ReadHabit.l0 k x0 x20 x21 (wrap64 (x22 + 1)) x312000 x312001 x312002 x313000 (bt (rdOf ByteArray.empty x20 x22) 0)) else (none))) else (none)) else (impl_ReadHabit.l0 k x0 x20 x21 (wrap64 (x22 + 1)) x312000 x312001 x312002 x313000 x313001)) else (impl_ReadHabit.l0 k x0 x20 x21 (wrap64 (x22 + 1)) x312000 x312001 x312002 x313000 x313001)) else (none)) else (none)) else (if x0.toList = ([] : List UInt8) then (some (0, 0, 0, 5)) else ((impl_HabitText.f x312000 x313000 x313001).bind fun t317 => (if t317.toList = x0.toList then (some (x312000, x313000, x313001, 0)) else (some (0, 0, 0, 5)))))
def impl_ReadHabit.f (k : Nat) (a0 : ByteArray) (a977_0 : Int) : Option (Int × Int × Int × Int) := (strings_Split.f a0 (⟨#[32]⟩ : ByteArray) a977_0).bind fun t303 => ((impl_habitWords.f).bind fun t306 => (if 0 < (t303.length : Int) then ((slices_Index_Sstring_string.f k t306 (rdOf ByteArray.empty t303 0)).bind fun t310 => (if 1 ≤ (t303.length : Int) then ((some (t303.drop (1 : Int).toNat : List ByteArray)).bind fun y313 => (impl_ReadHabit.l0 k a0 y313 (y313.length : Int) 0 (IntKind.i8.wrap (t310)) 0 0 0 0)) else (none))) else (none)))
def impl_ReadHabit.T2 : Bool × List (List Nat × List Nat) := (true, [([], []), ([], []), ([1], [1]), ([2], [2]), ([0, 3, 0], [0, 3]), ([4], [4]), ([5], [5]), ([], []), ([7, 6, 4, 0, 1, 2, 3, 4, 5, 6, 7], [6, 7])])
def impl_ReadHabit.B2 : List Nat := [0, 0, 2, 6, 15, 31, 63, 0, 255]
theorem impl_ReadHabit.tab2 : rtab .any (opsOf Tryz.f16 2) = impl_ReadHabit.T2 := by kernel_rfl
theorem impl_ReadHabit.bits2 : waitsOk impl_ReadHabit.T2.2 impl_ReadHabit.B2 = true := by kernel_rfl
def impl_ReadHabit.T10 : Bool × List (List Nat × List Nat) := (true, [([], []), ([0], [0]), ([], []), ([2], [2]), ([0, 1], []), ([4, 1, 0, 1], [1, 4]), ([0, 1, 2, 3, 4, 5], []), ([6, 3, 5, 0, 1, 2, 3, 4, 5], [3, 6])])
def impl_ReadHabit.B10 : List Nat := [0, 1, 0, 4, 3, 19, 63, 127]
theorem impl_ReadHabit.tab10 : rtab .any (opsOf Tryz.f16 10) = impl_ReadHabit.T10 := by kernel_rfl
theorem impl_ReadHabit.bits10 : waitsOk impl_ReadHabit.T10.2 impl_ReadHabit.B10 = true := by kernel_rfl
set_option maxHeartbeats 8000000 in
set_option maxRecDepth 100000 in
theorem impl_ReadHabit.calls (k : Nat) (a0 : ByteArray) (a977_0 : Int) (r1 : Int) (r2 : Int) (r3 : Int) (r4 : Int) (w : World) (hx977 : w.heap[0]? = some (.cells #[.int .i64 a977_0] 3 (0, 0))) (h : impl_ReadHabit.f k a0 a977_0 = some (r1, r2, r3, r4)) :
    Calls Tryz.prog 16 #[.string a0] w fun e w' => e = .returned (.tuple #[.agg #[.int .i8 r1, .int .u8 r2, .int .u8 r3], .int .i64 r4]) ∧ Below w.heap.size w w' := by
 have hu40 := Tryz.underlying40
 have hu66 := Tryz.underlying66
 have BK977 := ak hx977
 clear hx977
 have HB := ak (Below.refl w.heap.size w)
 have H := h
 unfold impl_ReadHabit.f at H
 clear h
 replace H := Option.bind_eq_some_iff.mp H
 obtain ⟨t303, A30, H⟩ := H
 have A3 := ak A30
 clear A30
 replace H := Option.bind_eq_some_iff.mp H
 obtain ⟨t306, A40, H⟩ := H
 have A4 := ak A40
 clear A40
 by_cases c5 : 0 < (t303.length : Int)
 {
 rw [if_pos c5] at H
 have c5b0 : decide (0 < (t303.length : Int)) = true := decide_eq_true c5
 have c5b1 : decide (0 < t303.length) = true := decide_eq_true (by omega)
 clear c5
 replace H := Option.bind_eq_some_iff.mp H
 obtain ⟨t310, A60, H⟩ := H
 have A6 := ak A60
 clear A60
 by_cases c7 : 1 ≤ (t303.length : Int)
 {
 rw [if_pos c7] at H
 have c7b0 := eq_true c7
 have c7b1 : decide (1 ≤ (t303.length : Int)) = true := decide_eq_true c7
 clear c7
 obtain ⟨y313, hy313⟩ : ∃ y_ : List ByteArray, y_ = (t303.drop (1 : Int).toNat) := ⟨_, rfl⟩
 replace H : (impl_ReadHabit.l0 k a0 y313 (y313.length : Int) 0 (IntKind.i8.wrap (t310)) 0 0 0 0) = some (r1, r2, r3, r4) := by first | (rw [hy313]; with_reducible exact H) | (have H2_ := (Option.bind_some _ _).symm.trans H; rw [hy313]; with_reducible exact H2_) | (have H2_ := (Option.bind_some _ _).symm.trans H; with_reducible exact H2_) | with_reducible exact H | (rw [hy313]; exact H) | exact H
 have Ny313 := ak hy313
 clear hy313
 have H' := ak H
 clear H
 go_enter Tryz.func16, Tryz.ntmps16
 try go_wp2_with (first | ((with_reducible refine gate_dst (N := 2) rfl ?_); (try (refine gate_guard (by rfl) ?_; dsimp only)); refine box_event ?hg (N := 2) ?hd (cs := #[.int .i8 0, .int .u8 0, .int .u8 0]) (t := 40) ?hr ?_; (case hd => rfl); (case hg => rfl); (case hr => first | (go_simp; done) | (go_simp; rfl)); intro gb302 hg w8 hbox hb; have n0_ := ak (blk_below (g := 0) (o := .cells #[.int .i64 a977_0] 3 (0, 0)) (zK BK977.out) hb); have n1_ := ak (below_step (zB HB.out) hb); have n2_ := ak (hbox); have n3_ := gS HB hg; have n4_ := gS HB hg; have n5_ := nL BK977 hg; have n6_ := nG BK977 hg; clear BK977 HB; have BK977 := n0_; have HB := n1_; have BK302 := n2_; have GW302 := n3_; have GE302 := n4_; have NB977_302 := n5_; have NB302_977 := n6_; clear n0_ n1_ n2_ n3_ n4_ n5_ n6_; clear hb hbox hg) | ((with_reducible refine gate_callee (f := 41) rfl ?_); refine goesL_ (some 10) rfl rfl Tryz.func41 (by kernel_rfl) rfl #[.string a0, .string (⟨#[32]⟩ : ByteArray)] rfl gl_ ?_; (with_reducible refine (strings_Split.calls a0 (⟨#[32]⟩ : ByteArray) a977_0 t303 _ ?side1 A3.out).mono ?_); (case side1 => exact (zK BK977.out)); rintro e w9 ⟨v304, rfl, ho0, hb⟩; refine ⟨_, rfl, ?_⟩; have n0_ := ak (Kd.R_lower ho0 (below_size (zBG HB.out GE302.out))); have n1_ := ak (blk_below (g := 0) (o := .cells #[.int .i64 a977_0] 3 (0, 0)) (zK BK977.out) hb); have n2_ := ak (blk_below (g := gb302) (o := .cells #[.int .i8 0, .int .u8 0, .int .u8 0] 40 (0, 0)) (zK BK302.out) hb); have n3_ := ak (below_step (zBG HB.out GE302.out) hb); clear BK977 BK302 HB; have HO305 := n0_; have BK977 := n1_; have BK302 := n2_; have HB := n3_; clear n0_ n1_ n2_ n3_; (try clear hb); (try clear hb2); (try clear hk); (try clear hi); (try clear ho0)))
 replace HO305 := ak (Kd.R_drew HO305.out)
 replace BK977 := ak (blk_drew BK977.out)
 replace BK302 := ak (blk_drew BK302.out)
 replace HB := ak (below_drew1 HB.out)
 obtain ⟨Ao11, co11, eo11⟩ := Kd.R_slice HO305.out
 (first | subst eo11 | (injection eo11 with f1_ f2_ f3_; have f4_ := f1_.symm; have f5_ := f3_.symm; clear f1_ f2_ f3_; subst f4_; subst f5_))
 have p309 : 0 ≤ (0 : Int) := (by omega)
 have q309 : 0 < (t303.length : Int) := of_decide_eq_true (by first | (with_reducible assumption) | assumption)
 obtain ⟨ad309, e309, hx309_0⟩ := Kd.at_string (Kd.R_reads' HO305.out).2.2 0 p309 q309
 cases e309
 have qi309 : (0 < t303.length) = True := eq_true (by omega)
 (try rw [show ((0 : Int)).toNat = 0 from rfl] at hx309_0)
 (try rw [Addr.add_zero'] at hx309_0)
 replace p309 := eq_true p309
 replace q309 := eq_true q309
 refine start_ (n := 9) (S := fun w' => w'.cell? ad309 = some (.string (rdOf ByteArray.empty t303 0))) (ds := []) (bA 9 0) (by kernel_rfl) rfl rfl (hx309_0) (fun hHeld => ?_); refine with_tabW impl_ReadHabit.tab2 impl_ReadHabit.bits2 (fun HT_ HW_ => ?_)
 generalize w9.drew = w10 at HO305 BK977 BK302 HB hx309_0 hHeld ⊢
 refine pU 1 12 (bA 9 2) HT_ ?_
 refine pU 2 13 (bA 9 6) HT_ ?_
 refine take_ (i := 3) (N := some 14) (v := ?_) (a' := ?_) (bA 9 14) rfl rfl (take_ofW HT_.out HW_.out (by kernel_rfl)) (fun _ _ _ h => h) (Or.inl ⟨by rfl, ?_⟩) hHeld ?_ ?_
 rotate_left
 {
 intro w' s0
 go_simp
 with_reducible rfl
 }
 rotate_left
 · simp only [Act.put, zs, zz, zk, i64_w, i32_w]; rfl
 refine join_ (σ := Value × Nat) 1 #[true, true, true, true, true, true, true, true, false] (fun s_ => [(11, s_.1), (15, .int .i64 t310), (5, .pointer (some ⟨s_.2, 0, none⟩)), (16, .int .i8 (IntKind.i8.wrap (t310))), (17, .agg #[.int .i8 (IntKind.i8.wrap (t310)), .int .u8 0, .int .u8 0])]) (fun s_ w' => (w'.cell? ad309 = some (.string (rdOf ByteArray.empty t303 0))) ∧ (Kd.R Kd.string 9 w' w.heap.size (fun k_ => some k_ ≠ (s_.1 : Value).ownBlock) (.slice (some ad309) t303.length co11) t303) ∧ (Kd.R Kd.string 9 w' w.heap.size (fun k_ => some k_ ≠ (.slice (some ad309) t303.length co11 : Value).ownBlock) s_.1 t306) ∧ (w'.heap[gb302]? = some (.cells #[.int .i8 0, .int .u8 0, .int .u8 0] 40 (0, 0))) ∧ (w'.heap[s_.2]? = some (.cells #[.int .i8 0, .int .u8 0, .int .u8 0] 40 (0, 0))) ∧ (w'.heap[0]? = some (.cells #[.int .i64 a977_0] 3 (0, 0))) ∧ (w.heap.size ≤ s_.2) ∧ (w.heap.size ≤ s_.2) ∧ (gb302 ≠ s_.2) ∧ (s_.2 ≠ gb302) ∧ (0 ≠ s_.2) ∧ (s_.2 ≠ 0) ∧ (Below w.heap.size w w')) ?_ ?_
 rotate_left
 {
 intro hCont
 refine two_ (i := 0) (j := 7) (Ni := some 11) (Nj := some 5) #[true, true, true, true, false, false, false, false, false] #[false, true, true, true, false, false, false, true, false] rfl rfl rfl rfl (two_of HT_.out (by kernel_rfl)) (by decide) (by decide) (fun K hK => ?_) (fun K hK => ?_)
 {
 skip
 refine goes_ Tryz.func43 (by kernel_rfl) rfl #[] (by rfl) rfl rfl gl_ ?_
 with_reducible refine (impl_habitWords.calls  t306 _ A4.out).mono ?_
 rintro e w12 ⟨v307, rfl, ho0, hb⟩
 have HS0_ := (hb.cell (World.block_lt_of_cell? _ _ (hHeld))).trans (hHeld)
 refine ⟨_, rfl, ?_⟩
 have HO308 := ak (Kd.R_lower (Kd.R_new' ho0 (Kd.R_lt (zR HO305.out))) (below_size (zBG HB.out GE302.out)))
 replace HO305 := kE HO305 ho0 hb
 replace BK977 := kK BK977 hb
 replace BK302 := kK BK302 hb
 replace HB := kB1 HB GE302 hb
 (try clear hb)
 (try clear ho0)
 obtain ⟨Ao13, co13, eo13⟩ := Kd.R_slice HO308.out
 (first | subst eo13 | (injection eo13 with f1_ f2_ f3_; have f4_ := f1_.symm; have f5_ := f3_.symm; clear f1_ f2_ f3_; subst f4_; subst f5_))
 refine hK.out _ _ (HS0_) (fun hHeld => ?_)
 clear hK K
 refine norm_ (a' := ?_) ?_ ?_
 rotate_left
 {
 show Act.put _ (some 11) _ = _
 simp only [Act.put, zs, zz, zk, i64_w, i32_w]
 rfl
 }
 refine two_ (i := 4) (j := 7) (Ni := some 15) (Nj := some 5) #[true, true, true, true, true, false, false, false, false] #[true, true, true, true, false, false, false, true, false] rfl rfl rfl rfl (two_of HT_.out (by kernel_rfl)) (by decide) (by decide) (fun K hK => ?_) (fun K hK => ?_)
 {
 skip
 refine goes_ Tryz.func42 (by kernel_rfl) rfl #[.slice Ao13 t306.length co13, .string (rdOf ByteArray.empty t303 0)] (by rfl) rfl rfl gl_ ?_
 with_reducible refine (slices_Index_Sstring_string.calls k _ _ t306 (rdOf ByteArray.empty t303 0) t310 _ ?side1 ?side2 A6.out).mono ?_
 (case side1 => exact zC (Kd.R_reads' HO308.out).2.2)
 (case side2 => exact (Kd.R_reads' HO308.out).2.1)
 rintro e w' ⟨rfl, ⟨nd, rfl⟩⟩
 refine ⟨_, rfl, ?_⟩
 refine hK.out _ _ (hHeld) (fun hHeld => ?_)
 clear hK K
 refine norm_ (a' := ?_) ?_ ?_
 rotate_left
 {
 show Act.put _ (some 15) _ = _
 simp only [Act.put, zs, zz, zk, i64_w, i32_w]
 rfl
 }
 refine pU 5 16 (bA 9 63) HT_ ?_
 refine pU 6 17 (bA 9 127) HT_ ?_
 refine one_ (i := 7) (N := some 5) (bA 9 255) rfl rfl (one_of HT_.out (by kernel_rfl)) (by decide) (fun K hK => ?_)
 refine box_step ?hg (N := 5) ?hd (cs := #[.int .i8 0, .int .u8 0, .int .u8 0]) (t := 40) ?hr ?_; (case hd => rfl); (case hg => rfl); (case hr => first | (go_simp; done) | (go_simp; rfl))
 intro gb311 hg w14 hbox hb
 have HS0_ := (hb.cell (World.block_lt_of_cell? _ _ (hHeld))).trans (hHeld)
 have BK311 := ak (hbox)
 have GW311 := gS1 HB GE302 hg
 have GE311 := gS1 HB GE302 hg
 have NB977_311 := nL BK977 hg
 have NB311_977 := nG BK977 hg
 have NB302_311 := nL BK302 hg
 have NB311_302 := nG BK302 hg
 replace HO305 := kR HO305 hb
 replace HO308 := kR HO308 hb
 replace BK977 := kK BK977 hb
 replace BK302 := kK BK302 hb
 replace HB := kB1 HB GE302 hb
 refine hK.out _ _ (HS0_) (fun hHeld => ?_)
 clear hK K
 refine norm_ (a' := ?_) ?_ ?_
 rotate_left
 {
 show Act.put _ (some 5) _ = _
 simp only [Act.put, zs, zz, zk, i64_w, i32_w]
 rfl
 }
 exact norm_ (by simp only [putAll, Act.put, zs, zz, zk]) (hCont (.slice Ao13 t306.length co13, gb311) _ ⟨hHeld, (by (with_reducible repeat (first | apply Kd.R_alloc | apply Kd.R_drewN | apply Kd.R_drew)); exact Kd.R_mono HO305.out (fun _ hk => hk.2)), (by (with_reducible repeat (first | apply Kd.R_alloc | apply Kd.R_drewN | apply Kd.R_drew)); exact Kd.R_mono HO308.out (fun _ hk => hk.2)), (zK BK302.out), (zK BK311.out), (zK BK977.out), GW311.out, GE311.out, NB302_311.out, NB311_302.out, NB977_311.out, NB311_977.out, (zH2 HB GE302 GE311)⟩)
 }
 {
 skip
 refine box_step ?hg (N := 5) ?hd (cs := #[.int .i8 0, .int .u8 0, .int .u8 0]) (t := 40) ?hr ?_; (case hd => rfl); (case hg => rfl); (case hr => first | (go_simp; done) | (go_simp; rfl))
 intro gb311 hg w13 hbox hb
 have HS0_ := (hb.cell (World.block_lt_of_cell? _ _ (hHeld))).trans (hHeld)
 have BK311 := ak (hbox)
 have GW311 := gS1 HB GE302 hg
 have GE311 := gS1 HB GE302 hg
 have NB977_311 := nL BK977 hg
 have NB311_977 := nG BK977 hg
 have NB302_311 := nL BK302 hg
 have NB311_302 := nG BK302 hg
 replace HO305 := kR HO305 hb
 replace HO308 := kR HO308 hb
 replace BK977 := kK BK977 hb
 replace BK302 := kK BK302 hb
 replace HB := kB1 HB GE302 hb
 obtain ⟨Ao14, co14, eo14⟩ := Kd.R_slice HO308.out
 (first | subst eo14 | (injection eo14 with f1_ f2_ f3_; have f4_ := f1_.symm; have f5_ := f3_.symm; clear f1_ f2_ f3_; subst f4_; subst f5_))
 refine hK.out _ _ (HS0_) (fun hHeld => ?_)
 clear hK K
 refine norm_ (a' := ?_) ?_ ?_
 rotate_left
 {
 show Act.put _ (some 5) _ = _
 simp only [Act.put, zs, zz, zk, i64_w, i32_w]
 rfl
 }
 refine one_ (i := 4) (N := some 15) (bA 9 159) rfl rfl (one_of HT_.out (by kernel_rfl)) (by decide) (fun K hK => ?_)
 refine goes_ Tryz.func42 (by kernel_rfl) rfl #[.slice Ao14 t306.length co14, .string (rdOf ByteArray.empty t303 0)] (by rfl) rfl rfl gl_ ?_
 with_reducible refine (slices_Index_Sstring_string.calls k _ _ t306 (rdOf ByteArray.empty t303 0) t310 _ ?side1 ?side2 A6.out).mono ?_
 (case side1 => exact zC (Kd.R_reads' HO308.out).2.2)
 (case side2 => exact (Kd.R_reads' HO308.out).2.1)
 rintro e w' ⟨rfl, ⟨nd, rfl⟩⟩
 refine ⟨_, rfl, ?_⟩
 refine hK.out _ _ (hHeld) (fun hHeld => ?_)
 clear hK K
 refine norm_ (a' := ?_) ?_ ?_
 rotate_left
 {
 show Act.put _ (some 15) _ = _
 simp only [Act.put, zs, zz, zk, i64_w, i32_w]
 rfl
 }
 refine pU 5 16 (bA 9 191) HT_ ?_
 refine pU 6 17 (bA 9 255) HT_ ?_
 exact norm_ (by simp only [putAll, Act.put, zs, zz, zk]) (hCont (.slice Ao14 t306.length co14, gb311) _ ⟨hHeld, (by (with_reducible repeat (first | apply Kd.R_alloc | apply Kd.R_drewN | apply Kd.R_drew)); exact Kd.R_mono HO305.out (fun _ hk => hk.2)), (by (with_reducible repeat (first | apply Kd.R_alloc | apply Kd.R_drewN | apply Kd.R_drew)); exact Kd.R_mono HO308.out (fun _ hk => hk.2)), (zK BK302.out), (zK BK311.out), (zK BK977.out), GW311.out, GE311.out, NB302_311.out, NB311_302.out, NB977_311.out, NB311_977.out, (zH2 HB GE302 GE311)⟩)
 }
 }
 {
 skip
 refine box_step ?hg (N := 5) ?hd (cs := #[.int .i8 0, .int .u8 0, .int .u8 0]) (t := 40) ?hr ?_; (case hd => rfl); (case hg => rfl); (case hr => first | (go_simp; done) | (go_simp; rfl))
 intro gb311 hg w12 hbox hb
 have HS0_ := (hb.cell (World.block_lt_of_cell? _ _ (hHeld))).trans (hHeld)
 have BK311 := ak (hbox)
 have GW311 := gS1 HB GE302 hg
 have GE311 := gS1 HB GE302 hg
 have NB977_311 := nL BK977 hg
 have NB311_977 := nG BK977 hg
 have NB302_311 := nL BK302 hg
 have NB311_302 := nG BK302 hg
 replace HO305 := kR HO305 hb
 replace BK977 := kK BK977 hb
 replace BK302 := kK BK302 hb
 replace HB := kB1 HB GE302 hb
 refine hK.out _ _ (HS0_) (fun hHeld => ?_)
 clear hK K
 refine norm_ (a' := ?_) ?_ ?_
 rotate_left
 {
 show Act.put _ (some 5) _ = _
 simp only [Act.put, zs, zz, zk, i64_w, i32_w]
 rfl
 }
 refine one_ (i := 0) (N := some 11) (bA 9 143) rfl rfl (one_of HT_.out (by kernel_rfl)) (by decide) (fun K hK => ?_)
 refine goes_ Tryz.func43 (by kernel_rfl) rfl #[] (by rfl) rfl rfl gl_ ?_
 with_reducible refine (impl_habitWords.calls  t306 _ A4.out).mono ?_
 rintro e w13 ⟨v307, rfl, ho0, hb⟩
 have HS0_ := (hb.cell (World.block_lt_of_cell? _ _ (hHeld))).trans (hHeld)
 refine ⟨_, rfl, ?_⟩
 have HO308 := ak (Kd.R_lower (Kd.R_new' ho0 (Kd.R_lt (zR HO305.out))) (below_size (zH2 HB GE302 GE311)))
 replace HO305 := kE HO305 ho0 hb
 replace BK977 := kK BK977 hb
 replace BK302 := kK BK302 hb
 replace BK311 := kK BK311 hb
 replace HB := kB2 HB GE302 GE311 hb
 (try clear hb)
 (try clear ho0)
 obtain ⟨Ao14, co14, eo14⟩ := Kd.R_slice HO308.out
 (first | subst eo14 | (injection eo14 with f1_ f2_ f3_; have f4_ := f1_.symm; have f5_ := f3_.symm; clear f1_ f2_ f3_; subst f4_; subst f5_))
 refine hK.out _ _ (HS0_) (fun hHeld => ?_)
 clear hK K
 refine norm_ (a' := ?_) ?_ ?_
 rotate_left
 {
 show Act.put _ (some 11) _ = _
 simp only [Act.put, zs, zz, zk, i64_w, i32_w]
 rfl
 }
 refine one_ (i := 4) (N := some 15) (bA 9 159) rfl rfl (one_of HT_.out (by kernel_rfl)) (by decide) (fun K hK => ?_)
 refine goes_ Tryz.func42 (by kernel_rfl) rfl #[.slice Ao14 t306.length co14, .string (rdOf ByteArray.empty t303 0)] (by rfl) rfl rfl gl_ ?_
 with_reducible refine (slices_Index_Sstring_string.calls k _ _ t306 (rdOf ByteArray.empty t303 0) t310 _ ?side1 ?side2 A6.out).mono ?_
 (case side1 => exact zC (Kd.R_reads' HO308.out).2.2)
 (case side2 => exact (Kd.R_reads' HO308.out).2.1)
 rintro e w' ⟨rfl, ⟨nd, rfl⟩⟩
 refine ⟨_, rfl, ?_⟩
 refine hK.out _ _ (hHeld) (fun hHeld => ?_)
 clear hK K
 refine norm_ (a' := ?_) ?_ ?_
 rotate_left
 {
 show Act.put _ (some 15) _ = _
 simp only [Act.put, zs, zz, zk, i64_w, i32_w]
 rfl
 }
 refine pU 5 16 (bA 9 191) HT_ ?_
 refine pU 6 17 (bA 9 255) HT_ ?_
 exact norm_ (by simp only [putAll, Act.put, zs, zz, zk]) (hCont (.slice Ao14 t306.length co14, gb311) _ ⟨hHeld, (by (with_reducible repeat (first | apply Kd.R_alloc | apply Kd.R_drewN | apply Kd.R_drew)); exact Kd.R_mono HO305.out (fun _ hk => hk.2)), (by (with_reducible repeat (first | apply Kd.R_alloc | apply Kd.R_drewN | apply Kd.R_drew)); exact Kd.R_mono HO308.out (fun _ hk => hk.2)), (zK BK302.out), (zK BK311.out), (zK BK977.out), GW311.out, GE311.out, NB302_311.out, NB311_302.out, NB977_311.out, NB311_977.out, (zH2 HB GE302 GE311)⟩)
 }
 }
 rintro ⟨v307, gb311⟩ w15 ⟨hS_, h0_, h1_, h2_, h3_, h4_, h5_, h6_, h7_, h8_, h9_, h10_, h11_⟩
 have n0_ : Aside0 (Kd.R Kd.string 9 w15 w.heap.size (fun k_ => some k_ ≠ (v307 : Value).ownBlock) (.slice (some ad309) t303.length co11) t303) := ⟨h0_⟩
 have n1_ : Aside0 (Kd.R Kd.string 9 w15 w.heap.size (fun k_ => some k_ ≠ (.slice (some ad309) t303.length co11 : Value).ownBlock) v307 t306) := ⟨h1_⟩
 have n2_ : Aside0 (w15.heap[gb302]? = some (.cells #[.int .i8 0, .int .u8 0, .int .u8 0] 40 (0, 0))) := ⟨h2_⟩
 have n3_ : Aside0 (w15.heap[gb311]? = some (.cells #[.int .i8 0, .int .u8 0, .int .u8 0] 40 (0, 0))) := ⟨h3_⟩
 have n4_ : Aside0 (w15.heap[0]? = some (.cells #[.int .i64 a977_0] 3 (0, 0))) := ⟨h4_⟩
 have n5_ : Aside0 (w.heap.size ≤ gb311) := ⟨h5_⟩
 have n6_ : Aside0 (w.heap.size ≤ gb311) := ⟨h6_⟩
 have n7_ : Aside0 (gb302 ≠ gb311) := ⟨h7_⟩
 have n8_ : Aside0 (gb311 ≠ gb302) := ⟨h8_⟩
 have n9_ : Aside0 (0 ≠ gb311) := ⟨h9_⟩
 have n10_ : Aside0 (gb311 ≠ 0) := ⟨h10_⟩
 have n11_ : Aside0 (Below w.heap.size w w15) := ⟨h11_⟩
 clear HO305 BK977 BK302 HB h0_ h1_ h2_ h3_ h4_ h5_ h6_ h7_ h8_ h9_ h10_ h11_
 have HO305 := n0_
 have HO308 := n1_
 have BK302 := n2_
 have BK311 := n3_
 have BK977 := n4_
 have GW311 := n5_
 have GE311 := n6_
 have NB302_311 := n7_
 have NB311_302 := n8_
 have NB977_311 := n9_
 have NB311_977 := n10_
 have HB := n11_
 clear n0_ n1_ n2_ n3_ n4_ n5_ n6_ n7_ n8_ n9_ n10_ n11_
 have hHeld : w15.cell? ad309 = some (.string (rdOf ByteArray.empty t303 0)) := hS_
 refine norm_ (a' := ?_) ?_ ?_
 rotate_left
 · simp only [putAll, Act.put, zs, zz, zk]; rfl
 refine one_ (i := 8) (N := none) (bA 9 511) rfl rfl (one_of HT_.out (by kernel_rfl)) (by decide) (fun K hK => ?_)
 have hs16 : w15.cell? ⟨gb311, 0, none⟩ = some (.int .i8 0) := (blk_cell BK311.out 0).trans rfl
 have hfs16 := blk_frozen BK311.out 0
 have hns16_0 := NB977_311.out
 have hns16_1 := NB302_311.out
 have hms16_0 := NB311_977.out
 have hms16_1 := NB311_302.out
 have hs17 : w15.cell? ⟨gb311, 1, none⟩ = some (.int .u8 0) := (blk_cell BK311.out 1).trans rfl
 have hfs17 := blk_frozen BK311.out 1
 have hns17_0 := NB977_311.out
 have hns17_1 := NB302_311.out
 have hms17_0 := NB311_977.out
 have hms17_1 := NB311_302.out
 have hs18 : w15.cell? ⟨gb311, 2, none⟩ = some (.int .u8 0) := (blk_cell BK311.out 2).trans rfl
 have hfs18 := blk_frozen BK311.out 2
 have hns18_0 := NB977_311.out
 have hns18_1 := NB302_311.out
 have hms18_0 := NB311_977.out
 have hms18_1 := NB311_302.out
 refine skip_ (w1 := ?_) (by rfl) rfl ?_ ?_
 rotate_left
 · go_simp; rfl
 refine hK.out _ _ (((cell_far (p := ⟨gb311, _, none⟩) (by first | exact Kd.own_blk (Kd.R_ne HO305.out BK311.out (by decide)) | (rw [add_block]; exact Kd.own_blk (Kd.R_ne HO305.out BK311.out (by decide))) | (show (Addr.add _ _).block ≠ _; rw [add_block]; exact Kd.own_blk (Kd.R_ne HO305.out BK311.out (by decide))) | (dsimp only; exact Kd.own_blk (Kd.R_ne HO305.out BK311.out (by decide)))) _).trans (((cell_far (p := ⟨gb311, _, none⟩) (by first | exact Kd.own_blk (Kd.R_ne HO305.out BK311.out (by decide)) | (rw [add_block]; exact Kd.own_blk (Kd.R_ne HO305.out BK311.out (by decide))) | (show (Addr.add _ _).block ≠ _; rw [add_block]; exact Kd.own_blk (Kd.R_ne HO305.out BK311.out (by decide))) | (dsimp only; exact Kd.own_blk (Kd.R_ne HO305.out BK311.out (by decide)))) _).trans (((cell_far (p := ⟨gb311, _, none⟩) (by first | exact Kd.own_blk (Kd.R_ne HO305.out BK311.out (by decide)) | (rw [add_block]; exact Kd.own_blk (Kd.R_ne HO305.out BK311.out (by decide))) | (show (Addr.add _ _).block ≠ _; rw [add_block]; exact Kd.own_blk (Kd.R_ne HO305.out BK311.out (by decide))) | (dsimp only; exact Kd.own_blk (Kd.R_ne HO305.out BK311.out (by decide)))) _).trans (hHeld))))))) (fun hHeld => ?_)
 clear hK K
 refine done_ (done_of HT_.out (by kernel_rfl)) ?_
 try go_wp2_with (first | ((with_reducible refine gate_dst (N := 6) rfl ?_); (try (refine gate_guard (by rfl) ?_; dsimp only)); refine box_event ?hg (N := 6) ?hd (cs := #[.int .u8 0, .int .u8 0]) (t := 66) ?hr ?_; (case hd => rfl); (case hg => rfl); (case hr => first | (go_simp; done) | (go_simp; rfl)); intro gb312 hg w19 hbox hb; have n0_ := ak (Kd.R_below (by (with_reducible repeat (first | apply Kd.R_alloc | apply Kd.R_drewN | apply Kd.R_drew)); exact (Kd.R_mono (Kd.R_far (p := ⟨gb311, 2, none⟩) (Kd.R_far (p := ⟨gb311, 1, none⟩) (Kd.R_far (p := ⟨gb311, 0, none⟩) (Kd.R_types HO305.out BK311.out (by decide)) (fun _ hk => hk.2) (.int .i8 (IntKind.i8.wrap (t310)))) (fun _ hk => hk.2) (.int .u8 0)) (fun _ hk => hk.2) (.int .u8 0)) (fun _ h_ => h_.1))) hb); have n1_ := ak (Kd.R_below (by (with_reducible repeat (first | apply Kd.R_alloc | apply Kd.R_drewN | apply Kd.R_drew)); exact (Kd.R_mono (Kd.R_far (p := ⟨gb311, 2, none⟩) (Kd.R_far (p := ⟨gb311, 1, none⟩) (Kd.R_far (p := ⟨gb311, 0, none⟩) (Kd.R_types HO308.out BK311.out (by decide)) (fun _ hk => hk.2) (.int .i8 (IntKind.i8.wrap (t310)))) (fun _ hk => hk.2) (.int .u8 0)) (fun _ hk => hk.2) (.int .u8 0)) (fun _ h_ => h_.1))) hb); have n2_ := ak (blk_below (g := 0) (o := .cells #[.int .i64 a977_0] 3 (0, 0)) (by (with_reducible repeat (first | refine blk_drewN ?_ _ | refine blk_drew ?_ | refine blk_alloc ?_ _)); refine blk_far ?_ NB977_311.out _; (with_reducible repeat (first | refine blk_drewN ?_ _ | refine blk_drew ?_ | refine blk_alloc ?_ _)); refine blk_far ?_ NB977_311.out _; (with_reducible repeat (first | refine blk_drewN ?_ _ | refine blk_drew ?_ | refine blk_alloc ?_ _)); refine blk_far ?_ NB977_311.out _; (with_reducible repeat (first | refine blk_drewN ?_ _ | refine blk_drew ?_ | refine blk_alloc ?_ _)); exact BK977.out) hb); have n3_ := ak (blk_below (g := gb302) (o := .cells #[.int .i8 0, .int .u8 0, .int .u8 0] 40 (0, 0)) (by (with_reducible repeat (first | refine blk_drewN ?_ _ | refine blk_drew ?_ | refine blk_alloc ?_ _)); refine blk_far ?_ NB302_311.out _; (with_reducible repeat (first | refine blk_drewN ?_ _ | refine blk_drew ?_ | refine blk_alloc ?_ _)); refine blk_far ?_ NB302_311.out _; (with_reducible repeat (first | refine blk_drewN ?_ _ | refine blk_drew ?_ | refine blk_alloc ?_ _)); refine blk_far ?_ NB302_311.out _; (with_reducible repeat (first | refine blk_drewN ?_ _ | refine blk_drew ?_ | refine blk_alloc ?_ _)); exact BK302.out) hb); have n4_ := ak (blk_below (g := gb311) (o := .cells #[.int .i8 (IntKind.i8.wrap (t310)), .int .u8 0, .int .u8 0] 40 (0, 0)) (by (with_reducible repeat (first | refine blk_drewN ?_ _ | refine blk_drew ?_ | refine blk_alloc ?_ _)); refine blk_put (cs := #[.int .i8 (IntKind.i8.wrap (t310)), .int .u8 0, .int .u8 0]) ?_ 2 _ rfl; (with_reducible repeat (first | refine blk_drewN ?_ _ | refine blk_drew ?_ | refine blk_alloc ?_ _)); refine blk_put (cs := #[.int .i8 (IntKind.i8.wrap (t310)), .int .u8 0, .int .u8 0]) ?_ 1 _ rfl; (with_reducible repeat (first | refine blk_drewN ?_ _ | refine blk_drew ?_ | refine blk_alloc ?_ _)); refine blk_put (cs := #[.int .i8 0, .int .u8 0, .int .u8 0]) ?_ 0 _ rfl; (with_reducible repeat (first | refine blk_drewN ?_ _ | refine blk_drew ?_ | refine blk_alloc ?_ _)); exact BK311.out) hb); have n5_ := ak (below_step (zH2 HB GE302 GE311) hb); have n6_ := ak (hbox); have n7_ := ak ((by rw [hg]; exact (below_size (zH2 HB GE302 GE311)) : w.heap.size ≤ gb312)); have n8_ := ak ((by rw [hg]; exact (below_size (zH2 HB GE302 GE311)) : w.heap.size ≤ gb312)); have n9_ := ak ((by rw [hg]; exact Nat.ne_of_lt (blk_lt (g := 0) (o := .cells #[.int .i64 a977_0] 3 (0, 0)) (by (with_reducible repeat (first | refine blk_drewN ?_ _ | refine blk_drew ?_ | refine blk_alloc ?_ _)); refine blk_far ?_ NB977_311.out _; (with_reducible repeat (first | refine blk_drewN ?_ _ | refine blk_drew ?_ | refine blk_alloc ?_ _)); refine blk_far ?_ NB977_311.out _; (with_reducible repeat (first | refine blk_drewN ?_ _ | refine blk_drew ?_ | refine blk_alloc ?_ _)); refine blk_far ?_ NB977_311.out _; (with_reducible repeat (first | refine blk_drewN ?_ _ | refine blk_drew ?_ | refine blk_alloc ?_ _)); exact BK977.out)) : 0 ≠ gb312)); have n10_ := ak ((by rw [hg]; exact Nat.ne_of_gt (blk_lt (g := 0) (o := .cells #[.int .i64 a977_0] 3 (0, 0)) (by (with_reducible repeat (first | refine blk_drewN ?_ _ | refine blk_drew ?_ | refine blk_alloc ?_ _)); refine blk_far ?_ NB977_311.out _; (with_reducible repeat (first | refine blk_drewN ?_ _ | refine blk_drew ?_ | refine blk_alloc ?_ _)); refine blk_far ?_ NB977_311.out _; (with_reducible repeat (first | refine blk_drewN ?_ _ | refine blk_drew ?_ | refine blk_alloc ?_ _)); refine blk_far ?_ NB977_311.out _; (with_reducible repeat (first | refine blk_drewN ?_ _ | refine blk_drew ?_ | refine blk_alloc ?_ _)); exact BK977.out)) : gb312 ≠ 0)); have n11_ := ak ((by rw [hg]; exact Nat.ne_of_lt (blk_lt (g := gb302) (o := .cells #[.int .i8 0, .int .u8 0, .int .u8 0] 40 (0, 0)) (by (with_reducible repeat (first | refine blk_drewN ?_ _ | refine blk_drew ?_ | refine blk_alloc ?_ _)); refine blk_far ?_ NB302_311.out _; (with_reducible repeat (first | refine blk_drewN ?_ _ | refine blk_drew ?_ | refine blk_alloc ?_ _)); refine blk_far ?_ NB302_311.out _; (with_reducible repeat (first | refine blk_drewN ?_ _ | refine blk_drew ?_ | refine blk_alloc ?_ _)); refine blk_far ?_ NB302_311.out _; (with_reducible repeat (first | refine blk_drewN ?_ _ | refine blk_drew ?_ | refine blk_alloc ?_ _)); exact BK302.out)) : gb302 ≠ gb312)); have n12_ := ak ((by rw [hg]; exact Nat.ne_of_gt (blk_lt (g := gb302) (o := .cells #[.int .i8 0, .int .u8 0, .int .u8 0] 40 (0, 0)) (by (with_reducible repeat (first | refine blk_drewN ?_ _ | refine blk_drew ?_ | refine blk_alloc ?_ _)); refine blk_far ?_ NB302_311.out _; (with_reducible repeat (first | refine blk_drewN ?_ _ | refine blk_drew ?_ | refine blk_alloc ?_ _)); refine blk_far ?_ NB302_311.out _; (with_reducible repeat (first | refine blk_drewN ?_ _ | refine blk_drew ?_ | refine blk_alloc ?_ _)); refine blk_far ?_ NB302_311.out _; (with_reducible repeat (first | refine blk_drewN ?_ _ | refine blk_drew ?_ | refine blk_alloc ?_ _)); exact BK302.out)) : gb312 ≠ gb302)); have n13_ := ak ((by rw [hg]; exact Nat.ne_of_lt (blk_lt (g := gb311) (o := .cells #[.int .i8 (IntKind.i8.wrap (t310)), .int .u8 0, .int .u8 0] 40 (0, 0)) (by (with_reducible repeat (first | refine blk_drewN ?_ _ | refine blk_drew ?_ | refine blk_alloc ?_ _)); refine blk_put (cs := #[.int .i8 (IntKind.i8.wrap (t310)), .int .u8 0, .int .u8 0]) ?_ 2 _ rfl; (with_reducible repeat (first | refine blk_drewN ?_ _ | refine blk_drew ?_ | refine blk_alloc ?_ _)); refine blk_put (cs := #[.int .i8 (IntKind.i8.wrap (t310)), .int .u8 0, .int .u8 0]) ?_ 1 _ rfl; (with_reducible repeat (first | refine blk_drewN ?_ _ | refine blk_drew ?_ | refine blk_alloc ?_ _)); refine blk_put (cs := #[.int .i8 0, .int .u8 0, .int .u8 0]) ?_ 0 _ rfl; (with_reducible repeat (first | refine blk_drewN ?_ _ | refine blk_drew ?_ | refine blk_alloc ?_ _)); exact BK311.out)) : gb311 ≠ gb312)); have n14_ := ak ((by rw [hg]; exact Nat.ne_of_gt (blk_lt (g := gb311) (o := .cells #[.int .i8 (IntKind.i8.wrap (t310)), .int .u8 0, .int .u8 0] 40 (0, 0)) (by (with_reducible repeat (first | refine blk_drewN ?_ _ | refine blk_drew ?_ | refine blk_alloc ?_ _)); refine blk_put (cs := #[.int .i8 (IntKind.i8.wrap (t310)), .int .u8 0, .int .u8 0]) ?_ 2 _ rfl; (with_reducible repeat (first | refine blk_drewN ?_ _ | refine blk_drew ?_ | refine blk_alloc ?_ _)); refine blk_put (cs := #[.int .i8 (IntKind.i8.wrap (t310)), .int .u8 0, .int .u8 0]) ?_ 1 _ rfl; (with_reducible repeat (first | refine blk_drewN ?_ _ | refine blk_drew ?_ | refine blk_alloc ?_ _)); refine blk_put (cs := #[.int .i8 0, .int .u8 0, .int .u8 0]) ?_ 0 _ rfl; (with_reducible repeat (first | refine blk_drewN ?_ _ | refine blk_drew ?_ | refine blk_alloc ?_ _)); exact BK311.out)) : gb312 ≠ gb311)); clear HO305 HO308 BK977 BK302 BK311 HB; have HO305 := n0_; have HO308 := n1_; have BK977 := n2_; have BK302 := n3_; have BK311 := n4_; have HB := n5_; have BK312 := n6_; have GW312 := n7_; have GE312 := n8_; have NB977_312 := n9_; have NB312_977 := n10_; have NB302_312 := n11_; have NB312_302 := n12_; have NB311_312 := n13_; have NB312_311 := n14_; clear n0_ n1_ n2_ n3_ n4_ n5_ n6_ n7_ n8_ n9_ n10_ n11_ n12_ n13_ n14_; clear hb hbox hg; have hnb20 := NB312_977.out; have hnc20 := NB977_312.out; have hnb21 := NB312_302.out; have hnc21 := NB302_312.out; have hnb22 := NB312_311.out; have hnc22 := NB311_312.out; have hcz23_0 : w19.cell? ⟨gb312, 0, none⟩ = some (.int .u8 0) := (blk_cell BK312.out 0).trans rfl; have hcz23_1 : w19.cell? ⟨gb312, 1, none⟩ = some (.int .u8 0) := (blk_cell BK312.out 1).trans rfl; have hfz23_0 := blk_frozen BK312.out 0; have hfz23_1 := blk_frozen BK312.out 1) | ((with_reducible refine gate_store (t := 66) (p := 6) rfl ?_); refine store_event (t := 66) (p := 6) (v := ?vo_w24) (w1 := ((w19.setCell ⟨gb312, 0, none⟩ (.int .u8 0)).setCell ⟨gb312, 1, none⟩ (.int .u8 0))) ?hg ?ho ?hn ?hr ?_; (case ho => rfl); (case hg => rfl); (case hn => rfl); (case hr => first | (go_simp; done) | (go_simp; rfl)); intro w24 hw; have n0_ : Aside0 (Kd.R Kd.string 9 w24 w.heap.size (fun k_ => some k_ ≠ (v307 : Value).ownBlock) (.slice (some ad309) t303.length co11) t303) := ⟨(by rw [hw]; exact (by (with_reducible repeat (first | apply Kd.R_alloc | apply Kd.R_drewN | apply Kd.R_drew)); exact Kd.R_mono (Kd.R_far (p := ⟨gb312, 1, none⟩) (Kd.R_far (p := ⟨gb312, 0, none⟩) (Kd.R_types HO305.out BK312.out (by decide)) (fun _ hk => hk.2) (.int .u8 0)) (fun _ hk => hk.2) (.int .u8 0)) (fun _ hk => hk.1)))⟩; have n1_ : Aside0 (Kd.R Kd.string 9 w24 w.heap.size (fun k_ => some k_ ≠ (.slice (some ad309) t303.length co11 : Value).ownBlock) v307 t306) := ⟨(by rw [hw]; exact (by (with_reducible repeat (first | apply Kd.R_alloc | apply Kd.R_drewN | apply Kd.R_drew)); exact Kd.R_mono (Kd.R_far (p := ⟨gb312, 1, none⟩) (Kd.R_far (p := ⟨gb312, 0, none⟩) (Kd.R_types HO308.out BK312.out (by decide)) (fun _ hk => hk.2) (.int .u8 0)) (fun _ hk => hk.2) (.int .u8 0)) (fun _ hk => hk.1)))⟩; have n2_ : Aside0 (w24.heap[0]? = some (.cells #[.int .i64 a977_0] 3 (0, 0))) := ⟨(by rw [hw]; exact (by (with_reducible repeat (first | refine blk_drewN ?_ _ | refine blk_drew ?_ | refine blk_alloc ?_ _)); refine blk_far ?_ NB977_312.out _; (with_reducible repeat (first | refine blk_drewN ?_ _ | refine blk_drew ?_ | refine blk_alloc ?_ _)); refine blk_far ?_ NB977_312.out _; (with_reducible repeat (first | refine blk_drewN ?_ _ | refine blk_drew ?_ | refine blk_alloc ?_ _)); exact BK977.out))⟩; have n3_ : Aside0 (w24.heap[gb302]? = some (.cells #[.int .i8 0, .int .u8 0, .int .u8 0] 40 (0, 0))) := ⟨(by rw [hw]; exact (by (with_reducible repeat (first | refine blk_drewN ?_ _ | refine blk_drew ?_ | refine blk_alloc ?_ _)); refine blk_far ?_ NB302_312.out _; (with_reducible repeat (first | refine blk_drewN ?_ _ | refine blk_drew ?_ | refine blk_alloc ?_ _)); refine blk_far ?_ NB302_312.out _; (with_reducible repeat (first | refine blk_drewN ?_ _ | refine blk_drew ?_ | refine blk_alloc ?_ _)); exact BK302.out))⟩; have n4_ : Aside0 (w24.heap[gb311]? = some (.cells #[.int .i8 (IntKind.i8.wrap (t310)), .int .u8 0, .int .u8 0] 40 (0, 0))) := ⟨(by rw [hw]; exact (by (with_reducible repeat (first | refine blk_drewN ?_ _ | refine blk_drew ?_ | refine blk_alloc ?_ _)); refine blk_far ?_ NB311_312.out _; (with_reducible repeat (first | refine blk_drewN ?_ _ | refine blk_drew ?_ | refine blk_alloc ?_ _)); refine blk_far ?_ NB311_312.out _; (with_reducible repeat (first | refine blk_drewN ?_ _ | refine blk_drew ?_ | refine blk_alloc ?_ _)); exact BK311.out))⟩; have n5_ : Aside0 (w24.heap[gb312]? = some (.cells #[.int .u8 0, .int .u8 0] 66 (0, 0))) := ⟨(by rw [hw]; exact (by (with_reducible repeat (first | refine blk_drewN ?_ _ | refine blk_drew ?_ | refine blk_alloc ?_ _)); refine blk_put (cs := #[.int .u8 0, .int .u8 0]) ?_ 1 _ rfl; (with_reducible repeat (first | refine blk_drewN ?_ _ | refine blk_drew ?_ | refine blk_alloc ?_ _)); refine blk_put (cs := #[.int .u8 0, .int .u8 0]) ?_ 0 _ rfl; (with_reducible repeat (first | refine blk_drewN ?_ _ | refine blk_drew ?_ | refine blk_alloc ?_ _)); exact BK312.out))⟩; have n6_ : Aside0 (Below w.heap.size w w24) := ⟨(by rw [hw]; exact (zH3 HB GE302 GE311 GE312))⟩; clear hw HO305 HO308 BK977 BK302 BK311 BK312 HB; have HO305 := n0_; have HO308 := n1_; have BK977 := n2_; have BK302 := n3_; have BK311 := n4_; have BK312 := n5_; have HB := n6_; clear n0_ n1_ n2_ n3_ n4_ n5_ n6_; have q25 : (1 : Int) ≤ ((t303.length : Int) : Int) := of_decide_eq_true (by first | (with_reducible assumption) | assumption); obtain ⟨i025, hi025, _, hsz25, _⟩ := info_parts info9; have hcut25 := cut_from (P := Tryz.prog) 29 9 .i64 Tryz.underlying29 hi025 1 hsz25 (some ad309) t303.length co11 1 (by omega) q25; have hr25 := Kd.Q_drop (k := (1 : Int).toNat) (Kd.Q_of_R HO305.out) (by omega); obtain ⟨A25, hA25⟩ : ∃ Aq_, Aq_ = (if co11 = (1 : Int).toNat then (some ad309) else ((some ad309) : Option Addr).map (·.add ((1 : Int).toNat * 1))) := ⟨_, rfl⟩; obtain ⟨c25, hc25⟩ : ∃ cq_, cq_ = co11 - (1 : Int).toNat := ⟨_, rfl⟩; have hy25 : y313.length = t303.length - (1 : Int).toNat := (by rw [Ny313.out, List.length_drop]); rw [← Ny313.out] at hr25; rw [← hy25, ← hA25, ← hc25] at hcut25; replace hr25 : Kd.Q Kd.string 9 w24 w.heap.size (fun k_ => some k_ ≠ (v307 : Value).ownBlock) (.slice A25 y313.length c25) y313 := (by rw [hA25, hc25, hy25]; exact hr25); have HE25 : Aside0 ((Value.slice A25 y313.length c25).ownBlock = (.slice (some ad309) t303.length co11 : Value).ownBlock) := ⟨by rw [hA25]; split <;> (cases ((some ad309) : Option Addr) <;> rfl)⟩; clear hy25 hi025 hsz25 HO305 hA25 hc25; have HO315 := ak hr25; clear hr25; replace q25 := eq_true q25; have n_ := ak (Kd.R_mono (ok' := fun k_ => some k_ ≠ (.slice A25 y313.length c25 : Value).ownBlock) HO308.out (fun k_ hk => (by rw [HE25.out]; exact hk))); clear HO308; have HO308 := n_; clear n_))
 go_loopg [22] k (fun kq v22 w' => ∃ (x22_1 : Int) (x313000_1 : Int) (x313001_1 : Int), v22 = .int .i64 x22_1 ∧ Aside0 (impl_ReadHabit.l0 kq a0 y313 (y313.length : Int) x22_1 (IntKind.i8.wrap (t310)) 0 0 x313000_1 x313001_1 = some (r1, r2, r3, r4)) ∧ Aside0 (kq ≤ k) ∧ Aside0 (Kd.Q Kd.string 9 w' w.heap.size (fun _ => True) (.slice A25 y313.length c25) y313) ∧ Aside0 (w'.heap[0]? = some (.cells #[.int .i64 a977_0] 3 (0, 0))) ∧ Aside0 (w'.heap[gb302]? = some (.cells #[.int .i8 0, .int .u8 0, .int .u8 0] 40 (0, 0))) ∧ Aside0 (w'.heap[gb311]? = some (.cells #[.int .i8 (IntKind.i8.wrap (t310)), .int .u8 0, .int .u8 0] 40 (0, 0))) ∧ Aside0 (w'.heap[gb312]? = some (.cells #[.int .u8 x313000_1, .int .u8 x313001_1] 66 (0, 0))) ∧ Aside0 (Below w.heap.size w w'))
 case atStart => exact ⟨(0), (0), (0), (by first | rfl | (simp; done) | (simp [*]; done)), H', ⟨Nat.le_refl _⟩, ⟨by (with_reducible repeat (first | apply Kd.Q_alloc | apply Kd.Q_drewN | apply Kd.Q_drew)); exact Kd.Q_mono HO315.out (fun _ hk => trivial)⟩, ⟨(zK BK977.out)⟩, ⟨(zK BK302.out)⟩, ⟨(zK BK311.out)⟩, ⟨(zK BK312.out)⟩, ⟨zH3 HB GE302 GE311 GE312⟩⟩
 case round => (
 clear H'
 try clear c5
 try clear c5b0
 try clear c5b1
 try clear c7
 try clear c7b0
 try clear c7b1
 try clear c25
 try clear q25
 try clear hcz23_0
 try clear hcz23_1
 try clear hfz23_0
 try clear hfz23_1
 try clear hx309_0
 try clear p309
 try clear q25
 try clear q309
 obtain ⟨x22_1, x313000_1, x313001_1, rfl, HA, HK1, HO_20, BK977, BK302, BK311, BK312, HB⟩ := hrel
 cases gk with
 | zero => exact absurd HA.out (by simp [impl_ReadHabit.l0])
 | succ k1 => (
 have H := HA.out
 clear HA
 simp only [impl_ReadHabit.l0] at H
 by_cases c26 : x22_1 < (y313.length : Int)
 {
 rw [if_pos c26] at H
 have c26b0 : decide (x22_1 < (y313.length : Int)) = true := decide_eq_true c26
 clear c26
 by_cases c27 : 0 ≤ x22_1
 {
 rw [if_pos c27] at H
 have c27b0 : decide (0 ≤ x22_1) = true := decide_eq_true c27
 clear c27
 by_cases c28 : x22_1 < (y313.length : Int)
 {
 rw [if_pos c28] at H
 have c28b0 : decide (x22_1 < (y313.length : Int)) = true := decide_eq_true c28
 clear c28
 by_cases c29 : x22_1 < 2
 {
 rw [if_pos c29] at H
 have c29b0 : decide (x22_1 < 2) = true := decide_eq_true c29
 clear c29
 by_cases c30 : ((rdOf ByteArray.empty y313 x22_1).size : Int) = 1
 {
 rw [if_pos c30] at H
 have c30b0 : (((rdOf ByteArray.empty y313 x22_1).size : Int) == 1) = true := beq_iff_eq.mpr c30
 have c30b1 : (((rdOf ByteArray.empty y313 x22_1).size : Int) != 1) = false := bne_eq_false_iff_eq.mpr c30
 clear c30
 by_cases c31 : 0 < ((rdOf ByteArray.empty y313 x22_1).size : Int)
 {
 rw [if_pos c31] at H
 have c31b0 : decide (0 < ((rdOf ByteArray.empty y313 x22_1).size : Int)) = true := decide_eq_true c31
 have c31b1 : decide (0 < (rdOf ByteArray.empty y313 x22_1).size) = true := decide_eq_true (by omega)
 clear c31
 by_cases c33 : x22_1 = 0
 {
 rw [if_pos c33] at H
 have c33b0 : (x22_1 == 0) = true := beq_iff_eq.mpr c33
 have c33b1 : (x22_1 != 0) = false := bne_eq_false_iff_eq.mpr c33
 clear c33
 have H' := ak H
 clear H
 have p316 : 0 ≤ (x22_1 : Int) := of_decide_eq_true (by first | (with_reducible assumption) | assumption)
 have q316 : x22_1 < (y313.length : Int) := of_decide_eq_true (by first | (with_reducible assumption) | assumption)
 obtain ⟨ad316, e316, hx316_0⟩ := Kd.at_string (Kd.Q_reads' HO_20.out).2.2 x22_1 p316 q316
 cases e316
 replace p316 := eq_true p316
 replace q316 := eq_true q316
 have p32 : 0 ≤ (0 : Int) := (by omega)
 have q32 : 0 < (rdOf ByteArray.empty y313 x22_1).size := (by have : (0 : Int) < ((rdOf ByteArray.empty y313 x22_1).size : Int) := of_decide_eq_true (by first | (with_reducible assumption) | assumption); omega)
 have hx32 : ∀ h : 0 < (rdOf ByteArray.empty y313 x22_1).size, (((rdOf ByteArray.empty y313 x22_1)[0]'h).toNat : Int) = bt (rdOf ByteArray.empty y313 x22_1) 0 := bt_at (rdOf ByteArray.empty y313 x22_1) 0
 clear p32
 have qi32 : (0 < ((rdOf ByteArray.empty y313 x22_1).size : Int)) = True := eq_true (of_decide_eq_true (by first | (with_reducible assumption) | assumption))
 replace q32 := eq_true q32
 have hnb34 := NB312_977.out
 have hnc34 := NB977_312.out
 have hnb35 := NB312_302.out
 have hnc35 := NB302_312.out
 have hnb36 := NB312_311.out
 have hnc36 := NB311_312.out
 have hcz37_0 : wr.cell? ⟨gb312, 0, none⟩ = some (.int .u8 x313000_1) := (blk_cell BK312.out 0).trans rfl
 have hcz37_1 : wr.cell? ⟨gb312, 1, none⟩ = some (.int .u8 x313001_1) := (blk_cell BK312.out 1).trans rfl
 have hfz37_0 := blk_frozen BK312.out 0
 have hfz37_1 := blk_frozen BK312.out 1
 have hz33 : Aside0 ((x22_1 : Int).toNat = 0) := ak (by have h_ := eq_of_beq c33b0; omega)
 have hcx33 : wr.cell? ⟨gb312, (x22_1 : Int).toNat, none⟩ = some (.int .u8 x313000_1) := by rw [hz33.out]; exact hcz37_0
 have hlt33 : (x22_1 < 2) = True := eq_true (of_decide_eq_true (by first | (with_reducible assumption) | assumption))
 have hfx33 := blk_frozen BK312.out (x22_1 : Int).toNat
 go_wp2
 rw [hz33.out]
 go_roundg k1
 case measure => have := HK1.out; omega
 case rel => exact ⟨(wrap64 (x22_1 + 1)), (bt (rdOf ByteArray.empty y313 x22_1) 0), (x313001_1), (by first | rfl | (simp; done) | (simp [*]; done)), H', ⟨by have := HK1.out; omega⟩, ⟨by (with_reducible repeat (first | apply Kd.Q_alloc | apply Kd.Q_drewN | apply Kd.Q_drew)); exact Kd.Q_mono (Kd.Q_far (p := ⟨gb312, 0, none⟩) (Kd.Q_types HO_20.out BK312.out (by decide)) (fun _ hk => hk.2) (.int .u8 (bt (rdOf ByteArray.empty y313 x22_1) 0))) (fun _ hk => trivial)⟩, ⟨by (with_reducible repeat (first | refine blk_drewN ?_ _ | refine blk_drew ?_ | refine blk_alloc ?_ _)); refine blk_far ?_ NB977_312.out _; (with_reducible repeat (first | refine blk_drewN ?_ _ | refine blk_drew ?_ | refine blk_alloc ?_ _)); exact BK977.out⟩, ⟨by (with_reducible repeat (first | refine blk_drewN ?_ _ | refine blk_drew ?_ | refine blk_alloc ?_ _)); refine blk_far ?_ NB302_312.out _; (with_reducible repeat (first | refine blk_drewN ?_ _ | refine blk_drew ?_ | refine blk_alloc ?_ _)); exact BK302.out⟩, ⟨by (with_reducible repeat (first | refine blk_drewN ?_ _ | refine blk_drew ?_ | refine blk_alloc ?_ _)); refine blk_far ?_ NB311_312.out _; (with_reducible repeat (first | refine blk_drewN ?_ _ | refine blk_drew ?_ | refine blk_alloc ?_ _)); exact BK311.out⟩, ⟨by (with_reducible repeat (first | refine blk_drewN ?_ _ | refine blk_drew ?_ | refine blk_alloc ?_ _)); refine blk_put (cs := #[.int .u8 x313000_1, .int .u8 x313001_1]) ?_ 0 _ rfl; (with_reducible repeat (first | refine blk_drewN ?_ _ | refine blk_drew ?_ | refine blk_alloc ?_ _)); exact BK312.out⟩, ⟨zH3 HB GE302 GE311 GE312⟩⟩
 }
 {
 rw [if_neg c33] at H
 have c33b0 : (x22_1 == 0) = false := beq_eq_false_iff_ne.mpr c33
 have c33b1 : (x22_1 != 0) = true := bne_iff_ne.mpr c33
 by_cases c38 : x22_1 = 1
 {
 rw [if_pos c38] at H
 have c38b0 : (x22_1 == 1) = true := beq_iff_eq.mpr c38
 have c38b1 : (x22_1 != 1) = false := bne_eq_false_iff_eq.mpr c38
 clear c38
 have H' := ak H
 clear H
 have p316 : 0 ≤ (x22_1 : Int) := of_decide_eq_true (by first | (with_reducible assumption) | assumption)
 have q316 : x22_1 < (y313.length : Int) := of_decide_eq_true (by first | (with_reducible assumption) | assumption)
 obtain ⟨ad316, e316, hx316_0⟩ := Kd.at_string (Kd.Q_reads' HO_20.out).2.2 x22_1 p316 q316
 cases e316
 replace p316 := eq_true p316
 replace q316 := eq_true q316
 have p32 : 0 ≤ (0 : Int) := (by omega)
 have q32 : 0 < (rdOf ByteArray.empty y313 x22_1).size := (by have : (0 : Int) < ((rdOf ByteArray.empty y313 x22_1).size : Int) := of_decide_eq_true (by first | (with_reducible assumption) | assumption); omega)
 have hx32 : ∀ h : 0 < (rdOf ByteArray.empty y313 x22_1).size, (((rdOf ByteArray.empty y313 x22_1)[0]'h).toNat : Int) = bt (rdOf ByteArray.empty y313 x22_1) 0 := bt_at (rdOf ByteArray.empty y313 x22_1) 0
 clear p32
 have qi32 : (0 < ((rdOf ByteArray.empty y313 x22_1).size : Int)) = True := eq_true (of_decide_eq_true (by first | (with_reducible assumption) | assumption))
 replace q32 := eq_true q32
 have hnb39 := NB312_977.out
 have hnc39 := NB977_312.out
 have hnb40 := NB312_302.out
 have hnc40 := NB302_312.out
 have hnb41 := NB312_311.out
 have hnc41 := NB311_312.out
 have hcz42_0 : wr.cell? ⟨gb312, 0, none⟩ = some (.int .u8 x313000_1) := (blk_cell BK312.out 0).trans rfl
 have hcz42_1 : wr.cell? ⟨gb312, 1, none⟩ = some (.int .u8 x313001_1) := (blk_cell BK312.out 1).trans rfl
 have hfz42_0 := blk_frozen BK312.out 0
 have hfz42_1 := blk_frozen BK312.out 1
 have hz38 : Aside0 ((x22_1 : Int).toNat = 1) := ak (by have h_ := eq_of_beq c38b0; omega)
 have hcx38 : wr.cell? ⟨gb312, (x22_1 : Int).toNat, none⟩ = some (.int .u8 x313001_1) := by rw [hz38.out]; exact hcz42_1
 have hlt38 : (x22_1 < 2) = True := eq_true (of_decide_eq_true (by first | (with_reducible assumption) | assumption))
 have hfx38 := blk_frozen BK312.out (x22_1 : Int).toNat
 go_wp2
 rw [hz38.out]
 go_roundg k1
 case measure => have := HK1.out; omega
 case rel => exact ⟨(wrap64 (x22_1 + 1)), (x313000_1), (bt (rdOf ByteArray.empty y313 x22_1) 0), (by first | rfl | (simp; done) | (simp [*]; done)), H', ⟨by have := HK1.out; omega⟩, ⟨by (with_reducible repeat (first | apply Kd.Q_alloc | apply Kd.Q_drewN | apply Kd.Q_drew)); exact Kd.Q_mono (Kd.Q_far (p := ⟨gb312, 1, none⟩) (Kd.Q_types HO_20.out BK312.out (by decide)) (fun _ hk => hk.2) (.int .u8 (bt (rdOf ByteArray.empty y313 x22_1) 0))) (fun _ hk => trivial)⟩, ⟨by (with_reducible repeat (first | refine blk_drewN ?_ _ | refine blk_drew ?_ | refine blk_alloc ?_ _)); refine blk_far ?_ NB977_312.out _; (with_reducible repeat (first | refine blk_drewN ?_ _ | refine blk_drew ?_ | refine blk_alloc ?_ _)); exact BK977.out⟩, ⟨by (with_reducible repeat (first | refine blk_drewN ?_ _ | refine blk_drew ?_ | refine blk_alloc ?_ _)); refine blk_far ?_ NB302_312.out _; (with_reducible repeat (first | refine blk_drewN ?_ _ | refine blk_drew ?_ | refine blk_alloc ?_ _)); exact BK302.out⟩, ⟨by (with_reducible repeat (first | refine blk_drewN ?_ _ | refine blk_drew ?_ | refine blk_alloc ?_ _)); refine blk_far ?_ NB311_312.out _; (with_reducible repeat (first | refine blk_drewN ?_ _ | refine blk_drew ?_ | refine blk_alloc ?_ _)); exact BK311.out⟩, ⟨by (with_reducible repeat (first | refine blk_drewN ?_ _ | refine blk_drew ?_ | refine blk_alloc ?_ _)); refine blk_put (cs := #[.int .u8 x313000_1, .int .u8 x313001_1]) ?_ 1 _ rfl; (with_reducible repeat (first | refine blk_drewN ?_ _ | refine blk_drew ?_ | refine blk_alloc ?_ _)); exact BK312.out⟩, ⟨zH3 HB GE302 GE311 GE312⟩⟩
 }
 · rw [if_neg c38] at H; exact absurd H (by simp)
 }
 }
 · rw [if_neg c31] at H; exact absurd H (by simp)
 }
 {
 rw [if_neg c30] at H
 have c30b0 : (((rdOf ByteArray.empty y313 x22_1).size : Int) == 1) = false := beq_eq_false_iff_ne.mpr c30
 have c30b1 : (((rdOf ByteArray.empty y313 x22_1).size : Int) != 1) = true := bne_iff_ne.mpr c30
 have H' := ak H
 clear H
 have p316 : 0 ≤ (x22_1 : Int) := of_decide_eq_true (by first | (with_reducible assumption) | assumption)
 have q316 : x22_1 < (y313.length : Int) := of_decide_eq_true (by first | (with_reducible assumption) | assumption)
 obtain ⟨ad316, e316, hx316_0⟩ := Kd.at_string (Kd.Q_reads' HO_20.out).2.2 x22_1 p316 q316
 cases e316
 replace p316 := eq_true p316
 replace q316 := eq_true q316
 go_wp2
 go_roundg k1
 case measure => have := HK1.out; omega
 case rel => exact ⟨(wrap64 (x22_1 + 1)), (x313000_1), (x313001_1), (by first | rfl | (simp; done) | (simp [*]; done)), H', ⟨by have := HK1.out; omega⟩, ⟨by (with_reducible repeat (first | apply Kd.Q_alloc | apply Kd.Q_drewN | apply Kd.Q_drew)); exact HO_20.out⟩, ⟨(zK BK977.out)⟩, ⟨(zK BK302.out)⟩, ⟨(zK BK311.out)⟩, ⟨(zK BK312.out)⟩, ⟨zH3 HB GE302 GE311 GE312⟩⟩
 }
 }
 {
 rw [if_neg c29] at H
 have c29b0 : decide (x22_1 < 2) = false := decide_eq_false c29
 clear c29
 have H' := ak H
 clear H
 have p316 : 0 ≤ (x22_1 : Int) := of_decide_eq_true (by first | (with_reducible assumption) | assumption)
 have q316 : x22_1 < (y313.length : Int) := of_decide_eq_true (by first | (with_reducible assumption) | assumption)
 obtain ⟨ad316, e316, hx316_0⟩ := Kd.at_string (Kd.Q_reads' HO_20.out).2.2 x22_1 p316 q316
 cases e316
 replace p316 := eq_true p316
 replace q316 := eq_true q316
 go_wp2
 go_roundg k1
 case measure => have := HK1.out; omega
 case rel => exact ⟨(wrap64 (x22_1 + 1)), (x313000_1), (x313001_1), (by first | rfl | (simp; done) | (simp [*]; done)), H', ⟨by have := HK1.out; omega⟩, ⟨by (with_reducible repeat (first | apply Kd.Q_alloc | apply Kd.Q_drewN | apply Kd.Q_drew)); exact HO_20.out⟩, ⟨(zK BK977.out)⟩, ⟨(zK BK302.out)⟩, ⟨(zK BK311.out)⟩, ⟨(zK BK312.out)⟩, ⟨zH3 HB GE302 GE311 GE312⟩⟩
 }
 }
 · rw [if_neg c28] at H; exact absurd H (by simp)
 }
 · rw [if_neg c27] at H; exact absurd H (by simp)
 }
 {
 rw [if_neg c26] at H
 have c26b0 : decide (x22_1 < (y313.length : Int)) = false := decide_eq_false c26
 clear c26
 by_cases c43 : a0.toList = ([] : List UInt8)
 {
 rw [if_pos c43] at H
 have c43b0 : (a0.toList == ([] : List UInt8)) = true := beq_iff_eq.mpr c43
 have c43b1 : (a0.toList != ([] : List UInt8)) = false := bne_eq_false_iff_eq.mpr c43
 clear c43
 simp only [Option.some.injEq, Prod.mk.injEq] at H
 obtain ⟨rfl, rfl, rfl, rfl⟩ := H
 try go_wp2
 replace HO_20 := ak (Kd.Q_drew HO_20.out)
 replace BK977 := ak (blk_drew BK977.out)
 replace BK302 := ak (blk_drew BK302.out)
 replace BK311 := ak (blk_drew BK311.out)
 replace BK312 := ak (blk_drew BK312.out)
 replace HB := ak (below_drew1 HB.out)
 refine start_ (n := 8) (S := fun w' => w'.cell? ⟨gb312, 0, none⟩ = some (.int .u8 x313000_1) ∧ w'.cell? ⟨gb312, 1, none⟩ = some (.int .u8 x313001_1)) (ds := []) (bA 8 0) (by kernel_rfl) rfl rfl ⟨(blk_cell BK312.out 0).trans rfl, (blk_cell BK312.out 1).trans rfl⟩ (fun hHeld => ?_); refine with_tabW impl_ReadHabit.tab10 impl_ReadHabit.bits10 (fun HT_ HW_ => ?_)
 generalize wr.drew = w44 at HO_20 BK977 BK302 BK311 BK312 HB hHeld ⊢
 refine pU 0 39 (bA 8 1) HT_ ?_
 refine pU 2 41 (bA 8 5) HT_ ?_
 refine tK 1 40 (bA 8 7) HT_ HW_ hHeld ?_
 refine pU 4 43 (bA 8 23) HT_ ?_
 refine tK 3 42 (bA 8 31) HT_ HW_ hHeld ?_
 refine one_ (i := 5) (N := none) (bA 8 63) rfl rfl (one_of HT_.out (by kernel_rfl)) (by decide) (fun K hK => ?_)
 have hs45 : w44.cell? ⟨gb311, 1, none⟩ = some (.int .u8 0) := (blk_cell BK311.out 1).trans rfl
 have hfs45 := blk_frozen BK311.out 1
 have hns45_0 := NB977_311.out
 have hns45_1 := NB302_311.out
 have hns45_3 := NB312_311.out
 have hms45_0 := NB311_977.out
 have hms45_1 := NB311_302.out
 have hms45_3 := NB311_312.out
 refine skip_ (w1 := ?_) (by rfl) rfl ?_ ?_
 rotate_left
 · go_simp; rfl
 refine hK.out _ _ ⟨((cell_far (p := ⟨gb311, _, none⟩) NB312_311.out _).trans (hHeld.1)), ((cell_far (p := ⟨gb311, _, none⟩) NB312_311.out _).trans (hHeld.2))⟩ (fun hHeld => ?_)
 clear hK K
 refine pU 6 44 (bA 8 127) HT_ ?_
 refine one_ (i := 7) (N := none) (bA 8 255) rfl rfl (one_of HT_.out (by kernel_rfl)) (by decide) (fun K hK => ?_)
 have hs46 : w44.cell? ⟨gb311, 2, none⟩ = some (.int .u8 0) := (blk_cell BK311.out 2).trans rfl
 have hfs46 := blk_frozen BK311.out 2
 have hns46_0 := NB977_311.out
 have hns46_1 := NB302_311.out
 have hns46_3 := NB312_311.out
 have hms46_0 := NB311_977.out
 have hms46_1 := NB311_302.out
 have hms46_3 := NB311_312.out
 refine skip_ (w1 := ?_) (by rfl) rfl ?_ ?_
 rotate_left
 · go_simp; rfl
 refine hK.out _ _ ⟨((cell_far (p := ⟨gb311, _, none⟩) NB312_311.out _).trans (hHeld.1)), ((cell_far (p := ⟨gb311, _, none⟩) NB312_311.out _).trans (hHeld.2))⟩ (fun hHeld => ?_)
 clear hK K
 refine done_ (done_of HT_.out (by kernel_rfl)) ?_
 have hnb47 := NB302_977.out
 have hnc47 := NB977_302.out
 have hnb48 := NB302_311.out
 have hnc48 := NB311_302.out
 have hnb49 := NB302_312.out
 have hnc49 := NB312_302.out
 have hcz50_0 : w44.cell? ⟨gb302, 0, none⟩ = some (.int .i8 0) := (blk_cell BK302.out 0).trans rfl
 have hcz50_1 : w44.cell? ⟨gb302, 1, none⟩ = some (.int .u8 0) := (blk_cell BK302.out 1).trans rfl
 have hcz50_2 : w44.cell? ⟨gb302, 2, none⟩ = some (.int .u8 0) := (blk_cell BK302.out 2).trans rfl
 have hfz50_0 := blk_frozen BK302.out 0
 have hfz50_1 := blk_frozen BK302.out 1
 have hfz50_2 := blk_frozen BK302.out 2
 try go_wp2
 refine bodyPost_ret (results_ct rfl _ _ gb302 40 #[.int .i8 0, .int .u8 0, .int .u8 0] (0, 0) _ rfl (by (with_reducible repeat (first | refine blk_drewN ?_ _ | refine blk_drew ?_ | refine blk_alloc ?_ _)); refine blk_put (cs := #[.int .i8 0, .int .u8 0, .int .u8 0]) ?_ 2 _ rfl; (with_reducible repeat (first | refine blk_drewN ?_ _ | refine blk_drew ?_ | refine blk_alloc ?_ _)); refine blk_put (cs := #[.int .i8 0, .int .u8 0, .int .u8 0]) ?_ 1 _ rfl; (with_reducible repeat (first | refine blk_drewN ?_ _ | refine blk_drew ?_ | refine blk_alloc ?_ _)); refine blk_put (cs := #[.int .i8 0, .int .u8 0, .int .u8 0]) ?_ 0 _ rfl; (with_reducible repeat (first | refine blk_drewN ?_ _ | refine blk_drew ?_ | refine blk_alloc ?_ _)); refine blk_far ?_ NB302_311.out _; (with_reducible repeat (first | refine blk_drewN ?_ _ | refine blk_drew ?_ | refine blk_alloc ?_ _)); refine blk_far ?_ NB302_311.out _; (with_reducible repeat (first | refine blk_drewN ?_ _ | refine blk_drew ?_ | refine blk_alloc ?_ _)); exact BK302.out) Tryz.underlying40 rfl (by kernel_rfl)) rfl ?_
 exact ⟨by first | rfl | (simp [errW_none, errW_some] <;> rfl) | (simp [*, errW_none, errW_some] <;> rfl), zH3 HB GE302 GE311 GE312⟩
 }
 {
 rw [if_neg c43] at H
 have c43b0 : (a0.toList == ([] : List UInt8)) = false := beq_eq_false_iff_ne.mpr c43
 have c43b1 : (a0.toList != ([] : List UInt8)) = true := bne_iff_ne.mpr c43
 replace H := Option.bind_eq_some_iff.mp H
 obtain ⟨t317, A510, H⟩ := H
 have A51 := ak A510
 clear A510
 by_cases c52 : t317.toList = a0.toList
 {
 rw [if_pos c52] at H
 have c52b0 : (t317.toList == a0.toList) = true := beq_iff_eq.mpr c52
 have c52b1 : (t317.toList != a0.toList) = false := bne_eq_false_iff_eq.mpr c52
 clear c52
 simp only [Option.some.injEq, Prod.mk.injEq] at H
 obtain ⟨rfl, rfl, rfl, rfl⟩ := H
 try go_wp2
 replace HO_20 := ak (Kd.Q_drew HO_20.out)
 replace BK977 := ak (blk_drew BK977.out)
 replace BK302 := ak (blk_drew BK302.out)
 replace BK311 := ak (blk_drew BK311.out)
 replace BK312 := ak (blk_drew BK312.out)
 replace HB := ak (below_drew1 HB.out)
 refine start_ (n := 8) (S := fun w' => w'.cell? ⟨gb312, 0, none⟩ = some (.int .u8 x313000_1) ∧ w'.cell? ⟨gb312, 1, none⟩ = some (.int .u8 x313001_1)) (ds := []) (bA 8 0) (by kernel_rfl) rfl rfl ⟨(blk_cell BK312.out 0).trans rfl, (blk_cell BK312.out 1).trans rfl⟩ (fun hHeld => ?_); refine with_tabW impl_ReadHabit.tab10 impl_ReadHabit.bits10 (fun HT_ HW_ => ?_)
 generalize wr.drew = w53 at HO_20 BK977 BK302 BK311 BK312 HB hHeld ⊢
 refine pU 0 39 (bA 8 1) HT_ ?_
 refine pU 2 41 (bA 8 5) HT_ ?_
 refine tK 1 40 (bA 8 7) HT_ HW_ hHeld ?_
 refine pU 4 43 (bA 8 23) HT_ ?_
 refine tK 3 42 (bA 8 31) HT_ HW_ hHeld ?_
 refine one_ (i := 5) (N := none) (bA 8 63) rfl rfl (one_of HT_.out (by kernel_rfl)) (by decide) (fun K hK => ?_)
 have hs54 : w53.cell? ⟨gb311, 1, none⟩ = some (.int .u8 0) := (blk_cell BK311.out 1).trans rfl
 have hfs54 := blk_frozen BK311.out 1
 have hns54_0 := NB977_311.out
 have hns54_1 := NB302_311.out
 have hns54_3 := NB312_311.out
 have hms54_0 := NB311_977.out
 have hms54_1 := NB311_302.out
 have hms54_3 := NB311_312.out
 refine skip_ (w1 := ?_) (by rfl) rfl ?_ ?_
 rotate_left
 · go_simp; rfl
 refine hK.out _ _ ⟨((cell_far (p := ⟨gb311, _, none⟩) NB312_311.out _).trans (hHeld.1)), ((cell_far (p := ⟨gb311, _, none⟩) NB312_311.out _).trans (hHeld.2))⟩ (fun hHeld => ?_)
 clear hK K
 refine pU 6 44 (bA 8 127) HT_ ?_
 refine one_ (i := 7) (N := none) (bA 8 255) rfl rfl (one_of HT_.out (by kernel_rfl)) (by decide) (fun K hK => ?_)
 have hs55 : w53.cell? ⟨gb311, 2, none⟩ = some (.int .u8 0) := (blk_cell BK311.out 2).trans rfl
 have hfs55 := blk_frozen BK311.out 2
 have hns55_0 := NB977_311.out
 have hns55_1 := NB302_311.out
 have hns55_3 := NB312_311.out
 have hms55_0 := NB311_977.out
 have hms55_1 := NB311_302.out
 have hms55_3 := NB311_312.out
 refine skip_ (w1 := ?_) (by rfl) rfl ?_ ?_
 rotate_left
 · go_simp; rfl
 refine hK.out _ _ ⟨((cell_far (p := ⟨gb311, _, none⟩) NB312_311.out _).trans (hHeld.1)), ((cell_far (p := ⟨gb311, _, none⟩) NB312_311.out _).trans (hHeld.2))⟩ (fun hHeld => ?_)
 clear hK K
 refine done_ (done_of HT_.out (by kernel_rfl)) ?_
 have hnb56 := NB311_977.out
 have hnc56 := NB977_311.out
 have hnb57 := NB311_302.out
 have hnc57 := NB302_311.out
 have hnb58 := NB311_312.out
 have hnc58 := NB312_311.out
 have hcz59_0 : w53.cell? ⟨gb311, 0, none⟩ = some (.int .i8 (IntKind.i8.wrap (t310))) := (blk_cell BK311.out 0).trans rfl
 have hcz59_1 : w53.cell? ⟨gb311, 1, none⟩ = some (.int .u8 0) := (blk_cell BK311.out 1).trans rfl
 have hcz59_2 : w53.cell? ⟨gb311, 2, none⟩ = some (.int .u8 0) := (blk_cell BK311.out 2).trans rfl
 have hfz59_0 := blk_frozen BK311.out 0
 have hfz59_1 := blk_frozen BK311.out 1
 have hfz59_2 := blk_frozen BK311.out 2
 try go_wp2_with (first | (go_at_call 17; (with_reducible refine (impl_HabitText.calls (IntKind.i8.wrap (t310)) x313000_1 x313001_1 t317 _ A51.out).mono ?_); rintro e w60 ⟨rfl, hb⟩; have n0_ := ak (Kd.Q_below (by (with_reducible repeat (first | apply Kd.Q_alloc | apply Kd.Q_drewN | apply Kd.Q_drew)); exact (Kd.Q_mono (Kd.Q_far (p := ⟨gb311, 2, none⟩) (Kd.Q_far (p := ⟨gb311, 1, none⟩) (Kd.Q_types HO_20.out BK311.out (by decide)) (fun _ hk => hk.2) (.int .u8 x313000_1)) (fun _ hk => hk.2) (.int .u8 x313001_1)) (fun _ h_ => h_.1))) hb); have n1_ := ak (blk_below (g := 0) (o := .cells #[.int .i64 a977_0] 3 (0, 0)) (by (with_reducible repeat (first | refine blk_drewN ?_ _ | refine blk_drew ?_ | refine blk_alloc ?_ _)); refine blk_far ?_ NB977_311.out _; (with_reducible repeat (first | refine blk_drewN ?_ _ | refine blk_drew ?_ | refine blk_alloc ?_ _)); refine blk_far ?_ NB977_311.out _; (with_reducible repeat (first | refine blk_drewN ?_ _ | refine blk_drew ?_ | refine blk_alloc ?_ _)); exact BK977.out) hb); have n2_ := ak (blk_below (g := gb302) (o := .cells #[.int .i8 0, .int .u8 0, .int .u8 0] 40 (0, 0)) (by (with_reducible repeat (first | refine blk_drewN ?_ _ | refine blk_drew ?_ | refine blk_alloc ?_ _)); refine blk_far ?_ NB302_311.out _; (with_reducible repeat (first | refine blk_drewN ?_ _ | refine blk_drew ?_ | refine blk_alloc ?_ _)); refine blk_far ?_ NB302_311.out _; (with_reducible repeat (first | refine blk_drewN ?_ _ | refine blk_drew ?_ | refine blk_alloc ?_ _)); exact BK302.out) hb); have n3_ := ak (blk_below (g := gb311) (o := .cells #[.int .i8 (IntKind.i8.wrap (t310)), .int .u8 x313000_1, .int .u8 x313001_1] 40 (0, 0)) (by (with_reducible repeat (first | refine blk_drewN ?_ _ | refine blk_drew ?_ | refine blk_alloc ?_ _)); refine blk_put (cs := #[.int .i8 (IntKind.i8.wrap (t310)), .int .u8 x313000_1, .int .u8 0]) ?_ 2 _ rfl; (with_reducible repeat (first | refine blk_drewN ?_ _ | refine blk_drew ?_ | refine blk_alloc ?_ _)); refine blk_put (cs := #[.int .i8 (IntKind.i8.wrap (t310)), .int .u8 0, .int .u8 0]) ?_ 1 _ rfl; (with_reducible repeat (first | refine blk_drewN ?_ _ | refine blk_drew ?_ | refine blk_alloc ?_ _)); exact BK311.out) hb); have n4_ := ak (blk_below (g := gb312) (o := .cells #[.int .u8 x313000_1, .int .u8 x313001_1] 66 (0, 0)) (by (with_reducible repeat (first | refine blk_drewN ?_ _ | refine blk_drew ?_ | refine blk_alloc ?_ _)); refine blk_far ?_ NB312_311.out _; (with_reducible repeat (first | refine blk_drewN ?_ _ | refine blk_drew ?_ | refine blk_alloc ?_ _)); refine blk_far ?_ NB312_311.out _; (with_reducible repeat (first | refine blk_drewN ?_ _ | refine blk_drew ?_ | refine blk_alloc ?_ _)); exact BK312.out) hb); have n5_ := ak (below_step (zH3 HB GE302 GE311 GE312) hb); clear HO_20 BK977 BK302 BK311 BK312 HB; have HO_20 := n0_; have BK977 := n1_; have BK302 := n2_; have BK311 := n3_; have BK312 := n4_; have HB := n5_; clear n0_ n1_ n2_ n3_ n4_ n5_; (try clear hb); (try clear hb2); (try clear hk); (try clear hi); have hcz61_0 : w60.cell? ⟨gb311, 0, none⟩ = some (.int .i8 (IntKind.i8.wrap (t310))) := (blk_cell BK311.out 0).trans rfl; have hcz61_1 : w60.cell? ⟨gb311, 1, none⟩ = some (.int .u8 x313000_1) := (blk_cell BK311.out 1).trans rfl; have hcz61_2 : w60.cell? ⟨gb311, 2, none⟩ = some (.int .u8 x313001_1) := (blk_cell BK311.out 2).trans rfl; have hfz61_0 := blk_frozen BK311.out 0; have hfz61_1 := blk_frozen BK311.out 1; have hfz61_2 := blk_frozen BK311.out 2; have hnb62 := NB302_977.out; have hnc62 := NB977_302.out; have hnb63 := NB302_312.out; have hnc63 := NB312_302.out; have hcz64_0 : w60.cell? ⟨gb302, 0, none⟩ = some (.int .i8 0) := (blk_cell BK302.out 0).trans rfl; have hcz64_1 : w60.cell? ⟨gb302, 1, none⟩ = some (.int .u8 0) := (blk_cell BK302.out 1).trans rfl; have hcz64_2 : w60.cell? ⟨gb302, 2, none⟩ = some (.int .u8 0) := (blk_cell BK302.out 2).trans rfl; have hfz64_0 := blk_frozen BK302.out 0; have hfz64_1 := blk_frozen BK302.out 1; have hfz64_2 := blk_frozen BK302.out 2))
 refine bodyPost_ret (results_ct rfl _ _ gb302 40 #[.int .i8 (IntKind.i8.wrap (t310)), .int .u8 x313000_1, .int .u8 x313001_1] (0, 0) _ rfl (by (with_reducible repeat (first | refine blk_drewN ?_ _ | refine blk_drew ?_ | refine blk_alloc ?_ _)); refine blk_put (cs := #[.int .i8 (IntKind.i8.wrap (t310)), .int .u8 x313000_1, .int .u8 0]) ?_ 2 _ rfl; (with_reducible repeat (first | refine blk_drewN ?_ _ | refine blk_drew ?_ | refine blk_alloc ?_ _)); refine blk_put (cs := #[.int .i8 (IntKind.i8.wrap (t310)), .int .u8 0, .int .u8 0]) ?_ 1 _ rfl; (with_reducible repeat (first | refine blk_drewN ?_ _ | refine blk_drew ?_ | refine blk_alloc ?_ _)); refine blk_put (cs := #[.int .i8 0, .int .u8 0, .int .u8 0]) ?_ 0 _ rfl; (with_reducible repeat (first | refine blk_drewN ?_ _ | refine blk_drew ?_ | refine blk_alloc ?_ _)); exact BK302.out) Tryz.underlying40 rfl (by kernel_rfl)) rfl ?_
 exact ⟨by first | rfl | (simp [errW_none, errW_some] <;> rfl) | (simp [*, errW_none, errW_some] <;> rfl), zH3 HB GE302 GE311 GE312⟩
 }
 {
 rw [if_neg c52] at H
 have c52b0 : (t317.toList == a0.toList) = false := beq_eq_false_iff_ne.mpr c52
 have c52b1 : (t317.toList != a0.toList) = true := bne_iff_ne.mpr c52
 simp only [Option.some.injEq, Prod.mk.injEq] at H
 obtain ⟨rfl, rfl, rfl, rfl⟩ := H
 try go_wp2
 replace HO_20 := ak (Kd.Q_drew HO_20.out)
 replace BK977 := ak (blk_drew BK977.out)
 replace BK302 := ak (blk_drew BK302.out)
 replace BK311 := ak (blk_drew BK311.out)
 replace BK312 := ak (blk_drew BK312.out)
 replace HB := ak (below_drew1 HB.out)
 refine start_ (n := 8) (S := fun w' => w'.cell? ⟨gb312, 0, none⟩ = some (.int .u8 x313000_1) ∧ w'.cell? ⟨gb312, 1, none⟩ = some (.int .u8 x313001_1)) (ds := []) (bA 8 0) (by kernel_rfl) rfl rfl ⟨(blk_cell BK312.out 0).trans rfl, (blk_cell BK312.out 1).trans rfl⟩ (fun hHeld => ?_); refine with_tabW impl_ReadHabit.tab10 impl_ReadHabit.bits10 (fun HT_ HW_ => ?_)
 generalize wr.drew = w65 at HO_20 BK977 BK302 BK311 BK312 HB hHeld ⊢
 refine pU 0 39 (bA 8 1) HT_ ?_
 refine pU 2 41 (bA 8 5) HT_ ?_
 refine tK 1 40 (bA 8 7) HT_ HW_ hHeld ?_
 refine pU 4 43 (bA 8 23) HT_ ?_
 refine tK 3 42 (bA 8 31) HT_ HW_ hHeld ?_
 refine one_ (i := 5) (N := none) (bA 8 63) rfl rfl (one_of HT_.out (by kernel_rfl)) (by decide) (fun K hK => ?_)
 have hs66 : w65.cell? ⟨gb311, 1, none⟩ = some (.int .u8 0) := (blk_cell BK311.out 1).trans rfl
 have hfs66 := blk_frozen BK311.out 1
 have hns66_0 := NB977_311.out
 have hns66_1 := NB302_311.out
 have hns66_3 := NB312_311.out
 have hms66_0 := NB311_977.out
 have hms66_1 := NB311_302.out
 have hms66_3 := NB311_312.out
 refine skip_ (w1 := ?_) (by rfl) rfl ?_ ?_
 rotate_left
 · go_simp; rfl
 refine hK.out _ _ ⟨((cell_far (p := ⟨gb311, _, none⟩) NB312_311.out _).trans (hHeld.1)), ((cell_far (p := ⟨gb311, _, none⟩) NB312_311.out _).trans (hHeld.2))⟩ (fun hHeld => ?_)
 clear hK K
 refine pU 6 44 (bA 8 127) HT_ ?_
 refine one_ (i := 7) (N := none) (bA 8 255) rfl rfl (one_of HT_.out (by kernel_rfl)) (by decide) (fun K hK => ?_)
 have hs67 : w65.cell? ⟨gb311, 2, none⟩ = some (.int .u8 0) := (blk_cell BK311.out 2).trans rfl
 have hfs67 := blk_frozen BK311.out 2
 have hns67_0 := NB977_311.out
 have hns67_1 := NB302_311.out
 have hns67_3 := NB312_311.out
 have hms67_0 := NB311_977.out
 have hms67_1 := NB311_302.out
 have hms67_3 := NB311_312.out
 refine skip_ (w1 := ?_) (by rfl) rfl ?_ ?_
 rotate_left
 · go_simp; rfl
 refine hK.out _ _ ⟨((cell_far (p := ⟨gb311, _, none⟩) NB312_311.out _).trans (hHeld.1)), ((cell_far (p := ⟨gb311, _, none⟩) NB312_311.out _).trans (hHeld.2))⟩ (fun hHeld => ?_)
 clear hK K
 refine done_ (done_of HT_.out (by kernel_rfl)) ?_
 have hnb68 := NB311_977.out
 have hnc68 := NB977_311.out
 have hnb69 := NB311_302.out
 have hnc69 := NB302_311.out
 have hnb70 := NB311_312.out
 have hnc70 := NB312_311.out
 have hcz71_0 : w65.cell? ⟨gb311, 0, none⟩ = some (.int .i8 (IntKind.i8.wrap (t310))) := (blk_cell BK311.out 0).trans rfl
 have hcz71_1 : w65.cell? ⟨gb311, 1, none⟩ = some (.int .u8 0) := (blk_cell BK311.out 1).trans rfl
 have hcz71_2 : w65.cell? ⟨gb311, 2, none⟩ = some (.int .u8 0) := (blk_cell BK311.out 2).trans rfl
 have hfz71_0 := blk_frozen BK311.out 0
 have hfz71_1 := blk_frozen BK311.out 1
 have hfz71_2 := blk_frozen BK311.out 2
 try go_wp2_with (first | (go_at_call 17; (with_reducible refine (impl_HabitText.calls (IntKind.i8.wrap (t310)) x313000_1 x313001_1 t317 _ A51.out).mono ?_); rintro e w72 ⟨rfl, hb⟩; have n0_ := ak (Kd.Q_below (by (with_reducible repeat (first | apply Kd.Q_alloc | apply Kd.Q_drewN | apply Kd.Q_drew)); exact (Kd.Q_mono (Kd.Q_far (p := ⟨gb311, 2, none⟩) (Kd.Q_far (p := ⟨gb311, 1, none⟩) (Kd.Q_types HO_20.out BK311.out (by decide)) (fun _ hk => hk.2) (.int .u8 x313000_1)) (fun _ hk => hk.2) (.int .u8 x313001_1)) (fun _ h_ => h_.1))) hb); have n1_ := ak (blk_below (g := 0) (o := .cells #[.int .i64 a977_0] 3 (0, 0)) (by (with_reducible repeat (first | refine blk_drewN ?_ _ | refine blk_drew ?_ | refine blk_alloc ?_ _)); refine blk_far ?_ NB977_311.out _; (with_reducible repeat (first | refine blk_drewN ?_ _ | refine blk_drew ?_ | refine blk_alloc ?_ _)); refine blk_far ?_ NB977_311.out _; (with_reducible repeat (first | refine blk_drewN ?_ _ | refine blk_drew ?_ | refine blk_alloc ?_ _)); exact BK977.out) hb); have n2_ := ak (blk_below (g := gb302) (o := .cells #[.int .i8 0, .int .u8 0, .int .u8 0] 40 (0, 0)) (by (with_reducible repeat (first | refine blk_drewN ?_ _ | refine blk_drew ?_ | refine blk_alloc ?_ _)); refine blk_far ?_ NB302_311.out _; (with_reducible repeat (first | refine blk_drewN ?_ _ | refine blk_drew ?_ | refine blk_alloc ?_ _)); refine blk_far ?_ NB302_311.out _; (with_reducible repeat (first | refine blk_drewN ?_ _ | refine blk_drew ?_ | refine blk_alloc ?_ _)); exact BK302.out) hb); have n3_ := ak (blk_below (g := gb311) (o := .cells #[.int .i8 (IntKind.i8.wrap (t310)), .int .u8 x313000_1, .int .u8 x313001_1] 40 (0, 0)) (by (with_reducible repeat (first | refine blk_drewN ?_ _ | refine blk_drew ?_ | refine blk_alloc ?_ _)); refine blk_put (cs := #[.int .i8 (IntKind.i8.wrap (t310)), .int .u8 x313000_1, .int .u8 0]) ?_ 2 _ rfl; (with_reducible repeat (first | refine blk_drewN ?_ _ | refine blk_drew ?_ | refine blk_alloc ?_ _)); refine blk_put (cs := #[.int .i8 (IntKind.i8.wrap (t310)), .int .u8 0, .int .u8 0]) ?_ 1 _ rfl; (with_reducible repeat (first | refine blk_drewN ?_ _ | refine blk_drew ?_ | refine blk_alloc ?_ _)); exact BK311.out) hb); have n4_ := ak (blk_below (g := gb312) (o := .cells #[.int .u8 x313000_1, .int .u8 x313001_1] 66 (0, 0)) (by (with_reducible repeat (first | refine blk_drewN ?_ _ | refine blk_drew ?_ | refine blk_alloc ?_ _)); refine blk_far ?_ NB312_311.out _; (with_reducible repeat (first | refine blk_drewN ?_ _ | refine blk_drew ?_ | refine blk_alloc ?_ _)); refine blk_far ?_ NB312_311.out _; (with_reducible repeat (first | refine blk_drewN ?_ _ | refine blk_drew ?_ | refine blk_alloc ?_ _)); exact BK312.out) hb); have n5_ := ak (below_step (zH3 HB GE302 GE311 GE312) hb); clear HO_20 BK977 BK302 BK311 BK312 HB; have HO_20 := n0_; have BK977 := n1_; have BK302 := n2_; have BK311 := n3_; have BK312 := n4_; have HB := n5_; clear n0_ n1_ n2_ n3_ n4_ n5_; (try clear hb); (try clear hb2); (try clear hk); (try clear hi); have hnb73 := NB302_977.out; have hnc73 := NB977_302.out; have hnb74 := NB302_312.out; have hnc74 := NB312_302.out; have hcz75_0 : w72.cell? ⟨gb302, 0, none⟩ = some (.int .i8 0) := (blk_cell BK302.out 0).trans rfl; have hcz75_1 : w72.cell? ⟨gb302, 1, none⟩ = some (.int .u8 0) := (blk_cell BK302.out 1).trans rfl; have hcz75_2 : w72.cell? ⟨gb302, 2, none⟩ = some (.int .u8 0) := (blk_cell BK302.out 2).trans rfl; have hfz75_0 := blk_frozen BK302.out 0; have hfz75_1 := blk_frozen BK302.out 1; have hfz75_2 := blk_frozen BK302.out 2))
 refine bodyPost_ret (results_ct rfl _ _ gb302 40 #[.int .i8 0, .int .u8 0, .int .u8 0] (0, 0) _ rfl (by (with_reducible repeat (first | refine blk_drewN ?_ _ | refine blk_drew ?_ | refine blk_alloc ?_ _)); refine blk_put (cs := #[.int .i8 0, .int .u8 0, .int .u8 0]) ?_ 2 _ rfl; (with_reducible repeat (first | refine blk_drewN ?_ _ | refine blk_drew ?_ | refine blk_alloc ?_ _)); refine blk_put (cs := #[.int .i8 0, .int .u8 0, .int .u8 0]) ?_ 1 _ rfl; (with_reducible repeat (first | refine blk_drewN ?_ _ | refine blk_drew ?_ | refine blk_alloc ?_ _)); refine blk_put (cs := #[.int .i8 0, .int .u8 0, .int .u8 0]) ?_ 0 _ rfl; (with_reducible repeat (first | refine blk_drewN ?_ _ | refine blk_drew ?_ | refine blk_alloc ?_ _)); exact BK302.out) Tryz.underlying40 rfl (by kernel_rfl)) rfl ?_
 exact ⟨by first | rfl | (simp [errW_none, errW_some] <;> rfl) | (simp [*, errW_none, errW_some] <;> rfl), zH3 HB GE302 GE311 GE312⟩
 }
 }
 }
 )
 )
 }
 · rw [if_neg c7] at H; exact absurd H (by simp)
 }
 · rw [if_neg c5] at H; exact absurd H (by simp)
end Go.Proofs.YtobickehjnogjaaGreatDoor.P
