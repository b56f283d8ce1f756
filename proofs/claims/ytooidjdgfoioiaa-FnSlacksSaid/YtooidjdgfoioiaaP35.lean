-- Printed by wip/print (my turned copy of the kit's print) out of the translation; Lean checks it.
import Derived.Test.YtooidjdgfoioiaaP0
import Derived.Test.YtooidjdgfoioiaaP33
namespace Go.Proofs.Ytooidjdgfoioiaa.P
open Go.RowKit Go.Proofs.YtooidjdgfoioiaaW.PrintWords Go.Proofs.YtooidjdgfoioiaaW.PrintLast Go.Proofs.YtooidjdgfoioiaaW.PrintMore
attribute [local go_sem] max2_int min2_int max_two min_two max_three min_three max_four min_four   -- for this text's walks alone
set_option linter.unusedVariables false
set_option linter.unusedSimpArgs false

/-! ### spec_l03Drawn: function 67 -/
def spec_l03Drawn.l0 : Nat → Int → List Int → Int → Int → Int → List Int → Option (Int × List Int × Int × Int)
  | 0, _, _, _, _, _, _ => none
  | k + 1, x4, AD, AF, AE, AB, AA => if x4 > 0 then ((spec_l00Src_pick.f AD AF AE 6).bind fun AC => (if AA.length < 70368744177664 then (spec_l03Drawn.l0 k (wrap64 (x4 - 1)) AD AC.2.1 AC.2.2 (IntKind.i16.wrap (AB + (IntKind.i16.wrap (wrap64 (1 + AC.1))))) (AA ++ [IntKind.i16.wrap (AB + (IntKind.i16.wrap (wrap64 (1 + AC.1))))])) else (none))) else (some (AB, AA, AF, AE))
def spec_l03Drawn.f (k : Nat) (AB : List Int) (AC : Int) (AD : Int) : Option (Int × List Int × Int × Int) := (spec_l00Src_pick.f AB AC AD 7).bind fun AA => (spec_l03Drawn.l0 k (wrap64 (1 + AA.1)) AB AA.2.1 AA.2.2 0 (([0] : List Int)))
def spec_l03Drawn.T5 : Bool × List (List Nat × List Nat) := (true, [([], []), ([0], [0]), ([], []), ([2], [2]), ([3], [3]), ([4], [4]), ([1, 5], [1, 5]), ([0, 1, 2, 3, 4, 5, 6], []), ([7, 6, 3, 0, 1, 2, 3, 4, 5, 6], [6, 7])])
def spec_l03Drawn.B5 : List Nat := [0, 1, 0, 4, 12, 28, 63, 127, 255]
theorem spec_l03Drawn.tab5 : rtab .any (opsOf Try.f67 5) = spec_l03Drawn.T5 := by kernel_rfl
theorem spec_l03Drawn.bits5 : waitsOk spec_l03Drawn.T5.2 spec_l03Drawn.B5 = true := by kernel_rfl
set_option maxHeartbeats 8000000 in
set_option maxRecDepth 100000 in
theorem spec_l03Drawn.calls (k : Nat) (g : Nat) (AN : List Int) (AY : Int) (AX : Int) (r1 : Int) (r2 : List Int) (r3 : Int) (r4 : Int) (w0 w : World) (hI : IsS123 w0 w g AN AY AX) (hB : Below w0.heap.size w0 w) (h : spec_l03Drawn.f k AN AY AX = some (r1, r2, r3, r4)) :
    Calls Try.prog 67 #[.pointer (some ⟨g, 0, none⟩)] w fun e w' => ∃ v1_ : Value, e = .returned (.agg #[.int .i16 r1, v1_]) ∧ Kd.R (Kd.int .i16) 29 w' w.heap.size (fun _ => True) v1_ r2 ∧ IsS123 w0 w' g AN r3 r4 ∧ Below w0.heap.size w0 w' ∧ KeepBut w w' g none := by
 have Bv := Try.underlying32
 have AK := ak hI
 have HK := ak (KeepBut.refl w g none)
 have HL := ak hB.size
 clear hI
 have BW := ak hB.size
 have HB := ak hB
 clear hB
 have H := h
 unfold spec_l03Drawn.f at H
 clear h
 obtain ⟨Ae, Aa⟩ : ∃ y_ : List Int, y_ = (([0] : List Int)) := ⟨_, rfl⟩
 replace H : ((spec_l00Src_pick.f AN AY AX 7).bind fun Ad => (spec_l03Drawn.l0 k (wrap64 (1 + Ad.1)) AN Ad.2.1 Ad.2.2 0 Ae)) = some (r1, r2, r3, r4) := by first | (rw [Aa]; with_reducible exact H) | (have Ao := (Option.bind_some _ _).symm.trans H; rw [Aa]; with_reducible exact Ao) | (have Ao := (Option.bind_some _ _).symm.trans H; with_reducible exact Ao) | with_reducible exact H | (rw [Aa]; exact H) | exact H
 have An := ak Aa
 clear Aa
 replace H := Option.bind_eq_some_iff.mp H
 obtain ⟨⟨Av, Az, Ay⟩, Bk, H⟩ := H
 have A2 := ak Bk
 clear Bk
 have H' := ak H
 clear H
 go_enter Try.func67, Try.ntmps67
 go_wp2_with (first | ((with_reducible refine gate_dst (N := 2) rfl ?_); refine box_event ?hg (N := 2) ?hd (cs := #[.int .i16 0, .slice none 0 0]) (t := 32) ?hr ?_; (case hd => rfl); (case hg => rfl); (case hr => first | (go_simp; done) | (go_simp; rfl)); intro AL hg w3 hbox hb; have AD := ak (hbox); have AM := ak ((by rw [hg]; exact (keep_size (w := w) (g := g) (row := none) (by repeat (first | (with_reducible first | exact HK.out | apply KeepBut.set_ | apply keep_drewN | apply keep_drew | apply keep_alloc) | exact HK.out))) : w.heap.size ≤ AL)); have AS := ak ((Nat.le_trans BW.out (by rw [hg]; exact (keep_size (w := w) (g := g) (row := none) (by repeat (first | (with_reducible first | exact HK.out | apply KeepBut.set_ | apply keep_drewN | apply keep_drew | apply keep_alloc) | exact HK.out))) : w.heap.size ≤ AL) : w0.heap.size ≤ AL)); have AE := ak ((by rw [hg]; exact Nat.ne_of_lt (IsS123.lt (show IsS123 w0 _ g AN AY AX from by repeat (first | (with_reducible first | exact AK.out | apply IsS123.alloc | apply IsS123.drewN | apply IsS123.drew | apply IsS123.set_1 | apply IsS123.set_2) | exact AK.out))) : g ≠ AL)); have AZ := ak ((by rw [hg]; exact Nat.ne_of_gt (IsS123.lt (show IsS123 w0 _ g AN AY AX from by repeat (first | (with_reducible first | exact AK.out | apply IsS123.alloc | apply IsS123.drewN | apply IsS123.drew | apply IsS123.set_1 | apply IsS123.set_2) | exact AK.out))) : AL ≠ g)); replace HK := ak (KeepBut.trans (by repeat (first | (with_reducible first | exact HK.out | apply KeepBut.set_ | apply keep_drewN | apply keep_drew | apply keep_alloc) | exact HK.out)) (KeepBut.of_below hb g none) (.inl rfl)); replace HB := ak (below_step (by repeat (first | (with_reducible first | exact HB.out | apply below_alloc | apply pw_below_drewN | apply below_drew1 | refine below_set ?_ (IsS123.ge AK.out)) | exact HB.out)) hb); replace AK := ak (IsS123.below (by repeat (first | (with_reducible first | exact AK.out | apply IsS123.alloc | apply IsS123.drewN | apply IsS123.drew | apply IsS123.set_1 | apply IsS123.set_2) | exact AK.out)) hb); clear hb hbox hg) | ((with_reducible refine gate_dst (N := 5) rfl ?_); refine Kd.R_lit (Kd.int .i16) _ 29 ?hg (N := 5) ?hd (xs := ([0] : List Int)) (inner := [.int .i16 0]) (ok := fun _ => True) (okp := fun _ => True) ?hr ?hp (fun _ hk => hk) trivial (Below.refl _ _) (Nat.le_refl _) (by simp) ?_; (case hd => rfl); (case hg => rfl); (case hr => first | (go_simp; done) | (go_simp; rfl)); (case hp => exact (Reps.one (show Kd.M (Kd.int .i16) _ _ _ 0 [.int .i16 0] from rfl) (Reps.none _ _))); intro Bu w4 Ax hb Bt Aw; clear Bt Aw; (first | rw [← An.out] at Ax | (simp only [Int.reduceToNat] at Ax; rw [← An.out] at Ax)); have AV := ak (Kd.R_lower Ax (keep_size (w := w) (g := g) (row := none) (by repeat (first | (with_reducible first | exact HK.out | apply KeepBut.set_ | apply keep_drewN | apply keep_drew | apply keep_alloc | refine keep_far ?_ AM.out _) | exact HK.out)))); replace AD := kK AD hb; replace HK := ak (KeepBut.trans (by repeat (first | (with_reducible first | exact HK.out | apply KeepBut.set_ | apply keep_drewN | apply keep_drew | apply keep_alloc | refine keep_far ?_ AM.out _) | exact HK.out)) (KeepBut.of_below hb g none) (.inl rfl)); replace HB := ak (below_step (by repeat (first | (with_reducible first | exact HB.out | apply below_alloc | apply pw_below_drewN | apply below_drew1 | refine below_set ?_ (IsS123.ge AK.out) | refine below_set ?_ AS.out) | exact HB.out)) hb); replace AK := ak (IsS123.below (by repeat (first | (with_reducible first | exact AK.out | apply IsS123.alloc | apply IsS123.drewN | apply IsS123.drew | apply IsS123.set_1 | apply IsS123.set_2 | refine IsS123.far ?_ AE.out _) | exact AK.out)) hb); clear hb Ax; obtain ⟨BQ, BN, Bo⟩ := Kd.R_slice AV.out; subst Bo) | ((with_reducible refine gate_dst (N := 3) rfl ?_); refine box_event ?hg (N := 3) ?hd (cs := #[.int .i16 0, .slice none 0 0]) (t := 32) ?hr ?_; (case hd => rfl); (case hg => rfl); (case hr => first | (go_simp; done) | (go_simp; rfl)); intro AF hg w7 hbox hb; have AB := ak (hbox); have AT := ak ((by rw [hg]; exact (keep_size (w := w) (g := g) (row := none) (by repeat (first | (with_reducible first | exact HK.out | apply KeepBut.set_ | apply keep_drewN | apply keep_drew | apply keep_alloc | refine keep_far ?_ AM.out _) | exact HK.out))) : w.heap.size ≤ AF)); have AW := ak ((Nat.le_trans BW.out (by rw [hg]; exact (keep_size (w := w) (g := g) (row := none) (by repeat (first | (with_reducible first | exact HK.out | apply KeepBut.set_ | apply keep_drewN | apply keep_drew | apply keep_alloc | refine keep_far ?_ AM.out _) | exact HK.out))) : w.heap.size ≤ AF) : w0.heap.size ≤ AF)); have AH := nL AD hg; have AO := nG AD hg; have AJ := ak ((by rw [hg]; exact Nat.ne_of_lt (IsS123.lt (show IsS123 w0 _ g AN AY AX from by repeat (first | (with_reducible first | exact AK.out | apply IsS123.alloc | apply IsS123.drewN | apply IsS123.drew | apply IsS123.set_1 | apply IsS123.set_2 | refine IsS123.far ?_ AE.out _) | exact AK.out))) : g ≠ AF)); have AP := ak ((by rw [hg]; exact Nat.ne_of_gt (IsS123.lt (show IsS123 w0 _ g AN AY AX from by repeat (first | (with_reducible first | exact AK.out | apply IsS123.alloc | apply IsS123.drewN | apply IsS123.drew | apply IsS123.set_1 | apply IsS123.set_2 | refine IsS123.far ?_ AE.out _) | exact AK.out))) : AF ≠ g)); replace AV := kR AV hb; replace AD := kK AD hb; replace HK := ak (KeepBut.trans (by repeat (first | (with_reducible first | exact HK.out | apply KeepBut.set_ | apply keep_drewN | apply keep_drew | apply keep_alloc | refine keep_far ?_ AM.out _) | exact HK.out)) (KeepBut.of_below hb g none) (.inl rfl)); replace HB := ak (below_step (by repeat (first | (with_reducible first | exact HB.out | apply below_alloc | apply pw_below_drewN | apply below_drew1 | refine below_set ?_ (IsS123.ge AK.out) | refine below_set ?_ AS.out) | exact HB.out)) hb); replace AK := ak (IsS123.below (by repeat (first | (with_reducible first | exact AK.out | apply IsS123.alloc | apply IsS123.drewN | apply IsS123.drew | apply IsS123.set_1 | apply IsS123.set_2 | refine IsS123.far ?_ AE.out _) | exact AK.out)) hb); clear hb hbox hg; have Bx := AO.out; have Bn := AH.out; have Br := AP.out; have Bq := AJ.out; obtain ⟨Al, Ak, Aj, Ag⟩ := cz2 w7 AB) | ((with_reducible refine gate_callee (f := 62) rfl ?_); refine goesL_ (some 8) rfl rfl Try.func62 (by kernel_rfl) rfl #[.pointer (some ⟨g, 0, none⟩), .int .i64 7] rfl gl_ ?_; (with_reducible refine (spec_l00Src_pick.calls g AN AY AX 7 Av Az Ay w0 _ ?side1 ?side2 A2.out).mono ?_); (case side1 => repeat (first | (with_reducible first | exact AK.out | apply IsS123.alloc | apply IsS123.drewN | apply IsS123.drew | apply IsS123.set_1 | apply IsS123.set_2 | refine IsS123.far ?_ AE.out _ | refine IsS123.far ?_ AJ.out _) | exact AK.out)); (case side2 => repeat (first | (with_reducible first | exact HB.out | apply below_alloc | apply pw_below_drewN | apply below_drew1 | refine below_set ?_ (IsS123.ge AK.out) | refine below_set ?_ AS.out | refine below_set ?_ AW.out) | exact HB.out)); rintro e By ⟨rfl, hi, hb, hk⟩; refine ⟨_, rfl, ?_⟩; replace AD := ak (KeepBut.blk hk (g' := AL) (o := .cells #[.int .i16 0, .slice none 0 0] 32 (0, 0)) (by refine blk_far ?_ AH.out _; refine blk_far ?_ AH.out _; exact AD.out) AZ.out (by simp)); replace AV := ak (Kd.R_mono (Kd.R_keep (IsS123.apart (show IsS123 w0 _ g AN AY AX from by repeat (first | (with_reducible first | exact AK.out | apply IsS123.alloc | apply IsS123.drewN | apply IsS123.drew | apply IsS123.set_1 | apply IsS123.set_2 | refine IsS123.far ?_ AE.out _ | refine IsS123.far ?_ AJ.out _) | exact AK.out)) ((Kd.R_mono (Kd.R_far (p := ⟨AF, 1, none⟩) (Kd.R_far (p := ⟨AF, 0, none⟩) (Kd.R_types AV.out AB.out (by decide)) (fun _ hk => hk.2) (.int .i16 0)) (fun _ hk => hk.2) (.slice BQ Ae.length BN)) (fun _ h_ => h_.1))) (by decide)) hk (fun _ h => h.2)) (fun _ h => h.1)); replace AB := ak (KeepBut.blk hk (g' := AF) (o := .cells #[.int .i16 0, .slice BQ Ae.length BN] 32 (0, 0)) (by refine blk_put (cs := #[.int .i16 0, .slice none 0 0]) ?_ 1 _ rfl; refine blk_put (cs := #[.int .i16 0, .slice none 0 0]) ?_ 0 _ rfl; exact AB.out) AP.out (by simp)); replace HK := ak (KeepBut.trans (by repeat (first | (with_reducible first | exact HK.out | apply KeepBut.set_ | apply keep_drewN | apply keep_drew | apply keep_alloc | refine keep_far ?_ AM.out _ | refine keep_far ?_ AT.out _) | exact HK.out)) hk (.inl rfl)); replace HB := ak (hb); replace AK := ak (hi); (try clear hb); (try clear hk); (try clear hi)))
 go_loopg [4] k (fun kq v4 w' => ∃ (Ac : Int) (AQ : Int) (AR : Int) (AA : Int) (AI : List Int) (AG : Value), v4 = .int .i64 Ac ∧ Aside0 (spec_l03Drawn.l0 kq Ac AN AQ AR AA AI = some (r1, r2, r3, r4)) ∧ Aside0 (kq ≤ k) ∧ Aside0 (Kd.R (Kd.int .i16) 29 w' w.heap.size (fun _ => True) AG AI) ∧ Aside0 (w'.heap[AL]? = some (.cells #[.int .i16 0, (.slice none 0 0)] 32 (0, 0))) ∧ Aside0 (w'.heap[AF]? = some (.cells #[.int .i16 AA, AG] 32 (0, 0))) ∧ Aside0 (IsS123 w0 w' g AN AQ AR) ∧ Aside0 (KeepBut w w' g none) ∧ Aside0 (Below w0.heap.size w0 w'))
 case atStart => exact ⟨(wrap64 (1 + Av)), (Az), (Ay), (0), (Ae), (.slice BQ Ae.length BN), rfl, H', ⟨Nat.le_refl _⟩, ⟨(zR AV.out)⟩, ⟨(zK AD.out)⟩, ⟨(zK AB.out)⟩, ⟨by repeat (first | (with_reducible first | exact AK.out | apply IsS123.alloc | apply IsS123.drewN | apply IsS123.drew | apply IsS123.set_1 | apply IsS123.set_2 | refine IsS123.far ?_ AE.out _ | refine IsS123.far ?_ AJ.out _) | exact AK.out)⟩, ⟨by repeat (first | (with_reducible first | exact HK.out | apply KeepBut.set_ | apply keep_drewN | apply keep_drew | apply keep_alloc | refine keep_far ?_ AM.out _ | refine keep_far ?_ AT.out _) | exact HK.out)⟩, ⟨by repeat (first | (with_reducible first | exact HB.out | apply below_alloc | apply pw_below_drewN | apply below_drew1 | refine below_set ?_ (IsS123.ge AK.out) | refine below_set ?_ AS.out | refine below_set ?_ AW.out) | exact HB.out)⟩⟩
 case round => (
 clear H'
 obtain ⟨Ac, AQ, AR, AA, AI, AG, rfl, HA, BZ, AC, AD, AB, AK, HK, HB⟩ := hrel
 cases gk with
 | zero => exact absurd HA.out (by simp [spec_l03Drawn.l0])
 | succ k1 => (
 have H := HA.out
 clear HA
 simp only [spec_l03Drawn.l0] at H
 by_cases Ap : Ac > 0
 {
 rw [if_pos Ap] at H
 have A0 : decide (0 < Ac) = true := decide_eq_true Ap
 clear Ap
 replace H := Option.bind_eq_some_iff.mp H
 obtain ⟨⟨AU, Ah, Ai⟩, At, H⟩ := H
 have Bp := ak At
 clear At
 by_cases BD : AI.length < 70368744177664
 {
 rw [if_pos BD] at H
 have Ar := ak BD
 clear BD
 obtain ⟨Af, Ab⟩ : ∃ y_ : List Int, y_ = (AI ++ [IntKind.i16.wrap (AA + (IntKind.i16.wrap (wrap64 (1 + AU))))]) := ⟨_, rfl⟩
 replace H : (spec_l03Drawn.l0 k1 (wrap64 (Ac - 1)) AN Ah Ai (IntKind.i16.wrap (AA + (IntKind.i16.wrap (wrap64 (1 + AU))))) Af) = some (r1, r2, r3, r4) := by first | (rw [Ab]; with_reducible exact H) | (have Ao := (Option.bind_some _ _).symm.trans H; rw [Ab]; with_reducible exact Ao) | (have Ao := (Option.bind_some _ _).symm.trans H; with_reducible exact Ao) | with_reducible exact H | (rw [Ab]; exact H) | exact H
 have A1 := ak Ab
 clear Ab
 have H' := ak H
 clear H
 try go_wp2
 replace AC := ak (Kd.R_drew AC.out)
 replace AD := ak (blk_drew AD.out)
 replace AB := ak (blk_drew AB.out)
 replace AK := ak (IsS123.drew AK.out)
 replace HK := ak (keep_drew HK.out)
 replace HB := ak (below_drew1 HB.out)
 refine start_ (n := 9) (S := fun w' => w'.cell? ⟨AF, 0, none⟩ = some (.int .i16 AA) ∧ w'.cell? ⟨AF, 1, none⟩ = some (AG)) (ds := [8]) (bA 9 0) (by kernel_rfl) rfl rfl ⟨(blk_cell AB.out 0).trans rfl, (blk_cell AB.out 1).trans rfl⟩ (fun hHeld => ?_); refine with_tabW spec_l03Drawn.tab5 spec_l03Drawn.bits5 (fun HT_ HW_ => ?_)
 generalize wr.drew = Bz at AC AD AB AK HK HB hHeld ⊢
 refine pU 0 14 (bA 9 1) HT_ ?_
 refine pU 2 16 (bA 9 5) HT_ ?_
 refine tK 1 15 (bA 9 7) HT_ HW_ hHeld ?_
 refine one_ (i := 3) (N := some 17) (bA 9 15) rfl rfl (one_of HT_.out (by kernel_rfl)) (by decide) (fun K hK => ?_)
 refine goes_ Try.func62 (by kernel_rfl) rfl #[.pointer (some ⟨g, 0, none⟩), .int .i64 6] (by rfl) rfl rfl gl_ ?_
 with_reducible refine (spec_l00Src_pick.calls g AN AQ AR 6 AU Ah Ai w0 _ ?side1 ?side2 Bp.out).mono ?_
 (case side1 => repeat (first | (with_reducible first | exact AK.out | apply IsS123.alloc | apply IsS123.drewN | apply IsS123.drew | apply IsS123.set_1 | apply IsS123.set_2 | refine IsS123.far ?_ AE.out _ | refine IsS123.far ?_ AJ.out _) | exact AK.out))
 (case side2 => repeat (first | (with_reducible first | exact HB.out | apply below_alloc | apply pw_below_drewN | apply below_drew1 | refine below_set ?_ (IsS123.ge AK.out) | refine below_set ?_ AS.out | refine below_set ?_ AW.out) | exact HB.out))
 rintro e BO ⟨rfl, hi, hb, hk⟩
 refine ⟨_, rfl, ?_⟩
 replace AC := ak (Kd.R_mono (Kd.R_keep (IsS123.apart (show IsS123 w0 _ g AN AQ AR from by repeat (first | (with_reducible first | exact AK.out | apply IsS123.alloc | apply IsS123.drewN | apply IsS123.drew | apply IsS123.set_1 | apply IsS123.set_2 | refine IsS123.far ?_ AE.out _ | refine IsS123.far ?_ AJ.out _) | exact AK.out)) (zR AC.out) (by decide)) hk (fun _ h => h.2)) (fun _ h => h.1))
 replace AD := ak (KeepBut.blk hk (g' := AL) (o := .cells #[.int .i16 0, .slice none 0 0] 32 (0, 0)) (zK AD.out) AZ.out (by simp))
 replace AB := ak (KeepBut.blk hk (g' := AF) (o := .cells #[.int .i16 AA, AG] 32 (0, 0)) (zK AB.out) AP.out (by simp))
 replace HK := ak (KeepBut.trans (by repeat (first | (with_reducible first | exact HK.out | apply KeepBut.set_ | apply keep_drewN | apply keep_drew | apply keep_alloc | refine keep_far ?_ AM.out _ | refine keep_far ?_ AT.out _) | exact HK.out)) hk (.inl rfl))
 replace HB := ak (hb)
 replace AK := ak (hi)
 refine hK.out _ _ ⟨(blk_cell AB.out 0).trans rfl, (blk_cell AB.out 1).trans rfl⟩ (fun hHeld => ?_)
 clear hK K
 refine norm_ (a' := ?_) ?_ ?_
 rotate_left
 {
 show Act.put _ (some 17) _ = _
 simp only [Act.put, zs, zz, zk, i64_w, i32_w]
 rfl
 }
 refine pU 4 18 (bA 9 31) HT_ ?_
 refine pU 5 19 (bA 9 63) HT_ ?_
 refine pU 6 20 (bA 9 127) HT_ ?_
 refine pU 7 21 (bA 9 255) HT_ ?_
 refine last_ (i := 8) (N := none) #[true, true, true, true, true, true, true, true, true] rfl rfl (one_of HT_.out (by kernel_rfl)) (by decide) (fun K hK => ?_)
 have Bw : BO.cell? ⟨AF, 0, none⟩ = some (.int .i16 AA) := (blk_cell AB.out 0).trans rfl
 have Bg := blk_frozen AB.out 0
 have A5 := AH.out
 have BG := AO.out
 refine skip_ (w1 := ?_) (by rfl) rfl ?_ ?_
 rotate_left
 · go_simp; rfl
 refine hK.out _ _ ?_
 clear hK K
 refine done_ (done_of HT_.out (by kernel_rfl)) ?_
 have Bj := AO.out
 have BX := AH.out
 have BY := AP.out
 have Bf := AJ.out
 have BB : BO.cell? ⟨AF, 0, none⟩ = some (.int .i16 AA) := (blk_cell AB.out 0).trans rfl
 have A7 : BO.cell? ⟨AF, 1, none⟩ = some (AG) := (blk_cell AB.out 1).trans rfl
 have BC := blk_frozen AB.out 0
 have BE := blk_frozen AB.out 1
 try go_wp2_with (first | ((with_reducible refine gate_builtin (b := .append) (xs := #[.tmp 23, .tmp 26]) rfl ?_); at_builtin; refine Kd.R_append (Kd.int .i16) w.heap.size rfl (.tmp 23) (.tmp 26) 30 29 (.int .i16 0) 2 rfl Try.underlying30 info29 rfl (by decide) (by omega) AG AI (IntKind.i16.wrap (AA + (IntKind.i16.wrap (wrap64 (1 + AU))))) [.int .i16 (IntKind.i16.wrap (AA + (IntKind.i16.wrap (wrap64 (1 + AU)))))] (fun _ => True) (fun _ => False) rfl (by first | (go_simp; done) | (go_simp; rfl)) ?aP (fun _ hk => hk.elim) ?aF ?aO (Below.refl _ _) ?aS ?aL ?_; (case aP => exact rfl); (case aF => exact (fun _ _ => trivial)); (case aO => exact (Kd.R_mono (Kd.R_far (p := ⟨AF, 0, none⟩) (Kd.R_types AC.out AB.out (by decide)) (fun _ hk => hk.2) (.int .i16 (IntKind.i16.wrap (AA + (IntKind.i16.wrap (wrap64 (1 + AU))))))) (fun _ hk => trivial))); (case aS => exact (keep_size (w := w) (g := g) (row := none) (by repeat (first | (with_reducible first | exact HK.out | apply KeepBut.set_ | apply keep_drewN | apply keep_drew | apply keep_alloc | refine keep_far ?_ AM.out _ | refine keep_far ?_ AT.out _) | exact HK.out)))); (case aL => have := Ar.out; omega); intro Bs Bm ho hb hg hat; rw [← A1.out] at ho; have Bd := ak (blk_grown (g := AL) (o := .cells #[.int .i16 0, .slice none 0 0] 32 (0, 0)) (by refine blk_far ?_ AH.out _; exact AD.out) hg (Kd.R_ne AC.out AD.out (by decide))); have BS := ak (blk_grown (g := AF) (o := .cells #[.int .i16 (IntKind.i16.wrap (AA + (IntKind.i16.wrap (wrap64 (1 + AU))))), AG] 32 (0, 0)) (by refine blk_put (cs := #[.int .i16 AA, AG]) ?_ 0 _ rfl; exact AB.out) hg (Kd.R_ne AC.out AB.out (by decide))); have Ba := ak (IsS123.grown (w0 := w0) (f0 := AN) (f1 := Ah) (f2 := Ai) (by repeat (first | (with_reducible first | exact AK.out | apply IsS123.alloc | apply IsS123.drewN | apply IsS123.drew | apply IsS123.set_1 | apply IsS123.set_2 | refine IsS123.far ?_ AE.out _ | refine IsS123.far ?_ AJ.out _) | exact AK.out)) hg (IsS123.own_ne AK.out AC.out (by decide))); have Be := ak (below_weaken (by repeat (first | (with_reducible first | exact HB.out | apply below_alloc | apply pw_below_drewN | apply below_drew1 | refine below_set ?_ (IsS123.ge AK.out) | refine below_set ?_ AS.out | refine below_set ?_ AW.out) | exact HB.out)) HL.out hb); have Bl := ak (KeepBut.trans (by repeat (first | (with_reducible first | exact HK.out | apply KeepBut.set_ | apply keep_drewN | apply keep_drew | apply keep_alloc | refine keep_far ?_ AM.out _ | refine keep_far ?_ AT.out _) | exact HK.out)) (KeepBut.of_grown hg g) (Kd.R_base2 AC.out)); have BT := ak (ho); clear AD AB AK HB HK AC; have AD := Bd; have AB := BS; have AK := Ba; have HB := Be; have HK := Bl; have Am := BT; clear Bd BS Ba Be Bl BT; clear ho hb hg hat; obtain ⟨Au, Aq, BP⟩ := Kd.R_slice Am.out; subst BP; have A4 : Bm.cell? ⟨AF, 0, none⟩ = some (.int .i16 (IntKind.i16.wrap (AA + (IntKind.i16.wrap (wrap64 (1 + AU)))))) := (blk_cell AB.out 0).trans rfl; have BK : Bm.cell? ⟨AF, 1, none⟩ = some (AG) := (blk_cell AB.out 1).trans rfl; have BJ := blk_frozen AB.out 0; have BM := blk_frozen AB.out 1))
 go_roundg k1
 case measure => have := BZ.out; omega
 case rel => exact ⟨(wrap64 (Ac - 1)), (Ah), (Ai), (IntKind.i16.wrap (AA + (IntKind.i16.wrap (wrap64 (1 + AU))))), (Af), (.slice Au Af.length Aq), rfl, H', ⟨by have := BZ.out; omega⟩, ⟨Kd.R_mono (Kd.R_far (p := ⟨AF, 1, none⟩) (Kd.R_types Am.out AB.out (by decide)) (fun _ hk => hk.2) (.slice Au Af.length Aq)) (fun _ hk => trivial)⟩, ⟨by refine blk_far ?_ AH.out _; exact AD.out⟩, ⟨by refine blk_put (cs := #[.int .i16 (IntKind.i16.wrap (AA + (IntKind.i16.wrap (wrap64 (1 + AU))))), AG]) ?_ 1 _ rfl; exact AB.out⟩, ⟨by repeat (first | (with_reducible first | exact AK.out | apply IsS123.alloc | apply IsS123.drewN | apply IsS123.drew | apply IsS123.set_1 | apply IsS123.set_2 | refine IsS123.far ?_ AE.out _ | refine IsS123.far ?_ AJ.out _) | exact AK.out)⟩, ⟨by repeat (first | (with_reducible first | exact HK.out | apply KeepBut.set_ | apply keep_drewN | apply keep_drew | apply keep_alloc | refine keep_far ?_ AM.out _ | refine keep_far ?_ AT.out _) | exact HK.out)⟩, ⟨by repeat (first | (with_reducible first | exact HB.out | apply below_alloc | apply pw_below_drewN | apply below_drew1 | refine below_set ?_ (IsS123.ge AK.out) | refine below_set ?_ AS.out | refine below_set ?_ AW.out) | exact HB.out)⟩⟩
 }
 · rw [if_neg BD] at H; exact absurd H (by simp)
 }
 {
 rw [if_neg Ap] at H
 have A0 : decide (0 < Ac) = false := decide_eq_false Ap
 clear Ap
 simp only [Option.some.injEq, Prod.mk.injEq] at H
 obtain ⟨rfl, rfl, rfl, rfl⟩ := H
 have Bh := AO.out
 have Bb := AH.out
 have BV := AP.out
 have Bi := AJ.out
 have BL : wr.cell? ⟨AF, 0, none⟩ = some (.int .i16 AA) := (blk_cell AB.out 0).trans rfl
 have A9 : wr.cell? ⟨AF, 1, none⟩ = some (AG) := (blk_cell AB.out 1).trans rfl
 have BH := blk_frozen AB.out 0
 have A6 := blk_frozen AB.out 1
 have Bc := AZ.out
 have BU := AE.out
 have BI : wr.cell? ⟨AL, 0, none⟩ = some (.int .i16 0) := (blk_cell AD.out 0).trans rfl
 have BA : wr.cell? ⟨AL, 1, none⟩ = some (.slice none 0 0) := (blk_cell AD.out 1).trans rfl
 have BF := blk_frozen AD.out 0
 have A8 := blk_frozen AD.out 1
 obtain ⟨A3, As, BR⟩ := Kd.R_slice AC.out
 subst BR
 go_wp2
 refine bodyPost_ret (results_cell_row rfl _ _ AL 32 #[.int .i16 AA, .slice A3 AI.length As] (0, 0) _ rfl (by refine blk_put (cs := #[.int .i16 AA, .slice none 0 0]) ?_ 1 _ rfl; refine blk_put (cs := #[.int .i16 0, .slice none 0 0]) ?_ 0 _ rfl; exact AD.out) Try.underlying32 rfl (by kernel_rfl)) rfl ?_
 exact ⟨_, rfl, Kd.R_mono (Kd.R_far (p := ⟨AL, 1, none⟩) (Kd.R_far (p := ⟨AL, 0, none⟩) (Kd.R_types AC.out AD.out (by decide)) (fun _ hk => hk.2) (.int .i16 AA)) (fun _ hk => hk.2) (.slice A3 AI.length As)) (fun _ hk => trivial), by repeat (first | (with_reducible first | exact AK.out | apply IsS123.alloc | apply IsS123.drewN | apply IsS123.drew | apply IsS123.set_1 | apply IsS123.set_2 | refine IsS123.far ?_ AE.out _ | refine IsS123.far ?_ AJ.out _) | exact AK.out), by repeat (first | (with_reducible first | exact HB.out | apply below_alloc | apply pw_below_drewN | apply below_drew1 | refine below_set ?_ (IsS123.ge AK.out) | refine below_set ?_ AS.out | refine below_set ?_ AW.out) | exact HB.out), by repeat (first | (with_reducible first | exact HK.out | apply KeepBut.set_ | apply keep_drewN | apply keep_drew | apply keep_alloc | refine keep_far ?_ AM.out _ | refine keep_far ?_ AT.out _) | exact HK.out)⟩
 }
 )
 )
/-! ### spec_P6Rope: function 32 -/
def spec_P6Rope.f (k : Nat) (l0 : List Int) : Option (Int × List Int) := (spec_l00From.f l0).bind fun AA => ((spec_l03Drawn.f k AA.1 AA.2.1 AA.2.2).bind fun AB => (some (AB.1, AB.2.1)))
set_option maxHeartbeats 8000000 in
set_option maxRecDepth 100000 in
theorem spec_P6Rope.calls (k : Nat) (A0 : Option Addr) (c0 : Nat) (l0 : List Int) (r1 : Int) (r2 : List Int) (w : World) (Aa : Kd.C (Kd.int .u8) w A0 l0.length l0) (AZ : l0.length ≤ c0) (h : spec_P6Rope.f k l0 = some (r1, r2)) :
    Calls Try.prog 32 #[.slice A0 l0.length c0] w fun e w' => ∃ v1_ : Value, e = .returned (.agg #[.int .i16 r1, v1_]) ∧ Kd.R (Kd.int .i16) 29 w' w.heap.size (fun _ => True) v1_ r2 ∧ Below w.heap.size w w' := by
 have Ah := Try.underlying32
 have Ai := ak Aa
 have Ad := ak AZ
 clear Aa AZ
 have HB := ak (Below.refl w.heap.size w)
 have H := h
 unfold spec_P6Rope.f at H
 clear h
 replace H := Option.bind_eq_some_iff.mp H
 obtain ⟨⟨AM, AL, AK⟩, AW, H⟩ := H
 have A2 := ak AW
 clear AW
 replace H := Option.bind_eq_some_iff.mp H
 obtain ⟨⟨AG, AI, AS, AT⟩, AV, H⟩ := H
 have A3 := ak AV
 clear AV
 simp only [Option.some.injEq, Prod.mk.injEq] at H
 obtain ⟨rfl, rfl⟩ := H
 go_enter Try.func32, Try.ntmps32
 go_wp2_with (first | ((with_reducible refine gate_dst (N := 2) rfl ?_); refine box_event ?hg (N := 2) ?hd (cs := #[.int .i16 0, .slice none 0 0]) (t := 32) ?hr ?_; (case hd => rfl); (case hg => rfl); (case hr => first | (go_simp; done) | (go_simp; rfl)); intro AB hg w4 hbox hb; have AA := ak (hbox); have AX := gS HB hg; have AF := gS HB hg; replace HB := kB HB hb; clear hb hbox hg) | ((with_reducible refine gate_callee (f := 60) rfl ?_); refine goesL_ (some 4) rfl rfl Try.func60 (by kernel_rfl) rfl #[.slice A0 l0.length c0] rfl gl_ ?_; (with_reducible refine (spec_l00From.calls _ _ l0 AM AL AK w _ ?side1 ?side2 ?side3 A2.out).mono ?_); (case side1 => repeat (first | (with_reducible first | exact HB.out | apply below_alloc | apply pw_below_drewN | apply below_drew1 | refine below_set ?_ AF.out) | exact HB.out)); (case side2 => exact Ai.out); (case side3 => exact Ad.out); rintro e w5 ⟨AJ, rfl, hi, hb, AN⟩; refine ⟨_, rfl, ?_⟩; have AD := ak (hi); have AC := ak (IsS123.ne_blk hi (blk_below (g := AB) (o := .cells #[.int .i16 0, .slice none 0 0] 32 (0, 0)) (zK AA.out) AN) (by decide)); have AE := ak (Ne.symm (IsS123.ne_blk hi (blk_below (g := AB) (o := .cells #[.int .i16 0, .slice none 0 0] 32 (0, 0)) (zK AA.out) AN) (by decide))); replace AA := ak (blk_below (g := AB) (o := .cells #[.int .i16 0, .slice none 0 0] 32 (0, 0)) (zK AA.out) AN); replace HB := ak (hb); (try clear hb); (try clear AN); (try clear hi)) | ((with_reducible refine gate_callee (f := 67) rfl ?_); refine goesL_ (some 5) rfl rfl Try.func67 (by kernel_rfl) rfl #[.pointer (some ⟨AJ, 0, none⟩)] rfl gl_ ?_; (with_reducible refine (spec_l03Drawn.calls k AJ AM AL AK AG AI AS AT w _ ?side1 ?side2 A3.out).mono ?_); (case side1 => repeat (first | (with_reducible first | exact AD.out | apply IsS123.alloc | apply IsS123.drewN | apply IsS123.drew | apply IsS123.set_1 | apply IsS123.set_2 | refine IsS123.far ?_ AC.out _) | exact AD.out)); (case side2 => repeat (first | (with_reducible first | exact HB.out | apply below_alloc | apply pw_below_drewN | apply below_drew1 | refine below_set ?_ (IsS123.ge AD.out) | refine below_set ?_ AF.out) | exact HB.out)); rintro e w6 ⟨Ag, rfl, AU, hi, hb, hk⟩; refine ⟨_, rfl, ?_⟩; have AH := ak (Kd.R_lower AU (below_size (by repeat (first | (with_reducible first | exact HB.out | apply below_alloc | apply pw_below_drewN | apply below_drew1 | refine below_set ?_ (IsS123.ge AD.out) | refine below_set ?_ AF.out) | exact HB.out)))); replace AA := ak (KeepBut.blk hk (g' := AB) (o := .cells #[.int .i16 0, .slice none 0 0] 32 (0, 0)) (zK AA.out) AE.out (by simp)); replace HB := ak (hb); replace AD := ak (hi); (try clear hb); (try clear hk); (try clear hi); (try clear AU); have Ae := AE.out; have Af := AC.out; obtain ⟨AQ, AO, AP, AR⟩ := cz2 w6 AA; obtain ⟨Ab, AY, Ac⟩ := Kd.R_slice AH.out; subst Ac))
 refine bodyPost_ret (results_cell_row rfl _ _ AB 32 #[.int .i16 AG, .slice Ab AI.length AY] (0, 0) _ rfl (by refine blk_put (cs := #[.int .i16 AG, .slice none 0 0]) ?_ 1 _ rfl; refine blk_put (cs := #[.int .i16 0, .slice none 0 0]) ?_ 0 _ rfl; exact AA.out) Try.underlying32 rfl (by kernel_rfl)) rfl ?_
 exact ⟨_, rfl, Kd.R_mono (Kd.R_far (p := ⟨AB, 1, none⟩) (Kd.R_far (p := ⟨AB, 0, none⟩) (Kd.R_types AH.out AA.out (by decide)) (fun _ hk => hk.2) (.int .i16 AG)) (fun _ hk => hk.2) (.slice Ab AI.length AY)) (fun _ hk => trivial), by repeat (first | (with_reducible first | exact HB.out | apply below_alloc | apply pw_below_drewN | apply below_drew1 | refine below_set ?_ (IsS123.ge AD.out) | refine below_set ?_ AF.out) | exact HB.out)⟩
/-! ### spec_l03Held: function 68 -/
mutual
def spec_l03Held.l0 : Nat → List (S65) → Int → Int → List Int → Int → Int → Int → List Int → Option ((List (S65)) × Int × Int)
  | 0, _, _, _, _, _, _, _, _ => none
  | k + 1, x5, x6, x7, AC, AE, AD, AB, AA => if x7 < (AA.length : Int) then (spec_l03Held.j1 k x5 x6 x7 (decide (x7 < 30)) AC AE AD AB AA) else (spec_l03Held.j1 k x5 x6 x7 false AC AE AD AB AA)
def spec_l03Held.j1 : Nat → List (S65) → Int → Int → Bool → List Int → Int → Int → Int → List Int → Option ((List (S65)) × Int × Int)
  | 0, _, _, _, _, _, _, _, _, _ => none
  | k + 1, x5, x6, x7, AH, AB, AG, AF, AD, AE => if AH = true then ((spec_l00Src_one.f AB AG AF 2).bind fun AA => (if AA.1 = true then (if x5.length < 35184372088832 then ((spec_l00Src_pick.f AB AA.2.1 AA.2.2 30).bind fun AC => (spec_l03Held.l0 k (x5 ++ [(⟨IntKind.i16.wrap (x6), IntKind.i8.wrap (x7)⟩ : S65)]) (Int.tmod (wrap64 ((wrap64 (x6 + 1)) + AC.1)) 1000) (wrap64 (x7 + 1)) AB AC.2.1 AC.2.2 AD AE)) else (none)) else (spec_l03Held.l0 k x5 x6 (wrap64 (x7 + 1)) AB AA.2.1 AA.2.2 AD AE))) else (some (x5, AG, AF))
end
def spec_l03Held.f (k : Nat) (AB : List Int) (AC : Int) (AE : Int) (AF : Int) (AD : List Int) : Option ((List (S65)) × Int × Int) := (spec_l00Src_pick.f AB AC AE 900).bind fun AA => (spec_l03Held.l0 k (([] : List (S65))) AA.1 0 AB AA.2.1 AA.2.2 AF AD)
set_option maxHeartbeats 8000000 in
set_option maxRecDepth 100000 in
theorem spec_l03Held.calls (k : Nat) (g : Nat) (AF : List Int) (AX : Int) (AY : Int) (b1 : Nat) (AG : Int) (AK : Option Addr) (AM : Nat) (AE : List Int) (r1 : List (S65)) (r2 : Int) (r3 : Int) (w0 w : World) (hI : IsS123 w0 w g AF AX AY) (hB : Below w0.heap.size w0 w) (Ac : Kd.C (Kd.int .i16) w AK AE.length AE) (Ab : AE.length ≤ AM) (BC : ∀ ad, AK = some ad → 0 < AE.length → ad.block ≠ g) (A1 : w.heap[b1]? = some (.cells #[.int .i16 AG, .slice AK AE.length AM] 32 (0, 0))) (A9 : b1 ≠ g) (h : spec_l03Held.f k AF AX AY AG AE = some (r1, r2, r3)) :
    Calls Try.prog 68 #[.pointer (some ⟨g, 0, none⟩), .pointer (some ⟨b1, 0, none⟩)] w fun e w' => ∃ v0_ : Value, e = .returned (v0_) ∧ Kd.R k65 65 w' w.heap.size (fun _ => True) v0_ r1 ∧ IsS123 w0 w' g AF r2 r3 ∧ Below w0.heap.size w0 w' ∧ KeepBut w w' g none := by
 have BK := Try.underlying65
 have BE := ak Ac
 have BI := ak Ab
 clear Ac Ab
 have AJ := ak A1
 clear A1
 have AN := ak A9
 have AA := ak (Ne.symm A9)
 clear A9
 have AB := ak hI
 have HK := ak (KeepBut.refl w g none)
 have HL := ak hB.size
 clear hI
 have BU := ak hB.size
 have HB := ak hB
 clear hB
 have H := h
 unfold spec_l03Held.f at H
 clear h
 obtain ⟨Ag, AP⟩ : ∃ y_ : List (S65), y_ = (([] : List (S65))) := ⟨_, rfl⟩
 replace H : ((spec_l00Src_pick.f AF AX AY 900).bind fun Aa => (spec_l03Held.l0 k Ag Aa.1 0 AF Aa.2.1 Aa.2.2 AG AE)) = some (r1, r2, r3) := by first | (rw [AP]; with_reducible exact H) | (have Ae := (Option.bind_some _ _).symm.trans H; rw [AP]; with_reducible exact Ae) | (have Ae := (Option.bind_some _ _).symm.trans H; with_reducible exact Ae) | with_reducible exact H | (rw [AP]; exact H) | exact H
 have Ad := ak AP
 clear AP
 replace H := Option.bind_eq_some_iff.mp H
 obtain ⟨⟨Ap, Aj, At⟩, BG, H⟩ := H
 have A3 := ak BG
 clear BG
 have H' := ak H
 clear H
 go_enter Try.func68, Try.ntmps68
 go_wp2_with (first | ((with_reducible refine gate_dst (N := 8) rfl ?_); refine Kd.R_lit k65 _ 65 ?hg (N := 8) ?hd (xs := ([] : List (S65))) (inner := []) (ok := fun _ => True) (okp := fun _ => True) ?hr ?hp (fun _ hk => hk) trivial (Below.refl _ _) (Nat.le_refl _) (by simp) ?_; (case hd => rfl); (case hg => rfl); (case hr => first | (go_simp; done) | (go_simp; rfl)); (case hp => exact (Reps.none _ _)); intro BP w4 Al hb BN Ak; clear BN Ak; (first | rw [← Ad.out] at Al | (simp only [Int.reduceToNat] at Al; rw [← Ad.out] at Al)); have AW := ak (Kd.R_lower Al (keep_size (w := w) (g := g) (row := none) (by repeat (first | (with_reducible first | exact HK.out | apply KeepBut.set_ | apply keep_drewN | apply keep_drew | apply keep_alloc | refine keep_far ?_ GW1.out _) | exact HK.out)))); replace AJ := kK AJ hb; replace HK := ak (KeepBut.trans (by repeat (first | (with_reducible first | exact HK.out | apply KeepBut.set_ | apply keep_drewN | apply keep_drew | apply keep_alloc | refine keep_far ?_ GW1.out _) | exact HK.out)) (KeepBut.of_below hb g none) (.inl rfl)); replace HB := ak (below_step (by repeat (first | (with_reducible first | exact HB.out | apply below_alloc | apply pw_below_drewN | apply below_drew1 | refine below_set ?_ (IsS123.ge AB.out)) | exact HB.out)) hb); replace AB := ak (IsS123.below (by repeat (first | (with_reducible first | exact AB.out | apply IsS123.alloc | apply IsS123.drewN | apply IsS123.drew | apply IsS123.set_1 | apply IsS123.set_2 | refine IsS123.far ?_ AA.out _) | exact AB.out)) hb); clear hb Al) | ((with_reducible refine gate_callee (f := 62) rfl ?_); refine goesL_ (some 10) rfl rfl Try.func62 (by kernel_rfl) rfl #[.pointer (some ⟨g, 0, none⟩), .int .i64 900] rfl gl_ ?_; (with_reducible refine (spec_l00Src_pick.calls g AF AX AY 900 Ap Aj At w0 _ ?side1 ?side2 A3.out).mono ?_); (case side1 => repeat (first | (with_reducible first | exact AB.out | apply IsS123.alloc | apply IsS123.drewN | apply IsS123.drew | apply IsS123.set_1 | apply IsS123.set_2 | refine IsS123.far ?_ AA.out _) | exact AB.out)); (case side2 => repeat (first | (with_reducible first | exact HB.out | apply below_alloc | apply pw_below_drewN | apply below_drew1 | refine below_set ?_ (IsS123.ge AB.out)) | exact HB.out)); rintro e w6 ⟨rfl, hi, hb, hk⟩; refine ⟨_, rfl, ?_⟩; replace AJ := ak (KeepBut.blk hk (g' := b1) (o := .cells #[.int .i16 AG, .slice AK AE.length AM] 32 (0, 0)) (zK AJ.out) AN.out (by simp)); replace AW := ak (Kd.R_mono (Kd.R_keep (IsS123.apart (show IsS123 w0 _ g AF AX AY from by repeat (first | (with_reducible first | exact AB.out | apply IsS123.alloc | apply IsS123.drewN | apply IsS123.drew | apply IsS123.set_1 | apply IsS123.set_2 | refine IsS123.far ?_ AA.out _) | exact AB.out)) (zR AW.out) (by decide)) hk (fun _ h => h.2)) (fun _ h => h.1)); replace HK := ak (KeepBut.trans (by repeat (first | (with_reducible first | exact HK.out | apply KeepBut.set_ | apply keep_drewN | apply keep_drew | apply keep_alloc | refine keep_far ?_ GW1.out _) | exact HK.out)) hk (.inl rfl)); replace HB := ak (hb); replace AB := ak (hi); (try clear hb); (try clear hk); (try clear hi)))
 go_loopg [5, 6, 7] k (fun kq v5 v6 v7 w' => ∃ (AO : List (S65)) (AL : Int) (AH : Int) (AD : Int) (AC : Int), v6 = .int .i64 AL ∧ v7 = .int .i64 AH ∧ Aside0 (spec_l03Held.l0 kq AO AL AH AF AD AC AG AE = some (r1, r2, r3)) ∧ Aside0 (kq ≤ k) ∧ Aside0 (Kd.R k65 65 w' w.heap.size (fun _ => True) v5 AO) ∧ Aside0 (w'.heap[b1]? = some (.cells #[.int .i16 AG, (.slice AK AE.length AM)] 32 (0, 0))) ∧ Aside0 (IsS123 w0 w' g AF AD AC) ∧ Aside0 (KeepBut w w' g none) ∧ Aside0 (Below w0.heap.size w0 w'))
 case atStart => exact ⟨(Ag), (Ap), (0), (Aj), (At), rfl, rfl, H', ⟨Nat.le_refl _⟩, ⟨(zR AW.out)⟩, ⟨(zK AJ.out)⟩, ⟨by repeat (first | (with_reducible first | exact AB.out | apply IsS123.alloc | apply IsS123.drewN | apply IsS123.drew | apply IsS123.set_1 | apply IsS123.set_2 | refine IsS123.far ?_ AA.out _) | exact AB.out)⟩, ⟨by repeat (first | (with_reducible first | exact HK.out | apply KeepBut.set_ | apply keep_drewN | apply keep_drew | apply keep_alloc | refine keep_far ?_ GW1.out _) | exact HK.out)⟩, ⟨by repeat (first | (with_reducible first | exact HB.out | apply below_alloc | apply pw_below_drewN | apply below_drew1 | refine below_set ?_ (IsS123.ge AB.out)) | exact HB.out)⟩⟩
 case round => (
 clear H'
 obtain ⟨AO, AL, AH, AD, AC, rfl, rfl, HA, Af, AI, AJ, AB, HK, HB⟩ := hrel
 cases gk with
 | zero => exact absurd HA.out (by simp [spec_l03Held.l0])
 | succ k1 => (
 have H := HA.out
 clear HA
 simp only [spec_l03Held.l0] at H
 have A8 := ak H
 clear H
 go_upto_region 4 with (fail)
 go_cut [21] (fun BJ wc => ∃ (kq : Nat) (AT : Bool), BJ = .bool AT ∧ Aside0 (spec_l03Held.j1 kq AO AL AH AT AF AD AC AG AE = some (r1, r2, r3)) ∧ Aside0 (kq ≤ k1) ∧ Aside0 (Kd.R k65 65 wc w.heap.size (fun _ => True) u5 AO) ∧ Aside0 (wc.heap[b1]? = some (.cells #[.int .i16 AG, (.slice AK AE.length AM)] 32 (0, 0))) ∧ Aside0 (IsS123 w0 wc g AF AD AC) ∧ Aside0 (KeepBut w wc g none) ∧ Aside0 (Below w0.heap.size w0 wc))
 case first => (
 have H := A8.out
 clear A8
 by_cases c8 : AH < (AE.length : Int)
 {
 rw [if_pos c8] at H
 have AU : decide (AH < (AE.length : Int)) = true := decide_eq_true c8
 clear c8
 (first | rw [AU] | (simp only [i64_w, i32_w]; rw [AU]) | skip)
 have H' := ak H
 clear H
 have BM := AN.out
 have BL := AA.out
 have Aw : wr.cell? ⟨b1, 0, none⟩ = some (.int .i16 AG) := (blk_cell AJ.out 0).trans rfl
 have A4 : wr.cell? ⟨b1, 1, none⟩ = some (.slice AK AE.length AM) := (blk_cell AJ.out 1).trans rfl
 have A0 := blk_frozen AJ.out 0
 have Au := blk_frozen AJ.out 1
 go_wp2
 go_meet
 case rel => exact ⟨_, (decide (AH < 30)), rfl, H', ⟨by have := Af.out; first | omega | exact Nat.le_refl _⟩, ⟨(zR AI.out)⟩, ⟨(zK AJ.out)⟩, ⟨by repeat (first | (with_reducible first | exact AB.out | apply IsS123.alloc | apply IsS123.drewN | apply IsS123.drew | apply IsS123.set_1 | apply IsS123.set_2 | refine IsS123.far ?_ AA.out _) | exact AB.out)⟩, ⟨by repeat (first | (with_reducible first | exact HK.out | apply KeepBut.set_ | apply keep_drewN | apply keep_drew | apply keep_alloc | refine keep_far ?_ GW1.out _) | exact HK.out)⟩, ⟨by repeat (first | (with_reducible first | exact HB.out | apply below_alloc | apply pw_below_drewN | apply below_drew1 | refine below_set ?_ (IsS123.ge AB.out)) | exact HB.out)⟩⟩
 }
 {
 rw [if_neg c8] at H
 have AU : decide (AH < (AE.length : Int)) = false := decide_eq_false c8
 clear c8
 (first | rw [AU] | (simp only [i64_w, i32_w]; rw [AU]) | skip)
 have H' := ak H
 clear H
 have BD := AN.out
 have BH := AA.out
 have A2 : wr.cell? ⟨b1, 0, none⟩ = some (.int .i16 AG) := (blk_cell AJ.out 0).trans rfl
 have A7 : wr.cell? ⟨b1, 1, none⟩ = some (.slice AK AE.length AM) := (blk_cell AJ.out 1).trans rfl
 have Av := blk_frozen AJ.out 0
 have A5 := blk_frozen AJ.out 1
 go_wp2
 go_meet
 case rel => exact ⟨_, (false), rfl, H', ⟨by have := Af.out; first | omega | exact Nat.le_refl _⟩, ⟨(zR AI.out)⟩, ⟨(zK AJ.out)⟩, ⟨by repeat (first | (with_reducible first | exact AB.out | apply IsS123.alloc | apply IsS123.drewN | apply IsS123.drew | apply IsS123.set_1 | apply IsS123.set_2 | refine IsS123.far ?_ AA.out _) | exact AB.out)⟩, ⟨by repeat (first | (with_reducible first | exact HK.out | apply KeepBut.set_ | apply keep_drewN | apply keep_drew | apply keep_alloc | refine keep_far ?_ GW1.out _) | exact HK.out)⟩, ⟨by repeat (first | (with_reducible first | exact HB.out | apply below_alloc | apply pw_below_drewN | apply below_drew1 | refine below_set ?_ (IsS123.ge AB.out)) | exact HB.out)⟩⟩
 }
 )
 case rest => (
 clear A8
 obtain ⟨kq, AT, rfl, HA, Ax, AI, AJ, AB, HK, HB⟩ := hcut
 cases kq with
 | zero => exact absurd HA.out (by simp [spec_l03Held.j1])
 | succ BA => (
 have H := HA.out
 clear HA
 simp only [spec_l03Held.j1] at H
 by_cases Ay : AT = true
 {
 subst Ay
 rw [if_pos rfl] at H
 replace H := Option.bind_eq_some_iff.mp H
 obtain ⟨⟨BB, AS, AR⟩, As, H⟩ := H
 have BF := ak As
 clear As
 by_cases A6 : BB = true
 {
 subst A6
 rw [if_pos rfl] at H
 by_cases Az : AO.length < 35184372088832
 {
 rw [if_pos Az] at H
 have Ar := ak Az
 clear Az
 obtain ⟨Ah, AQ⟩ : ∃ y_ : List (S65), y_ = (AO ++ [(⟨IntKind.i16.wrap (AL), IntKind.i8.wrap (AH)⟩ : S65)]) := ⟨_, rfl⟩
 replace H : ((spec_l00Src_pick.f AF AS AR 30).bind fun AZ => (spec_l03Held.l0 BA Ah (Int.tmod (wrap64 ((wrap64 (AL + 1)) + AZ.1)) 1000) (wrap64 (AH + 1)) AF AZ.2.1 AZ.2.2 AG AE)) = some (r1, r2, r3) := by first | (rw [AQ]; with_reducible exact H) | (have Ae := (Option.bind_some _ _).symm.trans H; rw [AQ]; with_reducible exact Ae) | (have Ae := (Option.bind_some _ _).symm.trans H; with_reducible exact Ae) | with_reducible exact H | (rw [AQ]; exact H) | exact H
 have Am := ak AQ
 clear AQ
 replace H := Option.bind_eq_some_iff.mp H
 obtain ⟨⟨Aq, An, Ao⟩, Ai, H⟩ := H
 have BO := ak Ai
 clear Ai
 have H' := ak H
 clear H
 go_wp2_with (first | ((with_reducible refine gate_callee (f := 82) rfl ?_); refine goesL_ (some 25) rfl rfl Try.func82 (by kernel_rfl) rfl #[.pointer (some ⟨g, 0, none⟩), .int .i64 2] rfl gl_ ?_; (with_reducible refine (spec_l00Src_one.calls g AF AD AC 2 true AS AR w0 _ ?side1 ?side2 BF.out).mono ?_); (case side1 => repeat (first | (with_reducible first | exact AB.out | apply IsS123.alloc | apply IsS123.drewN | apply IsS123.drew | apply IsS123.set_1 | apply IsS123.set_2 | refine IsS123.far ?_ AA.out _) | exact AB.out)); (case side2 => repeat (first | (with_reducible first | exact HB.out | apply below_alloc | apply pw_below_drewN | apply below_drew1 | refine below_set ?_ (IsS123.ge AB.out)) | exact HB.out)); rintro e BS ⟨rfl, hi, hb, hk⟩; refine ⟨_, rfl, ?_⟩; replace AI := ak (Kd.R_mono (Kd.R_keep (IsS123.apart (show IsS123 w0 _ g AF AD AC from by repeat (first | (with_reducible first | exact AB.out | apply IsS123.alloc | apply IsS123.drewN | apply IsS123.drew | apply IsS123.set_1 | apply IsS123.set_2 | refine IsS123.far ?_ AA.out _) | exact AB.out)) (zR AI.out) (by decide)) hk (fun _ h => h.2)) (fun _ h => h.1)); replace AJ := ak (KeepBut.blk hk (g' := b1) (o := .cells #[.int .i16 AG, .slice AK AE.length AM] 32 (0, 0)) (zK AJ.out) AN.out (by simp)); replace HK := ak (KeepBut.trans (by repeat (first | (with_reducible first | exact HK.out | apply KeepBut.set_ | apply keep_drewN | apply keep_drew | apply keep_alloc | refine keep_far ?_ GW1.out _) | exact HK.out)) hk (.inl rfl)); replace HB := ak (hb); replace AB := ak (hi); (try clear hb); (try clear hk); (try clear hi)) | ((with_reducible refine gate_builtin (b := .append) (xs := #[.tmp 26, .tmp 32]) rfl ?_); at_builtin; refine Kd.R_append k65 w.heap.size rfl (.tmp 26) (.tmp 32) 51 65 (.agg #[(.int .i16 0), (.int .i8 0)]) 4 rfl Try.underlying51 info65 rfl (by decide) (by omega) u5 AO (⟨IntKind.i16.wrap (AL), IntKind.i8.wrap (AH)⟩ : S65) [.int .i16 (IntKind.i16.wrap (AL)), .int .i8 (IntKind.i8.wrap (AH))] (fun _ => True) (fun _ => False) rfl rfl ?aP (fun _ hk => hk.elim) ?aF ?aO (Below.refl _ _) ?aS ?aL ?_; (case aP => exact k65_mkM _ _ _ (⟨IntKind.i16.wrap (AL), IntKind.i8.wrap (AH)⟩ : S65)); (case aF => exact (fun _ _ => trivial)); (case aO => exact (zR AI.out)); (case aS => exact (keep_size (w := w) (g := g) (row := none) (by repeat (first | (with_reducible first | exact HK.out | apply KeepBut.set_ | apply keep_drewN | apply keep_drew | apply keep_alloc | refine keep_far ?_ GW1.out _) | exact HK.out)))); (case aL => have := Ar.out; omega); intro BQ BT ho hb hg hat; rw [← Am.out] at ho; have AV := ak (ho); replace AJ := ak (blk_grown (g := b1) (o := .cells #[.int .i16 AG, .slice AK AE.length AM] 32 (0, 0)) (zK AJ.out) hg (Kd.R_ne AI.out AJ.out (by decide))); replace HB := ak (below_weaken (by repeat (first | (with_reducible first | exact HB.out | apply below_alloc | apply pw_below_drewN | apply below_drew1 | refine below_set ?_ (IsS123.ge AB.out)) | exact HB.out)) HL.out hb); replace AB := ak (IsS123.grown (w0 := w0) (f0 := AF) (f1 := AS) (f2 := AR) (by repeat (first | (with_reducible first | exact AB.out | apply IsS123.alloc | apply IsS123.drewN | apply IsS123.drew | apply IsS123.set_1 | apply IsS123.set_2 | refine IsS123.far ?_ AA.out _) | exact AB.out)) hg (IsS123.own_ne AB.out AI.out (by decide))); replace HK := ak (KeepBut.trans (by repeat (first | (with_reducible first | exact HK.out | apply KeepBut.set_ | apply keep_drewN | apply keep_drew | apply keep_alloc | refine keep_far ?_ GW1.out _) | exact HK.out)) (KeepBut.of_grown hg g) (Kd.R_base2 AI.out)); clear AI ho hb hg hat) | ((with_reducible refine gate_callee (f := 62) rfl ?_); refine goesL_ (some 37) rfl rfl Try.func62 (by kernel_rfl) rfl #[.pointer (some ⟨g, 0, none⟩), .int .i64 30] rfl gl_ ?_; (with_reducible refine (spec_l00Src_pick.calls g AF AS AR 30 Aq An Ao w0 _ ?side1 ?side2 BO.out).mono ?_); (case side1 => repeat (first | (with_reducible first | exact AB.out | apply IsS123.alloc | apply IsS123.drewN | apply IsS123.drew | apply IsS123.set_1 | apply IsS123.set_2 | refine IsS123.far ?_ AA.out _) | exact AB.out)); (case side2 => repeat (first | (with_reducible first | exact HB.out | apply below_alloc | apply pw_below_drewN | apply below_drew1 | refine below_set ?_ (IsS123.ge AB.out)) | exact HB.out)); rintro e BR ⟨rfl, hi, hb, hk⟩; refine ⟨_, rfl, ?_⟩; replace AJ := ak (KeepBut.blk hk (g' := b1) (o := .cells #[.int .i16 AG, .slice AK AE.length AM] 32 (0, 0)) (zK AJ.out) AN.out (by simp)); replace AV := ak (Kd.R_mono (Kd.R_keep (IsS123.apart (show IsS123 w0 _ g AF AS AR from by repeat (first | (with_reducible first | exact AB.out | apply IsS123.alloc | apply IsS123.drewN | apply IsS123.drew | apply IsS123.set_1 | apply IsS123.set_2 | refine IsS123.far ?_ AA.out _) | exact AB.out)) (zR AV.out) (by decide)) hk (fun _ h => h.2)) (fun _ h => h.1)); replace HK := ak (KeepBut.trans (by repeat (first | (with_reducible first | exact HK.out | apply KeepBut.set_ | apply keep_drewN | apply keep_drew | apply keep_alloc | refine keep_far ?_ GW1.out _) | exact HK.out)) hk (.inl rfl)); replace HB := ak (hb); replace AB := ak (hi); (try clear hb); (try clear hk); (try clear hi)))
 go_roundg BA
 case measure => have := Af.out; have := Ax.out; omega
 case rel => exact ⟨(Ah), (Int.tmod (wrap64 ((wrap64 (AL + 1)) + Aq)) 1000), (wrap64 (AH + 1)), (An), (Ao), rfl, rfl, H', ⟨by have := Af.out; have := Ax.out; omega⟩, ⟨(zR AV.out)⟩, ⟨(zK AJ.out)⟩, ⟨by repeat (first | (with_reducible first | exact AB.out | apply IsS123.alloc | apply IsS123.drewN | apply IsS123.drew | apply IsS123.set_1 | apply IsS123.set_2 | refine IsS123.far ?_ AA.out _) | exact AB.out)⟩, ⟨by repeat (first | (with_reducible first | exact HK.out | apply KeepBut.set_ | apply keep_drewN | apply keep_drew | apply keep_alloc | refine keep_far ?_ GW1.out _) | exact HK.out)⟩, ⟨by repeat (first | (with_reducible first | exact HB.out | apply below_alloc | apply pw_below_drewN | apply below_drew1 | refine below_set ?_ (IsS123.ge AB.out)) | exact HB.out)⟩⟩
 }
 · rw [if_neg Az] at H; exact absurd H (by simp)
 }
 {
 replace A6 := Bool.eq_false_iff.mpr A6
 subst A6
 rw [if_neg (show ¬ (false = true) by decide)] at H
 have H' := ak H
 clear H
 go_wp2_with (first | ((with_reducible refine gate_callee (f := 82) rfl ?_); refine goesL_ (some 25) rfl rfl Try.func82 (by kernel_rfl) rfl #[.pointer (some ⟨g, 0, none⟩), .int .i64 2] rfl gl_ ?_; (with_reducible refine (spec_l00Src_one.calls g AF AD AC 2 false AS AR w0 _ ?side1 ?side2 BF.out).mono ?_); (case side1 => repeat (first | (with_reducible first | exact AB.out | apply IsS123.alloc | apply IsS123.drewN | apply IsS123.drew | apply IsS123.set_1 | apply IsS123.set_2 | refine IsS123.far ?_ AA.out _) | exact AB.out)); (case side2 => repeat (first | (with_reducible first | exact HB.out | apply below_alloc | apply pw_below_drewN | apply below_drew1 | refine below_set ?_ (IsS123.ge AB.out)) | exact HB.out)); rintro e BV ⟨rfl, hi, hb, hk⟩; refine ⟨_, rfl, ?_⟩; replace AI := ak (Kd.R_mono (Kd.R_keep (IsS123.apart (show IsS123 w0 _ g AF AD AC from by repeat (first | (with_reducible first | exact AB.out | apply IsS123.alloc | apply IsS123.drewN | apply IsS123.drew | apply IsS123.set_1 | apply IsS123.set_2 | refine IsS123.far ?_ AA.out _) | exact AB.out)) (zR AI.out) (by decide)) hk (fun _ h => h.2)) (fun _ h => h.1)); replace AJ := ak (KeepBut.blk hk (g' := b1) (o := .cells #[.int .i16 AG, .slice AK AE.length AM] 32 (0, 0)) (zK AJ.out) AN.out (by simp)); replace HK := ak (KeepBut.trans (by repeat (first | (with_reducible first | exact HK.out | apply KeepBut.set_ | apply keep_drewN | apply keep_drew | apply keep_alloc | refine keep_far ?_ GW1.out _) | exact HK.out)) hk (.inl rfl)); replace HB := ak (hb); replace AB := ak (hi); (try clear hb); (try clear hk); (try clear hi)))
 go_roundg BA
 case measure => have := Af.out; have := Ax.out; omega
 case rel => exact ⟨(AO), (AL), (wrap64 (AH + 1)), (AS), (AR), rfl, rfl, H', ⟨by have := Af.out; have := Ax.out; omega⟩, ⟨(zR AI.out)⟩, ⟨(zK AJ.out)⟩, ⟨by repeat (first | (with_reducible first | exact AB.out | apply IsS123.alloc | apply IsS123.drewN | apply IsS123.drew | apply IsS123.set_1 | apply IsS123.set_2 | refine IsS123.far ?_ AA.out _) | exact AB.out)⟩, ⟨by repeat (first | (with_reducible first | exact HK.out | apply KeepBut.set_ | apply keep_drewN | apply keep_drew | apply keep_alloc | refine keep_far ?_ GW1.out _) | exact HK.out)⟩, ⟨by repeat (first | (with_reducible first | exact HB.out | apply below_alloc | apply pw_below_drewN | apply below_drew1 | refine below_set ?_ (IsS123.ge AB.out)) | exact HB.out)⟩⟩
 }
 }
 {
 replace Ay := Bool.eq_false_iff.mpr Ay
 subst Ay
 rw [if_neg (show ¬ (false = true) by decide)] at H
 simp only [Option.some.injEq, Prod.mk.injEq] at H
 obtain ⟨rfl, rfl, rfl⟩ := H
 go_wp2
 go_ret
 exact ⟨_, rfl, AI.out, by repeat (first | (with_reducible first | exact AB.out | apply IsS123.alloc | apply IsS123.drewN | apply IsS123.drew | apply IsS123.set_1 | apply IsS123.set_2 | refine IsS123.far ?_ AA.out _) | exact AB.out), by repeat (first | (with_reducible first | exact HB.out | apply below_alloc | apply pw_below_drewN | apply below_drew1 | refine below_set ?_ (IsS123.ge AB.out)) | exact HB.out), by repeat (first | (with_reducible first | exact HK.out | apply KeepBut.set_ | apply keep_drewN | apply keep_drew | apply keep_alloc | refine keep_far ?_ GW1.out _) | exact HK.out)⟩
 }
 )
 )
 )
 )
/-! ### spec_P6Holds: function 33 -/
def spec_P6Holds.f (k : Nat) (l0 : List Int) (AD : Int) (AC : List Int) : Option ((List (S65))) := (spec_l00From.f l0).bind fun AA => ((spec_l03Held.f k AA.1 AA.2.1 AA.2.2 AD AC).bind fun AB => (some AB.1))
set_option maxHeartbeats 8000000 in
set_option maxRecDepth 100000 in
theorem spec_P6Holds.calls (k : Nat) (A0 : Option Addr) (c0 : Nat) (l0 : List Int) (AF : Int) (AG : Option Addr) (AH : Nat) (AA : List Int) (r : List (S65)) (w : World) (Ac : Kd.C (Kd.int .u8) w A0 l0.length l0) (Aa : l0.length ≤ c0) (AM : Kd.C (Kd.int .i16) w AG AA.length AA) (AK : AA.length ≤ AH) (h : spec_P6Holds.f k l0 AF AA = some r) :
    Calls Try.prog 33 #[.slice A0 l0.length c0, .agg #[.int .i16 AF, .slice AG AA.length AH]] w fun e w' => ∃ v0_ : Value, e = .returned (v0_) ∧ Kd.R k65 65 w' w.heap.size (fun _ => True) v0_ r ∧ Below w.heap.size w w' := by
 have Af := Try.underlying32
 have Ag := ak Ac
 have Ae := ak Aa
 clear Ac Aa
 have AL := ak AM
 have AQ := ak AK
 clear AM AK
 have HB := ak (Below.refl w.heap.size w)
 have H := h
 unfold spec_P6Holds.f at H
 clear h
 replace H := Option.bind_eq_some_iff.mp H
 obtain ⟨⟨AP, AN, AO⟩, AY, H⟩ := H
 have A3 := ak AY
 clear AY
 replace H := Option.bind_eq_some_iff.mp H
 obtain ⟨⟨AU, AW, AV⟩, AZ, H⟩ := H
 have A4 := ak AZ
 clear AZ
 obtain rfl := Option.some.inj H
 go_enter Try.func33, Try.ntmps33
 go_wp2_with (first | ((with_reducible refine gate_dst (N := 3) rfl ?_); refine box_event ?hg (N := 3) ?hd (cs := #[.int .i16 AF, .slice AG AA.length AH]) (t := 32) ?hr ?_; (case hd => rfl); (case hg => rfl); (case hr => first | (go_simp; done) | (go_simp; rfl)); intro AE hg w5 hbox hb; have AB := ak (hbox); have Ab := gS HB hg; have AI := gS HB hg; replace HB := kB HB hb; clear hb hbox hg) | ((with_reducible refine gate_callee (f := 60) rfl ?_); refine goesL_ (some 6) rfl rfl Try.func60 (by kernel_rfl) rfl #[.slice A0 l0.length c0] rfl gl_ ?_; (with_reducible refine (spec_l00From.calls _ _ l0 AP AN AO w _ ?side1 ?side2 ?side3 A3.out).mono ?_); (case side1 => repeat (first | (with_reducible first | exact HB.out | apply below_alloc | apply pw_below_drewN | apply below_drew1 | refine below_set ?_ AI.out) | exact HB.out)); (case side2 => exact Ag.out); (case side3 => exact Ae.out); rintro e w6 ⟨AS, rfl, hi, hb, AT⟩; refine ⟨_, rfl, ?_⟩; have AC := ak (hi); have AJ := ak (IsS123.ne_blk hi (blk_below (g := AE) (o := .cells #[.int .i16 AF, .slice AG AA.length AH] 32 (0, 0)) (zK AB.out) AT) (by decide)); have AD := ak (Ne.symm (IsS123.ne_blk hi (blk_below (g := AE) (o := .cells #[.int .i16 AF, .slice AG AA.length AH] 32 (0, 0)) (zK AB.out) AT) (by decide))); replace AB := ak (blk_below (g := AE) (o := .cells #[.int .i16 AF, .slice AG AA.length AH] 32 (0, 0)) (zK AB.out) AT); replace HB := ak (hb); (try clear hb); (try clear AT); (try clear hi)) | ((with_reducible refine gate_callee (f := 68) rfl ?_); refine goesL_ (some 7) rfl rfl Try.func68 (by kernel_rfl) rfl #[.pointer (some ⟨AS, 0, none⟩), .pointer (some ⟨AE, 0, none⟩)] rfl gl_ ?_; (with_reducible refine (spec_l03Held.calls k AS AP AN AO AE AF AG AH AA AU AW AV w _ ?side1 ?side2 ?side3 ?side4 ?side5 ?side6 ?side7 A4.out).mono ?_); (case side1 => repeat (first | (with_reducible first | exact AC.out | apply IsS123.alloc | apply IsS123.drewN | apply IsS123.drew | apply IsS123.set_1 | apply IsS123.set_2 | refine IsS123.far ?_ AJ.out _) | exact AC.out)); (case side2 => repeat (first | (with_reducible first | exact HB.out | apply below_alloc | apply pw_below_drewN | apply below_drew1 | refine below_set ?_ (IsS123.ge AC.out) | refine below_set ?_ AI.out) | exact HB.out)); (case side3 => exact sQ (Kd.C_below AL.out HB.out)); (case side4 => exact AQ.out); (case side5 => exact Kd.far_C 0 AL.out (IsS123.ge AC.out)); (case side6 => exact (zK AB.out)); (case side7 => exact AD.out); rintro e w7 ⟨Ad, rfl, AX, hi, hb, hk⟩; refine ⟨_, rfl, ?_⟩; have AR := ak (Kd.R_lower AX (below_size (by repeat (first | (with_reducible first | exact HB.out | apply below_alloc | apply pw_below_drewN | apply below_drew1 | refine below_set ?_ (IsS123.ge AC.out) | refine below_set ?_ AI.out) | exact HB.out)))); replace AB := ak (KeepBut.blk hk (g' := AE) (o := .cells #[.int .i16 AF, .slice AG AA.length AH] 32 (0, 0)) (zK AB.out) AD.out (by simp)); replace HB := ak (hb); replace AC := ak (hi); (try clear hb); (try clear hk); (try clear hi); (try clear AX)))
 go_ret
 exact ⟨_, rfl, AR.out, by repeat (first | (with_reducible first | exact HB.out | apply below_alloc | apply pw_below_drewN | apply below_drew1 | refine below_set ?_ (IsS123.ge AC.out) | refine below_set ?_ AI.out) | exact HB.out)⟩
/-! ### spec_l00Same: function 71 -/
def spec_l00Same.l0 : Nat → List Int → List Int → Int → Option (Bool)
  | 0, _, _, _ => none
  | k + 1, x0, x1, x5 => if x5 < (x0.length : Int) then (if 0 ≤ x5 then (if x5 < (x1.length : Int) then (if (rd x0 x5) = (rd x1 x5) then (spec_l00Same.l0 k x0 x1 (wrap64 (x5 + 1))) else (some false)) else (none)) else (none)) else (some true)
def spec_l00Same.f (k : Nat) (l0 : List Int) (l1 : List Int) : Option (Bool) := if (l0.length : Int) = (l1.length : Int) then (spec_l00Same.l0 k l0 l1 0) else (some false)
set_option maxHeartbeats 8000000 in
set_option maxRecDepth 100000 in
theorem spec_l00Same.calls (k : Nat) (A0 : Option Addr) (c0 : Nat) (l0 : List Int) (A1 : Option Addr) (c1 : Nat) (l1 : List Int) (r : Bool) (w : World) (AS : Kd.C (Kd.int .i64) w A0 l0.length l0) (AR : l0.length ≤ c0) (AU : Kd.C (Kd.int .i64) w A1 l1.length l1) (AX : l1.length ≤ c1) (h : spec_l00Same.f k l0 l1 = some r) :
    Calls Try.prog 71 #[.slice A0 l0.length c0, .slice A1 l1.length c1] w fun e w' => e = .returned (.bool r) ∧ Drawn0 w w' := by
 have AW := ak AS
 have Aa := ak AR
 clear AS AR
 have AT := ak AU
 have Ab := ak AX
 clear AU AX
 have H := h
 unfold spec_l00Same.f at H
 clear h
 by_cases c3 : (l0.length : Int) = (l1.length : Int)
 {
 rw [if_pos c3] at H
 have AK : ((l0.length : Int) == (l1.length : Int)) = true := beq_iff_eq.mpr c3
 have AM : ((l0.length : Int) != (l1.length : Int)) = false := bne_eq_false_iff_eq.mpr c3
 have AJ : (l0.length == l1.length) = true := by first | simpa using c3 | (simp at c3 ⊢; omega)
 clear c3
 have H' := ak H
 clear H
 go_enter Try.func71, Try.ntmps71
 go_wp2
 repeat (go_quiet (fail); try go_wp2)
 go_loopg [5] k (fun kq v5 w' => ∃ (AA : Int), v5 = .int .i64 AA ∧ Aside0 (spec_l00Same.l0 kq l0 l1 AA = some r) ∧ Aside0 (kq ≤ k) ∧ Drawn0 w w')
 case atStart => exact ⟨(0), rfl, H', ⟨Nat.le_refl _⟩, by repeat (first | exact Drawn0.refl _ | apply Drawn0.step)⟩
 case round => (
 clear H'
 obtain ⟨AA, rfl, HA, AV, ⟨m1, rfl⟩⟩ := hrel
 cases gk with
 | zero => exact absurd HA.out (by simp [spec_l00Same.l0])
 | succ k1 => (
 have H := HA.out
 clear HA
 simp only [spec_l00Same.l0] at H
 by_cases c4 : AA < (l0.length : Int)
 {
 rw [if_pos c4] at H
 have AQ : decide (AA < (l0.length : Int)) = true := decide_eq_true c4
 clear c4
 by_cases c5 : 0 ≤ AA
 {
 rw [if_pos c5] at H
 have AY : decide (0 ≤ AA) = true := decide_eq_true c5
 clear c5
 by_cases c6 : AA < (l1.length : Int)
 {
 rw [if_pos c6] at H
 have AZ : decide (AA < (l1.length : Int)) = true := decide_eq_true c6
 clear c6
 by_cases c7 : (rd l0 AA) = (rd l1 AA)
 {
 rw [if_pos c7] at H
 have AP : ((rd l0 AA) == (rd l1 AA)) = true := beq_iff_eq.mpr c7
 have AO : ((rd l0 AA) != (rd l1 AA)) = false := bne_eq_false_iff_eq.mpr c7
 clear c7
 have H' := ak H
 clear H
 have AD : 0 ≤ (AA : Int) := of_decide_eq_true (by assumption)
 have AB : AA < (l0.length : Int) := of_decide_eq_true (by assumption)
 obtain ⟨AL, AI, AG⟩ := Kd.at_int AW.out AA AD AB
 cases AI
 replace AD := eq_true AD
 replace AB := eq_true AB
 have AE : 0 ≤ (AA : Int) := of_decide_eq_true (by assumption)
 have AC : AA < (l1.length : Int) := of_decide_eq_true (by assumption)
 obtain ⟨AN, AH, AF⟩ := Kd.at_int AT.out AA AE AC
 cases AH
 replace AE := eq_true AE
 replace AC := eq_true AC
 go_wp2
 repeat (go_quiet (fail); try go_wp2)
 go_roundg k1
 case measure => have := AV.out; omega
 case rel => exact ⟨(wrap64 (AA + 1)), rfl, H', ⟨by have := AV.out; omega⟩, by repeat (first | exact Drawn0.refl _ | apply Drawn0.step)⟩
 }
 {
 rw [if_neg c7] at H
 have AP : ((rd l0 AA) == (rd l1 AA)) = false := beq_eq_false_iff_ne.mpr c7
 have AO : ((rd l0 AA) != (rd l1 AA)) = true := bne_iff_ne.mpr c7
 obtain rfl := Option.some.inj H
 have AD : 0 ≤ (AA : Int) := of_decide_eq_true (by assumption)
 have AB : AA < (l0.length : Int) := of_decide_eq_true (by assumption)
 obtain ⟨AL, AI, AG⟩ := Kd.at_int AW.out AA AD AB
 cases AI
 replace AD := eq_true AD
 replace AB := eq_true AB
 have AE : 0 ≤ (AA : Int) := of_decide_eq_true (by assumption)
 have AC : AA < (l1.length : Int) := of_decide_eq_true (by assumption)
 obtain ⟨AN, AH, AF⟩ := Kd.at_int AT.out AA AE AC
 cases AH
 replace AE := eq_true AE
 replace AC := eq_true AC
 go_wp2
 repeat (go_quiet (fail); try go_wp2)
 go_ret
 exact ⟨by first | rfl | (simp; done) | (simp [*]; done), by repeat (first | exact Drawn0.refl _ | apply Drawn0.step)⟩
 }
 }
 · rw [if_neg c6] at H; exact absurd H (by simp)
 }
 · rw [if_neg c5] at H; exact absurd H (by simp)
 }
 {
 rw [if_neg c4] at H
 have AQ : decide (AA < (l0.length : Int)) = false := decide_eq_false c4
 clear c4
 obtain rfl := Option.some.inj H
 go_wp2
 repeat (go_quiet (fail); try go_wp2)
 go_ret
 exact ⟨by first | rfl | (simp; done) | (simp [*]; done), by repeat (first | exact Drawn0.refl _ | apply Drawn0.step)⟩
 }
 )
 )
 }
 {
 rw [if_neg c3] at H
 have AK : ((l0.length : Int) == (l1.length : Int)) = false := beq_eq_false_iff_ne.mpr c3
 have AM : ((l0.length : Int) != (l1.length : Int)) = true := bne_iff_ne.mpr c3
 have AJ : (l0.length == l1.length) = false := by first | simpa using c3 | (simp at c3 ⊢; omega)
 obtain rfl := Option.some.inj H
 go_enter Try.func71, Try.ntmps71
 go_wp2
 repeat (go_quiet (fail); try go_wp2)
 go_ret
 exact ⟨by first | rfl | (simp; done) | (simp [*]; done), by repeat (first | exact Drawn0.refl _ | apply Drawn0.step)⟩
 }
/-! ### spec_SameNumbers: function 35 -/
def spec_SameNumbers.f (k : Nat) (l0 : List Int) (l1 : List Int) : Option (Bool) := (spec_l00Same.f k l0 l1).bind fun AA => (some AA)
set_option maxHeartbeats 8000000 in
set_option maxRecDepth 100000 in
theorem spec_SameNumbers.calls (k : Nat) (A0 : Option Addr) (c0 : Nat) (l0 : List Int) (A1 : Option Addr) (c1 : Nat) (l1 : List Int) (r : Bool) (w : World) (AD : Kd.C (Kd.int .i64) w A0 l0.length l0) (AC : l0.length ≤ c0) (AE : Kd.C (Kd.int .i64) w A1 l1.length l1) (AF : l1.length ≤ c1) (h : spec_SameNumbers.f k l0 l1 = some r) :
    Calls Try.prog 35 #[.slice A0 l0.length c0, .slice A1 l1.length c1] w fun e w' => e = .returned (.bool r) ∧ Drawn0 w w' := by
 have AJ := ak AD
 have AG := ak AC
 clear AD AC
 have AI := ak AE
 have AH := ak AF
 clear AE AF
 have H := h
 unfold spec_SameNumbers.f at H
 clear h
 replace H := Option.bind_eq_some_iff.mp H
 obtain ⟨AA, AB, H⟩ := H
 have A3 := ak AB
 clear AB
 obtain rfl := Option.some.inj H
 go_enter Try.func35, Try.ntmps35
 go_wp2_with (first | ((with_reducible refine gate_callee (f := 71) rfl ?_); refine goesL_ (some 7) rfl rfl Try.func71 (by kernel_rfl) rfl #[.slice A0 l0.length c0, .slice A1 l1.length c1] rfl gl_ ?_; (with_reducible refine (spec_l00Same.calls k _ _ l0 _ _ l1 AA _ ?side1 ?side2 ?side3 ?side4 A3.out).mono ?_); (case side1 => exact sD AJ); (case side2 => exact AG.out); (case side3 => exact sD AI); (case side4 => exact AH.out); rintro e w' ⟨rfl, ⟨nd, rfl⟩⟩; refine ⟨_, rfl, ?_⟩))
 go_ret
 exact ⟨by first | rfl | (simp; done) | (simp [*]; done), by repeat (first | exact Drawn0.refl _ | apply Drawn0.step)⟩
end Go.Proofs.Ytooidjdgfoioiaa.P
