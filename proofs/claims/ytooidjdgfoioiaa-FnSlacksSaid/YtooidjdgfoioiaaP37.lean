-- Printed by wip/print (my turned copy of the kit's print) out of the translation; Lean checks it.
import Derived.Test.YtooidjdgfoioiaaP0
import Derived.Test.YtooidjdgfoioiaaP17
import Derived.Test.YtooidjdgfoioiaaP18
import Derived.Test.YtooidjdgfoioiaaP21
import Derived.Test.YtooidjdgfoioiaaP23
import Derived.Test.YtooidjdgfoioiaaP25
import Derived.Test.YtooidjdgfoioiaaP26
import Derived.Test.YtooidjdgfoioiaaP33
import Derived.Test.YtooidjdgfoioiaaP34
import Derived.Test.YtooidjdgfoioiaaP35
import Derived.Test.YtooidjdgfoioiaaP36
namespace Go.Proofs.Ytooidjdgfoioiaa.P
open Go.RowKit Go.Proofs.YtooidjdgfoioiaaW.PrintWords Go.Proofs.YtooidjdgfoioiaaW.PrintLast Go.Proofs.YtooidjdgfoioiaaW.PrintMore
attribute [local go_sem] max2_int min2_int max_two min_two max_three min_three max_four min_four   -- for this text's walks alone
set_option linter.unusedVariables false
set_option linter.unusedSimpArgs false

set_option maxHeartbeats 80000000 in
set_option maxRecDepth 100000 in
theorem laws_FnSlacks.calls (k : Nat) (A0 : Option Addr) (c0 : Nat) (l0 : List Int) (A1 : Option Addr) (c1 : Nat) (l1 : List Int) (r : Bool) (w : World) (KY : Kd.C (Kd.int .u8) w A0 l0.length l0) (KX : l0.length ≤ c0) (KI : Kd.C (Kd.int .u8) w A1 l1.length l1) (Ky : l1.length ≤ c1) (hT : r = true) (h : laws_FnSlacks.f k l0 l1 = some r) :
    Calls Try.prog 5 #[.slice A0 l0.length c0, .slice A1 l1.length c1] w fun e w' => e = .returned (.bool r) ∧ Below w.heap.size w w' := by
 have Lg := Try.underlying35
 have LN := Try.underlying32
 have LC := Try.underlying62
 have LZ := Try.underlying65
 have Hj := ak KY
 have Hm := ak KX
 clear KY KX
 have Jh := ak KI
 have Je := ak Ky
 clear KI Ky
 have HT := ak hT
 clear hT
 have HB := ak (Below.refl w.heap.size w)
 have H := h
 unfold laws_FnSlacks.f at H
 clear h
 have Jm := ak H
 clear H
 go_enter Try.func5, Try.ntmps5
 go_upto_region 1 with (fail)
 go_cut [38] (fun Ld wc => ∃ (kq : Nat) (DV : Bool), Ld = .bool DV ∧ Aside0 (laws_FnSlacks.j0 kq l0 l1 DV = some r) ∧ Aside0 (kq ≤ k) ∧ Aside0 (Below w.heap.size w wc))
 case first => (
 have H := Jm.out
 clear Jm
 replace H := Option.bind_eq_some_iff.mp H
 obtain ⟨J1, KF, H⟩ := H
 have A4 := ak KF
 clear KF
 by_cases c5 : J1 = true
 {
 subst c5
 rw [if_pos rfl] at H
 have H' := ak H
 clear H
 go_wp2_with (first | ((with_reducible refine gate_callee (f := 24) rfl ?_); refine goesL_ (some 34) rfl rfl Try.func24 (by kernel_rfl) rfl #[.slice A0 l0.length c0] rfl gl_ ?_; (with_reducible refine (laws_f6big.calls _ _ l0 true _ ?side1 ?side2 A4.out).mono ?_); (case side1 => exact sQ (Kd.C_below Hj.out HB.out)); (case side2 => exact Hm.out); rintro e w' ⟨rfl, ⟨nd, rfl⟩⟩; refine ⟨_, rfl, ?_⟩))
 go_meet
 case rel => exact ⟨_, (true), (by first | rfl | (simp; done) | (simp [*]; done)), H', ⟨by first | omega | exact Nat.le_refl _⟩, ⟨zB HB.out⟩⟩
 }
 {
 replace c5 := Bool.eq_false_iff.mpr c5
 subst c5
 rw [if_neg (show ¬ (false = true) by decide)] at H
 replace H := Option.bind_eq_some_iff.mp H
 obtain ⟨Ib, KM, H⟩ := H
 have A6 := ak KM
 clear KM
 have H' := ak H
 clear H
 go_wp2_with (first | ((with_reducible refine gate_callee (f := 24) rfl ?_); refine goesL_ (some 34) rfl rfl Try.func24 (by kernel_rfl) rfl #[.slice A0 l0.length c0] rfl gl_ ?_; (with_reducible refine (laws_f6big.calls _ _ l0 false _ ?side1 ?side2 A4.out).mono ?_); (case side1 => exact sQ (Kd.C_below Hj.out HB.out)); (case side2 => exact Hm.out); rintro e w' ⟨rfl, ⟨nd, rfl⟩⟩; refine ⟨_, rfl, ?_⟩) | (go_at_call 24; (with_reducible refine (laws_f6big.calls _ _ l1 Ib _ ?side1 ?side2 A6.out).mono ?_); (case side1 => exact sQ (Kd.C_below Jh.out (zB HB.out))); (case side2 => exact Je.out); rintro e w' ⟨rfl, ⟨nd, rfl⟩⟩))
 go_meet
 case rel => exact ⟨_, (Ib), (by first | rfl | (simp; done) | (simp [*]; done)), H', ⟨by first | omega | exact Nat.le_refl _⟩, ⟨zB HB.out⟩⟩
 }
 )
 case rest => (
 clear Jm
 try clear c1
 obtain ⟨kq, DV, rfl, HA, Bj, HB⟩ := hcut
 cases kq with
 | zero => exact absurd HA.out (by simp [laws_FnSlacks.j0])
 | succ Hi => (
 have H := HA.out
 clear HA
 simp only [laws_FnSlacks.j0] at H
 by_cases c7 : DV = true
 {
 subst c7
 rw [if_pos rfl] at H
 obtain rfl := Option.some.inj H
 go_wp2
 go_ret
 exact ⟨by first | rfl | (simp [errW_none, errW_some] <;> rfl) | (simp [*, errW_none, errW_some] <;> rfl), zB HB.out⟩
 }
 {
 replace c7 := Bool.eq_false_iff.mpr c7
 subst c7
 rw [if_neg (show ¬ (false = true) by decide)] at H
 replace H := Option.bind_eq_some_iff.mp H
 obtain ⟨⟨AM, AN, AO, AP, AQ, AR, AS, AT, AU, AW, AX, AY⟩, KD, H⟩ := H
 have A8 := ak KD
 clear KD
 replace H := Option.bind_eq_some_iff.mp H
 obtain ⟨Hc, KT, H⟩ := H
 have A9 := ak KT
 clear KT
 replace H := Option.bind_eq_some_iff.mp H
 obtain ⟨AG, IC, H⟩ := H
 have La := ak IC
 clear IC
 replace H := Option.bind_eq_some_iff.mp H
 obtain ⟨⟨BF, Ad, Ab⟩, IR, H⟩ := H
 have LS := ak IR
 clear IR
 replace H := Option.bind_eq_some_iff.mp H
 obtain ⟨⟨Ag, AL, Er⟩, Gq, H⟩ := H
 have LA := ak Gq
 clear Gq
 have HG := ak H
 clear H
 try go_wp2_with (first | ((with_reducible refine gate_callee (f := 25) rfl ?_); refine goesL_ (some 40) rfl rfl Try.func25 (by kernel_rfl) rfl #[.slice A0 l0.length c0] rfl gl_ ?_; (with_reducible refine (spec_P6Room.calls Hi _ _ l0 AM AN AO AP AQ AR AS AT AU AW AX AY _ ?side1 ?side2 A8.out).mono ?_); (case side1 => exact sQ (Kd.C_below Hj.out HB.out)); (case side2 => exact Hm.out); rintro e Lk ⟨rfl, hb⟩; refine ⟨_, rfl, ?_⟩; have Gn := ak (below_step (zB HB.out) hb); clear HB; have HB := Gn; clear Gn; (try clear hb); (try clear hb2); (try clear hk); (try clear hi)) | ((with_reducible refine gate_dst (N := 5) rfl ?_); (try (refine gate_guard (by rfl) ?_; dsimp only)); refine box_event ?hg (N := 5) ?hd (cs := #[.int .i8 0, .int .i8 0, .int .u16 0, .int .u16 0, .int .u16 0, .int .u16 0, .int .u16 0, .int .u16 0, .int .u16 0, .int .u16 0, .int .u16 0, .int .u16 0]) (t := 35) ?hr ?_; (case hd => rfl); (case hg => rfl); (case hr => first | (go_simp; done) | (go_simp; rfl)); intro AD hg Ix hbox hb; have Gn := ak (below_step (zB HB.out) hb); have Hk := ak (hbox); have Kf := gS HB hg; have Kx := gS HB hg; clear HB; have HB := Gn; have AA := Hk; have Kz := Kf; have AH := Kx; clear Gn Hk Kf Kx; clear hb hbox hg; obtain ⟨EY, EF, Do, EC, Dl, ET, Dw, D7, Dm, EK, C6, C2, EZ, DZ, EM, EP, D9, D1, Dc, EJ, Dk, D2, C0, C8⟩ := cz12 Ix AA))
 have Gn : Aside0 (((((((((((((Ix.setCell ⟨AD, 0, none⟩ (.int .i8 AM)).setCell ⟨AD, 1, none⟩ (.int .i8 AN)).setCell ⟨AD, 2, none⟩ (.int .u16 AO)).setCell ⟨AD, 3, none⟩ (.int .u16 AP)).setCell ⟨AD, 4, none⟩ (.int .u16 AQ)).setCell ⟨AD, 5, none⟩ (.int .u16 AR)).setCell ⟨AD, 6, none⟩ (.int .u16 AS)).setCell ⟨AD, 7, none⟩ (.int .u16 AT)).setCell ⟨AD, 8, none⟩ (.int .u16 AU)).setCell ⟨AD, 9, none⟩ (.int .u16 AW)).setCell ⟨AD, 10, none⟩ (.int .u16 AX)).setCell ⟨AD, 11, none⟩ (.int .u16 AY)).heap[AD]? = some (.cells #[.int .i8 AM, .int .i8 AN, .int .u16 AO, .int .u16 AP, .int .u16 AQ, .int .u16 AR, .int .u16 AS, .int .u16 AT, .int .u16 AU, .int .u16 AW, .int .u16 AX, .int .u16 AY] 35 (0, 0))) := ⟨by (with_reducible repeat (first | refine blk_drewN ?_ _ | refine blk_drew ?_ | refine blk_alloc ?_ _)); refine blk_put (cs := #[.int .i8 AM, .int .i8 AN, .int .u16 AO, .int .u16 AP, .int .u16 AQ, .int .u16 AR, .int .u16 AS, .int .u16 AT, .int .u16 AU, .int .u16 AW, .int .u16 AX, .int .u16 0]) ?_ 11 _ rfl; (with_reducible repeat (first | refine blk_drewN ?_ _ | refine blk_drew ?_ | refine blk_alloc ?_ _)); refine blk_put (cs := #[.int .i8 AM, .int .i8 AN, .int .u16 AO, .int .u16 AP, .int .u16 AQ, .int .u16 AR, .int .u16 AS, .int .u16 AT, .int .u16 AU, .int .u16 AW, .int .u16 0, .int .u16 0]) ?_ 10 _ rfl; (with_reducible repeat (first | refine blk_drewN ?_ _ | refine blk_drew ?_ | refine blk_alloc ?_ _)); refine blk_put (cs := #[.int .i8 AM, .int .i8 AN, .int .u16 AO, .int .u16 AP, .int .u16 AQ, .int .u16 AR, .int .u16 AS, .int .u16 AT, .int .u16 AU, .int .u16 0, .int .u16 0, .int .u16 0]) ?_ 9 _ rfl; (with_reducible repeat (first | refine blk_drewN ?_ _ | refine blk_drew ?_ | refine blk_alloc ?_ _)); refine blk_put (cs := #[.int .i8 AM, .int .i8 AN, .int .u16 AO, .int .u16 AP, .int .u16 AQ, .int .u16 AR, .int .u16 AS, .int .u16 AT, .int .u16 0, .int .u16 0, .int .u16 0, .int .u16 0]) ?_ 8 _ rfl; (with_reducible repeat (first | refine blk_drewN ?_ _ | refine blk_drew ?_ | refine blk_alloc ?_ _)); refine blk_put (cs := #[.int .i8 AM, .int .i8 AN, .int .u16 AO, .int .u16 AP, .int .u16 AQ, .int .u16 AR, .int .u16 AS, .int .u16 0, .int .u16 0, .int .u16 0, .int .u16 0, .int .u16 0]) ?_ 7 _ rfl; (with_reducible repeat (first | refine blk_drewN ?_ _ | refine blk_drew ?_ | refine blk_alloc ?_ _)); refine blk_put (cs := #[.int .i8 AM, .int .i8 AN, .int .u16 AO, .int .u16 AP, .int .u16 AQ, .int .u16 AR, .int .u16 0, .int .u16 0, .int .u16 0, .int .u16 0, .int .u16 0, .int .u16 0]) ?_ 6 _ rfl; (with_reducible repeat (first | refine blk_drewN ?_ _ | refine blk_drew ?_ | refine blk_alloc ?_ _)); refine blk_put (cs := #[.int .i8 AM, .int .i8 AN, .int .u16 AO, .int .u16 AP, .int .u16 AQ, .int .u16 0, .int .u16 0, .int .u16 0, .int .u16 0, .int .u16 0, .int .u16 0, .int .u16 0]) ?_ 5 _ rfl; (with_reducible repeat (first | refine blk_drewN ?_ _ | refine blk_drew ?_ | refine blk_alloc ?_ _)); refine blk_put (cs := #[.int .i8 AM, .int .i8 AN, .int .u16 AO, .int .u16 AP, .int .u16 0, .int .u16 0, .int .u16 0, .int .u16 0, .int .u16 0, .int .u16 0, .int .u16 0, .int .u16 0]) ?_ 4 _ rfl; (with_reducible repeat (first | refine blk_drewN ?_ _ | refine blk_drew ?_ | refine blk_alloc ?_ _)); refine blk_put (cs := #[.int .i8 AM, .int .i8 AN, .int .u16 AO, .int .u16 0, .int .u16 0, .int .u16 0, .int .u16 0, .int .u16 0, .int .u16 0, .int .u16 0, .int .u16 0, .int .u16 0]) ?_ 3 _ rfl; (with_reducible repeat (first | refine blk_drewN ?_ _ | refine blk_drew ?_ | refine blk_alloc ?_ _)); refine blk_put (cs := #[.int .i8 AM, .int .i8 AN, .int .u16 0, .int .u16 0, .int .u16 0, .int .u16 0, .int .u16 0, .int .u16 0, .int .u16 0, .int .u16 0, .int .u16 0, .int .u16 0]) ?_ 2 _ rfl; (with_reducible repeat (first | refine blk_drewN ?_ _ | refine blk_drew ?_ | refine blk_alloc ?_ _)); refine blk_put (cs := #[.int .i8 AM, .int .i8 0, .int .u16 0, .int .u16 0, .int .u16 0, .int .u16 0, .int .u16 0, .int .u16 0, .int .u16 0, .int .u16 0, .int .u16 0, .int .u16 0]) ?_ 1 _ rfl; (with_reducible repeat (first | refine blk_drewN ?_ _ | refine blk_drew ?_ | refine blk_alloc ?_ _)); refine blk_put (cs := #[.int .i8 0, .int .i8 0, .int .u16 0, .int .u16 0, .int .u16 0, .int .u16 0, .int .u16 0, .int .u16 0, .int .u16 0, .int .u16 0, .int .u16 0, .int .u16 0]) ?_ 0 _ rfl; (with_reducible repeat (first | refine blk_drewN ?_ _ | refine blk_drew ?_ | refine blk_alloc ?_ _)); exact AA.out⟩
 have Hk : Aside0 (Below w.heap.size w ((((((((((((Ix.setCell ⟨AD, 0, none⟩ (.int .i8 AM)).setCell ⟨AD, 1, none⟩ (.int .i8 AN)).setCell ⟨AD, 2, none⟩ (.int .u16 AO)).setCell ⟨AD, 3, none⟩ (.int .u16 AP)).setCell ⟨AD, 4, none⟩ (.int .u16 AQ)).setCell ⟨AD, 5, none⟩ (.int .u16 AR)).setCell ⟨AD, 6, none⟩ (.int .u16 AS)).setCell ⟨AD, 7, none⟩ (.int .u16 AT)).setCell ⟨AD, 8, none⟩ (.int .u16 AU)).setCell ⟨AD, 9, none⟩ (.int .u16 AW)).setCell ⟨AD, 10, none⟩ (.int .u16 AX)).setCell ⟨AD, 11, none⟩ (.int .u16 AY))) := ⟨zBG HB.out AH.out⟩
 (try clear AA)
 (try clear HB)
 generalize ((((((((((((Ix.setCell ⟨AD, 0, none⟩ (.int .i8 AM)).setCell ⟨AD, 1, none⟩ (.int .i8 AN)).setCell ⟨AD, 2, none⟩ (.int .u16 AO)).setCell ⟨AD, 3, none⟩ (.int .u16 AP)).setCell ⟨AD, 4, none⟩ (.int .u16 AQ)).setCell ⟨AD, 5, none⟩ (.int .u16 AR)).setCell ⟨AD, 6, none⟩ (.int .u16 AS)).setCell ⟨AD, 7, none⟩ (.int .u16 AT)).setCell ⟨AD, 8, none⟩ (.int .u16 AU)).setCell ⟨AD, 9, none⟩ (.int .u16 AW)).setCell ⟨AD, 10, none⟩ (.int .u16 AX)).setCell ⟨AD, 11, none⟩ (.int .u16 AY)) = K9 at Gn Hk ⊢
 have AA := Gn
 have HB := Hk
 clear Gn Hk
 replace AA := ak (blk_drew AA.out)
 replace HB := ak (below_drew1 HB.out)
 refine start_ (n := 7) (S := fun w' => w'.cell? ⟨AD, 0, none⟩ = some (.int .i8 AM) ∧ w'.cell? ⟨AD, 1, none⟩ = some (.int .i8 AN) ∧ w'.cell? ⟨AD, 2, none⟩ = some (.int .u16 AO) ∧ w'.cell? ⟨AD, 3, none⟩ = some (.int .u16 AP) ∧ w'.cell? ⟨AD, 4, none⟩ = some (.int .u16 AQ) ∧ w'.cell? ⟨AD, 5, none⟩ = some (.int .u16 AR) ∧ w'.cell? ⟨AD, 6, none⟩ = some (.int .u16 AS) ∧ w'.cell? ⟨AD, 7, none⟩ = some (.int .u16 AT) ∧ w'.cell? ⟨AD, 8, none⟩ = some (.int .u16 AU) ∧ w'.cell? ⟨AD, 9, none⟩ = some (.int .u16 AW) ∧ w'.cell? ⟨AD, 10, none⟩ = some (.int .u16 AX) ∧ w'.cell? ⟨AD, 11, none⟩ = some (.int .u16 AY)) (ds := []) (bA 7 0) (by kernel_rfl) rfl rfl (ce12 AA) (fun hHeld => ?_)
 generalize K9.drew = Lj at AA HB hHeld ⊢
 refine pure_ (i := 0) (N := some 41) (v := ?_) (a' := ?_) (bA 7 1) rfl rfl (by kernel_rfl) (fun _ _ _ h => h) (Or.inl ⟨by rfl, ?_⟩) ?_ ?_
 rotate_left
 {
 intro w'
 go_simp
 with_reducible rfl
 }
 rotate_left
 · simp only [Act.put, zs, zz, zk, i64_w, i32_w]; rfl
 refine pure_ (i := 2) (N := some 43) (v := ?_) (a' := ?_) (bA 7 5) rfl rfl (by kernel_rfl) (fun _ _ _ h => h) (Or.inl ⟨by rfl, ?_⟩) ?_ ?_
 rotate_left
 {
 intro w'
 go_simp
 with_reducible rfl
 }
 rotate_left
 · simp only [Act.put, zs, zz, zk, i64_w, i32_w]; rfl
 refine take_ (i := 1) (N := some 42) (v := ?_) (a' := ?_) (bA 7 7) rfl rfl (by kernel_rfl) (fun _ _ _ h => h) (Or.inl ⟨by rfl, ?_⟩) hHeld ?_ ?_
 rotate_left
 {
 rintro w' ⟨s0, s1, s2, s3, s4, s5, s6, s7, s8, s9, L0, Lq⟩
 go_simp
 with_reducible rfl
 }
 rotate_left
 · simp only [Act.put, zs, zz, zk, i64_w, i32_w]; rfl
 refine one_ (i := 3) (N := some 44) (bA 7 15) rfl rfl (by kernel_rfl) (by decide) (fun K hK => ?_)
 refine goes_ Try.func27 (by kernel_rfl) rfl #[.slice A0 l0.length c0, .int .i64 4] (by rfl) rfl rfl gl_ ?_
 with_reducible refine (spec_P6Pick.calls _ _ l0 4 Hc _ ?side1 ?side2 A9.out).mono ?_
 (case side1 => exact sQ (Kd.C_below Hj.out HB.out))
 (case side2 => exact Hm.out)
 rintro e Ln ⟨rfl, hb⟩
 refine ⟨_, rfl, ?_⟩
 replace AA := kK AA hb
 replace HB := kB1 HB AH hb
 (try clear hb)
 refine hK.out _ _ (ce12 AA) (fun hHeld => ?_)
 clear hK K
 refine norm_ (a' := ?_) ?_ ?_
 rotate_left
 {
 show Act.put _ (some 44) _ = _
 simp only [Act.put, zs, zz, zk, i64_w, i32_w]
 rfl
 }
 refine pure_ (i := 4) (N := some 45) (v := ?_) (a' := ?_) (bA 7 31) rfl rfl (by kernel_rfl) (fun _ _ _ h => h) (Or.inl ⟨by rfl, ?_⟩) ?_ ?_
 rotate_left
 {
 intro w'
 go_simp
 with_reducible rfl
 }
 rotate_left
 · simp only [Act.put, zs, zz, zk, i64_w, i32_w]; rfl
 refine one_ (i := 5) (N := some 46) (bA 7 63) rfl rfl (by kernel_rfl) (by decide) (fun K hK => ?_)
 refine goes_ Try.func26 (by kernel_rfl) rfl #[.slice A1 l1.length c1, .agg #[.int .i8 AM, .int .i8 AN, .int .u16 AO, .int .u16 AP, .int .u16 AQ, .int .u16 AR, .int .u16 AS, .int .u16 AT, .int .u16 AU, .int .u16 AW, .int .u16 AX, .int .u16 AY], .int .i64 (wrap64 (2 + Hc))] (by rfl) rfl rfl gl_ ?_
 with_reducible refine (spec_P6Stands.calls Hi _ _ l1 AM AN AO AP AQ AR AS AT AU AW AX AY (wrap64 (2 + Hc)) AG _ ?side1 ?side2 La.out).mono ?_
 (case side1 => exact sQ (Kd.C_below Jh.out HB.out))
 (case side2 => exact Je.out)
 rintro e LH ⟨LJ, rfl, BN, hb⟩
 refine ⟨_, rfl, ?_⟩
 have Au := ak (Kd.R_lower BN (below_size (zBG HB.out AH.out)))
 replace AA := kK AA hb
 replace HB := kB1 HB AH hb
 (try clear hb)
 (try clear BN)
 refine hK.out _ _ (ce12 AA) (fun hHeld => ?_)
 clear hK K
 refine norm_ (a' := ?_) ?_ ?_
 rotate_left
 {
 show Act.put _ (some 46) _ = _
 simp only [Act.put, zs, zz, zk, i64_w, i32_w]
 rfl
 }
 refine pure_ (i := 6) (N := some 6) (v := ?_) (a' := ?_) (bA 7 127) rfl rfl (by kernel_rfl) (fun _ _ _ h => h) (Or.inl ⟨by rfl, ?_⟩) ?_ ?_
 rotate_left
 {
 intro w'
 go_simp
 with_reducible rfl
 }
 rotate_left
 · simp only [Act.put, zs, zz, zk, i64_w, i32_w]; rfl
 refine done_ (by kernel_rfl) ?_
 obtain ⟨ER, Da, Dg, EE, DW, ES, Di, Dd, Dz, EW, DF, Cy, D8, DY, EV, De, EX, Dj, Du, Df, Dn, EU, C5, DE⟩ := cz12 LH AA
 obtain ⟨Cw, Cr, J3⟩ := Kd.R_slice Au.out
 subst J3
 go_upto_region 7 with (first | ((with_reducible refine gate_callee (f := 11) rfl ?_); refine goesL_ (some 50) rfl rfl Try.func11 (by kernel_rfl) rfl #[.agg #[.int .i8 AM, .int .i8 AN, .int .u16 AO, .int .u16 AP, .int .u16 AQ, .int .u16 AR, .int .u16 AS, .int .u16 AT, .int .u16 AU, .int .u16 AW, .int .u16 AX, .int .u16 AY], .slice Cw AG.length Cr] rfl gl_ ?_; (with_reducible refine (impl_RopeFor.calls Hi AM AN AO AP AQ AR AS AT AU AW AX AY _ _ AG BF Ad Ab _ ?side1 ?side2 LS.out).mono ?_); (case side1 => exact sC Au); (case side2 => exact sL Au); rintro e Lm ⟨K7, rfl, BN, hb⟩; refine ⟨_, rfl, ?_⟩; have BC := ak (Kd.R_lower BN (below_size (zBG HB.out AH.out))); replace Au := kR Au hb; replace AA := kK AA hb; replace HB := kB1 HB AH hb; (try clear hb); (try clear BN)) | ((with_reducible refine gate_dst (N := 7) rfl ?_); (try (refine gate_guard (by rfl) ?_; dsimp only)); refine box_event ?hg (N := 7) ?hd (cs := #[.int .i16 0, .slice none 0 0]) (t := 32) ?hr ?_; (case hd => rfl); (case hg => rfl); (case hr => first | (go_simp; done) | (go_simp; rfl)); intro An hg J8 hbox hb; have AF := ak (hbox); have KP := gS1 HB AH hg; have AI := gS1 HB AH hg; have Az := nL AA hg; have BL := nG AA hg; replace Au := kR Au hb; replace BC := kR BC hb; replace AA := kK AA hb; replace HB := kB1 HB AH hb; clear hb hbox hg; have J9 := BL.out; have Kj := Az.out; obtain ⟨EI, D5, Dt, Dh⟩ := cz2 J8 AF; obtain ⟨Aj, Ai, Jd⟩ := Kd.R_slice BC.out; subst Jd; obtain ⟨EG, EO, Dx, Ds, D0, Dr, D3, D6, DS, D4, DB, C7, EA, DX, EL, Dp, Dy, EQ, EH, Dq, Dv, ED, DD, DC⟩ := cz12 J8 AA) | ((with_reducible refine gate_callee (f := 8) rfl ?_); refine goesL_ (some 56) rfl rfl Try.func8 (by kernel_rfl) rfl #[.agg #[.int .i8 AM, .int .i8 AN, .int .u16 AO, .int .u16 AP, .int .u16 AQ, .int .u16 AR, .int .u16 AS, .int .u16 AT, .int .u16 AU, .int .u16 AW, .int .u16 AX, .int .u16 AY], .slice Cw AG.length Cr] rfl gl_ ?_; (with_reducible refine (spec_RopeFor.calls Hi AM AN AO AP AQ AR AS AT AU AW AX AY _ _ AG Ag AL Er _ ?side1 ?side2 LA.out).mono ?_); (case side1 => refine (Kd.R_reads' (e := 62) (base := w.heap.size) (ok := fun k_ => True) (n := AG.length) (c := Cr) ?_).2.2; exact (by (with_reducible repeat (first | apply Kd.R_alloc | apply Kd.R_drewN | apply Kd.R_drew)); exact (Kd.R_mono (Kd.R_far (p := ⟨An, 1, none⟩) (Kd.R_far (p := ⟨An, 0, none⟩) (Kd.R_types Au.out AF.out (by decide)) (fun _ hk => hk.2) (.int .i16 BF)) (fun _ hk => hk.2) (.slice Aj Ad.length Ai)) (fun _ h_ => h_.1)))); (case side2 => exact sL Au); rintro e Lu ⟨LO, rfl, BN, hb⟩; refine ⟨_, rfl, ?_⟩; have BU := ak (Kd.R_lower (Kd.R_new' BN (Kd.R_lt (by (with_reducible repeat (first | apply Kd.R_alloc | apply Kd.R_drewN | apply Kd.R_drew)); exact (Kd.R_mono (Kd.R_far (p := ⟨An, 1, none⟩) (Kd.R_far (p := ⟨An, 0, none⟩) (Kd.R_types BC.out AF.out (by decide)) (fun _ hk => hk.2) (.int .i16 BF)) (fun _ hk => hk.2) (.slice Aj Ad.length Ai)) (fun _ h_ => h_.1))))) (below_size (zH2 HB AH AI))); replace Au := ak (Kd.R_below (by (with_reducible repeat (first | apply Kd.R_alloc | apply Kd.R_drewN | apply Kd.R_drew)); exact (Kd.R_mono (Kd.R_far (p := ⟨An, 1, none⟩) (Kd.R_far (p := ⟨An, 0, none⟩) (Kd.R_types Au.out AF.out (by decide)) (fun _ hk => hk.2) (.int .i16 BF)) (fun _ hk => hk.2) (.slice Aj Ad.length Ai)) (fun _ h_ => h_.1))) hb); replace BC := ak (Kd.R_elder' (by (with_reducible repeat (first | apply Kd.R_alloc | apply Kd.R_drewN | apply Kd.R_drew)); exact (Kd.R_mono (Kd.R_far (p := ⟨An, 1, none⟩) (Kd.R_far (p := ⟨An, 0, none⟩) (Kd.R_types BC.out AF.out (by decide)) (fun _ hk => hk.2) (.int .i16 BF)) (fun _ hk => hk.2) (.slice Aj Ad.length Ai)) (fun _ h_ => h_.1))) (Kd.R_base BN) hb); replace AA := ak (blk_below (g := AD) (o := .cells #[.int .i8 AM, .int .i8 AN, .int .u16 AO, .int .u16 AP, .int .u16 AQ, .int .u16 AR, .int .u16 AS, .int .u16 AT, .int .u16 AU, .int .u16 AW, .int .u16 AX, .int .u16 AY] 35 (0, 0)) (by (with_reducible repeat (first | refine blk_drewN ?_ _ | refine blk_drew ?_ | refine blk_alloc ?_ _)); refine blk_far ?_ Az.out _; (with_reducible repeat (first | refine blk_drewN ?_ _ | refine blk_drew ?_ | refine blk_alloc ?_ _)); refine blk_far ?_ Az.out _; (with_reducible repeat (first | refine blk_drewN ?_ _ | refine blk_drew ?_ | refine blk_alloc ?_ _)); exact AA.out) hb); replace AF := ak (blk_below (g := An) (o := .cells #[.int .i16 BF, .slice Aj Ad.length Ai] 32 (0, 0)) (by (with_reducible repeat (first | refine blk_drewN ?_ _ | refine blk_drew ?_ | refine blk_alloc ?_ _)); refine blk_put (cs := #[.int .i16 BF, .slice none 0 0]) ?_ 1 _ rfl; (with_reducible repeat (first | refine blk_drewN ?_ _ | refine blk_drew ?_ | refine blk_alloc ?_ _)); refine blk_put (cs := #[.int .i16 0, .slice none 0 0]) ?_ 0 _ rfl; (with_reducible repeat (first | refine blk_drewN ?_ _ | refine blk_drew ?_ | refine blk_alloc ?_ _)); exact AF.out) hb); replace HB := kB2 HB AH AI hb; (try clear hb); (try clear hk); (try clear BN)) | ((with_reducible refine gate_dst (N := 9) rfl ?_); (try (refine gate_guard (by rfl) ?_; dsimp only)); refine box_event ?hg (N := 9) ?hd (cs := #[.int .i16 0, .slice none 0 0]) (t := 32) ?hr ?_; (case hd => rfl); (case hg => rfl); (case hr => first | (go_simp; done) | (go_simp; rfl)); intro AZ hg IW hbox hb; have AE := ak (hbox); have Kt := ak ((by rw [hg]; exact (below_size (zH2 HB AH AI)) : w.heap.size ≤ AZ)); have AK := ak ((by rw [hg]; exact (below_size (zH2 HB AH AI)) : w.heap.size ≤ AZ)); have Ah := nL AA hg; have A2 := nG AA hg; have Ak := nL AF hg; have BG := nG AF hg; replace Au := kR Au hb; replace BC := kR BC hb; replace BU := kR BU hb; replace AA := kK AA hb; replace AF := kK AF hb; replace HB := kB2 HB AH AI hb; clear hb hbox hg; have Ka := A2.out; have Ke := Ah.out; have Ko := BG.out; have K4 := Ak.out; obtain ⟨EB, Db, DT, EN⟩ := cz2 IW AE; obtain ⟨Af, Ae, Jl⟩ := Kd.R_slice BU.out; subst Jl))
 (try simp only [Act.put, zs, zz, zk])
 go_cut [67] (fun LU wc => ∃ (kq : Nat) (Cu : Bool), LU = .bool Cu ∧ Aside0 (laws_FnSlacks.j1 kq l0 l1 AG Ab Cu AM AN AO AP AQ AR AS AT AU AW AX AY Ag AL = some r) ∧ Aside0 (kq ≤ Hi) ∧ Aside0 (Kd.R k62 62 wc w.heap.size (fun _ => True) (.slice Cw AG.length Cr) AG) ∧ Aside0 (Kd.R (Kd.int .i16) 29 wc w.heap.size (fun k_ => some k_ ≠ ((.slice Af AL.length Ae) : Value).ownBlock) (.slice Aj Ad.length Ai) Ad) ∧ Aside0 (Kd.R (Kd.int .i16) 29 wc w.heap.size (fun k_ => some k_ ≠ ((.slice Aj Ad.length Ai) : Value).ownBlock) (.slice Af AL.length Ae) AL) ∧ Aside0 (wc.heap[AD]? = some (.cells #[.int .i8 AM, .int .i8 AN, .int .u16 AO, .int .u16 AP, .int .u16 AQ, .int .u16 AR, .int .u16 AS, .int .u16 AT, .int .u16 AU, .int .u16 AW, .int .u16 AX, .int .u16 AY] 35 (0, 0))) ∧ Aside0 (wc.heap[An]? = some (.cells #[.int .i16 BF, (.slice Aj Ad.length Ai)] 32 (0, 0))) ∧ Aside0 (wc.heap[AZ]? = some (.cells #[.int .i16 Ag, (.slice Af AL.length Ae)] 32 (0, 0))) ∧ Aside0 (Below w.heap.size w wc))
 case first => (
 have H := HG.out
 clear HG
 by_cases Hf : Ab = Er
 {
 rw [if_pos Hf] at H
 have DA : (Ab == Er) = true := beq_iff_eq.mpr Hf
 have Iq : (Ab != Er) = false := bne_eq_false_iff_eq.mpr Hf
 clear Hf
 (first | rw [DA] | (simp only [i64_w, i32_w]; rw [DA]) | skip)
 replace H := Option.bind_eq_some_iff.mp H
 obtain ⟨In, Ho, H⟩ := H
 have LB := ak Ho
 clear Ho
 have H' := ak H
 clear H
 have K1 := BL.out
 have KR := Az.out
 have Kb := Ak.out
 have Kg := BG.out
 have JR : IW.cell? ⟨An, 0, none⟩ = some (.int .i16 BF) := (blk_cell AF.out 0).trans rfl
 have JN : IW.cell? ⟨An, 1, none⟩ = some (.slice Aj Ad.length Ai) := (blk_cell AF.out 1).trans rfl
 have I0 := blk_frozen AF.out 0
 have I6 := blk_frozen AF.out 1
 have Kk := A2.out
 have Kn := Ah.out
 have Iz : IW.cell? ⟨AZ, 0, none⟩ = some (.int .i16 0) := (blk_cell AE.out 0).trans rfl
 have JQ : IW.cell? ⟨AZ, 1, none⟩ = some (.slice none 0 0) := (blk_cell AE.out 1).trans rfl
 have JM := blk_frozen AE.out 0
 have Iy := blk_frozen AE.out 1
 go_wp2_with (first | (go_at_call 28; (with_reducible refine (spec_SameRope.calls Hi BF _ _ Ad Ag _ _ AL In _ ?side1 ?side2 ?side3 ?side4 LB.out).mono ?_); (case side1 => refine (Kd.R_reads' (e := 29) (base := w.heap.size) (ok := fun k_ => (True ∧ some k_ ≠ (.slice Af AL.length Ae : Value).ownBlock)) (n := Ad.length) (c := Ai) ?_).2.2; exact (by (with_reducible repeat (first | apply Kd.R_alloc | apply Kd.R_drewN | apply Kd.R_drew)); exact (Kd.R_mono (Kd.R_far (p := ⟨AZ, 1, none⟩) (Kd.R_far (p := ⟨AZ, 0, none⟩) (Kd.R_types BC.out AE.out (by decide)) (fun _ hk => hk.2) (.int .i16 Ag)) (fun _ hk => hk.2) (.slice Af AL.length Ae)) (fun _ h_ => h_.1)))); (case side2 => exact sL BC); (case side3 => refine (Kd.R_reads' (e := 29) (base := w.heap.size) (ok := fun k_ => (True ∧ some k_ ≠ (.slice Aj Ad.length Ai : Value).ownBlock)) (n := AL.length) (c := Ae) ?_).2.2; exact (by (with_reducible repeat (first | apply Kd.R_alloc | apply Kd.R_drewN | apply Kd.R_drew)); exact (Kd.R_mono (Kd.R_far (p := ⟨AZ, 1, none⟩) (Kd.R_far (p := ⟨AZ, 0, none⟩) (Kd.R_types BU.out AE.out (by decide)) (fun _ hk => hk.2) (.int .i16 Ag)) (fun _ hk => hk.2) (.slice Af AL.length Ae)) (fun _ h_ => h_.1)))); (case side4 => exact sL BU); rintro e Lw ⟨rfl, hb⟩; replace Au := ak (Kd.R_below (by (with_reducible repeat (first | apply Kd.R_alloc | apply Kd.R_drewN | apply Kd.R_drew)); exact (Kd.R_mono (Kd.R_far (p := ⟨AZ, 1, none⟩) (Kd.R_far (p := ⟨AZ, 0, none⟩) (Kd.R_types Au.out AE.out (by decide)) (fun _ hk => hk.2) (.int .i16 Ag)) (fun _ hk => hk.2) (.slice Af AL.length Ae)) (fun _ h_ => h_.1))) hb); replace BC := ak (Kd.R_below (by (with_reducible repeat (first | apply Kd.R_alloc | apply Kd.R_drewN | apply Kd.R_drew)); exact (Kd.R_mono (Kd.R_far (p := ⟨AZ, 1, none⟩) (Kd.R_far (p := ⟨AZ, 0, none⟩) (Kd.R_types BC.out AE.out (by decide)) (fun _ hk => hk.2) (.int .i16 Ag)) (fun _ hk => hk.2) (.slice Af AL.length Ae)) (fun _ h_ => h_.1))) hb); replace BU := ak (Kd.R_below (by (with_reducible repeat (first | apply Kd.R_alloc | apply Kd.R_drewN | apply Kd.R_drew)); exact (Kd.R_mono (Kd.R_far (p := ⟨AZ, 1, none⟩) (Kd.R_far (p := ⟨AZ, 0, none⟩) (Kd.R_types BU.out AE.out (by decide)) (fun _ hk => hk.2) (.int .i16 Ag)) (fun _ hk => hk.2) (.slice Af AL.length Ae)) (fun _ h_ => h_.1))) hb); replace AA := ak (blk_below (g := AD) (o := .cells #[.int .i8 AM, .int .i8 AN, .int .u16 AO, .int .u16 AP, .int .u16 AQ, .int .u16 AR, .int .u16 AS, .int .u16 AT, .int .u16 AU, .int .u16 AW, .int .u16 AX, .int .u16 AY] 35 (0, 0)) (by (with_reducible repeat (first | refine blk_drewN ?_ _ | refine blk_drew ?_ | refine blk_alloc ?_ _)); refine blk_far ?_ Ah.out _; (with_reducible repeat (first | refine blk_drewN ?_ _ | refine blk_drew ?_ | refine blk_alloc ?_ _)); refine blk_far ?_ Ah.out _; (with_reducible repeat (first | refine blk_drewN ?_ _ | refine blk_drew ?_ | refine blk_alloc ?_ _)); exact AA.out) hb); replace AF := ak (blk_below (g := An) (o := .cells #[.int .i16 BF, .slice Aj Ad.length Ai] 32 (0, 0)) (by (with_reducible repeat (first | refine blk_drewN ?_ _ | refine blk_drew ?_ | refine blk_alloc ?_ _)); refine blk_far ?_ Ak.out _; (with_reducible repeat (first | refine blk_drewN ?_ _ | refine blk_drew ?_ | refine blk_alloc ?_ _)); refine blk_far ?_ Ak.out _; (with_reducible repeat (first | refine blk_drewN ?_ _ | refine blk_drew ?_ | refine blk_alloc ?_ _)); exact AF.out) hb); replace AE := ak (blk_below (g := AZ) (o := .cells #[.int .i16 Ag, .slice Af AL.length Ae] 32 (0, 0)) (by (with_reducible repeat (first | refine blk_drewN ?_ _ | refine blk_drew ?_ | refine blk_alloc ?_ _)); refine blk_put (cs := #[.int .i16 Ag, .slice none 0 0]) ?_ 1 _ rfl; (with_reducible repeat (first | refine blk_drewN ?_ _ | refine blk_drew ?_ | refine blk_alloc ?_ _)); refine blk_put (cs := #[.int .i16 0, .slice none 0 0]) ?_ 0 _ rfl; (with_reducible repeat (first | refine blk_drewN ?_ _ | refine blk_drew ?_ | refine blk_alloc ?_ _)); exact AE.out) hb); replace HB := kB3 HB AH AI AK hb; (try clear hb); (try clear hk)))
 go_meet
 case rel => exact ⟨_, (!In), (by first | rfl | (simp; done) | (simp [*]; done)), H', ⟨by have := Bj.out; first | omega | exact Nat.le_refl _⟩, ⟨(zR Au.out)⟩, ⟨by (with_reducible repeat (first | apply Kd.R_alloc | apply Kd.R_drewN | apply Kd.R_drew)); exact Kd.R_mono BC.out (fun _ hk => hk.2)⟩, ⟨by (with_reducible repeat (first | apply Kd.R_alloc | apply Kd.R_drewN | apply Kd.R_drew)); exact Kd.R_mono BU.out (fun _ hk => hk.2)⟩, ⟨(zK AA.out)⟩, ⟨(zK AF.out)⟩, ⟨(zK AE.out)⟩, ⟨zH3 HB AH AI AK⟩⟩
 }
 {
 rw [if_neg Hf] at H
 have DA : (Ab == Er) = false := beq_eq_false_iff_ne.mpr Hf
 have Iq : (Ab != Er) = true := bne_iff_ne.mpr Hf
 (first | rw [DA] | (simp only [i64_w, i32_w]; rw [DA]) | skip)
 have H' := ak H
 clear H
 go_wp2
 go_meet
 case rel => exact ⟨_, (true), (by first | rfl | (simp; done) | (simp [*]; done)), H', ⟨by have := Bj.out; first | omega | exact Nat.le_refl _⟩, ⟨by (with_reducible repeat (first | apply Kd.R_alloc | apply Kd.R_drewN | apply Kd.R_drew)); exact Kd.R_mono (Kd.R_far (p := ⟨AZ, 1, none⟩) (Kd.R_far (p := ⟨AZ, 0, none⟩) (Kd.R_types Au.out AE.out (by decide)) (fun _ hk => hk.2) (.int .i16 Ag)) (fun _ hk => hk.2) (.slice Af AL.length Ae)) (fun _ hk => trivial)⟩, ⟨by (with_reducible repeat (first | apply Kd.R_alloc | apply Kd.R_drewN | apply Kd.R_drew)); exact Kd.R_mono (Kd.R_far (p := ⟨AZ, 1, none⟩) (Kd.R_far (p := ⟨AZ, 0, none⟩) (Kd.R_types BC.out AE.out (by decide)) (fun _ hk => hk.2) (.int .i16 Ag)) (fun _ hk => hk.2) (.slice Af AL.length Ae)) (fun _ hk => hk.1.2)⟩, ⟨by (with_reducible repeat (first | apply Kd.R_alloc | apply Kd.R_drewN | apply Kd.R_drew)); exact Kd.R_mono (Kd.R_far (p := ⟨AZ, 1, none⟩) (Kd.R_far (p := ⟨AZ, 0, none⟩) (Kd.R_types BU.out AE.out (by decide)) (fun _ hk => hk.2) (.int .i16 Ag)) (fun _ hk => hk.2) (.slice Af AL.length Ae)) (fun _ hk => hk.1.2)⟩, ⟨by (with_reducible repeat (first | refine blk_drewN ?_ _ | refine blk_drew ?_ | refine blk_alloc ?_ _)); refine blk_far ?_ Ah.out _; (with_reducible repeat (first | refine blk_drewN ?_ _ | refine blk_drew ?_ | refine blk_alloc ?_ _)); refine blk_far ?_ Ah.out _; (with_reducible repeat (first | refine blk_drewN ?_ _ | refine blk_drew ?_ | refine blk_alloc ?_ _)); exact AA.out⟩, ⟨by (with_reducible repeat (first | refine blk_drewN ?_ _ | refine blk_drew ?_ | refine blk_alloc ?_ _)); refine blk_far ?_ Ak.out _; (with_reducible repeat (first | refine blk_drewN ?_ _ | refine blk_drew ?_ | refine blk_alloc ?_ _)); refine blk_far ?_ Ak.out _; (with_reducible repeat (first | refine blk_drewN ?_ _ | refine blk_drew ?_ | refine blk_alloc ?_ _)); exact AF.out⟩, ⟨by (with_reducible repeat (first | refine blk_drewN ?_ _ | refine blk_drew ?_ | refine blk_alloc ?_ _)); refine blk_put (cs := #[.int .i16 Ag, .slice none 0 0]) ?_ 1 _ rfl; (with_reducible repeat (first | refine blk_drewN ?_ _ | refine blk_drew ?_ | refine blk_alloc ?_ _)); refine blk_put (cs := #[.int .i16 0, .slice none 0 0]) ?_ 0 _ rfl; (with_reducible repeat (first | refine blk_drewN ?_ _ | refine blk_drew ?_ | refine blk_alloc ?_ _)); exact AE.out⟩, ⟨zH3 HB AH AI AK⟩⟩
 }
 )
 case rest => (
 as_aux_lemma =>
 clear HG
 try clear c1
 try clear c7
 try clear EY
 try clear EF
 try clear C6
 try clear C2
 try clear Do
 try clear EC
 try clear Dl
 try clear ET
 try clear Dw
 try clear D7
 try clear Dm
 try clear EK
 try clear ER
 try clear Da
 try clear DF
 try clear Cy
 try clear Dg
 try clear EE
 try clear DW
 try clear ES
 try clear Di
 try clear Dd
 try clear Dz
 try clear EW
 try clear EI
 try clear D5
 try clear EG
 try clear EO
 try clear DB
 try clear C7
 try clear Dx
 try clear Ds
 try clear D0
 try clear Dr
 try clear D3
 try clear D6
 try clear DS
 try clear D4
 try clear EB
 try clear Db
 try clear EZ
 try clear DZ
 try clear C0
 try clear C8
 try clear EM
 try clear EP
 try clear D9
 try clear D1
 try clear Dc
 try clear EJ
 try clear Dk
 try clear D2
 try clear D8
 try clear DY
 try clear C5
 try clear DE
 try clear EV
 try clear De
 try clear EX
 try clear Dj
 try clear Du
 try clear Df
 try clear Dn
 try clear EU
 try clear Dt
 try clear Dh
 try clear EA
 try clear DX
 try clear DD
 try clear DC
 try clear EL
 try clear Dp
 try clear Dy
 try clear EQ
 try clear EH
 try clear Dq
 try clear Dv
 try clear ED
 try clear DT
 try clear EN
 obtain ⟨kq, Cu, rfl, HA, Ay, AV, AC, AB, AA, AF, AE, HB⟩ := hcut
 cases kq with
 | zero => exact absurd HA.out (by simp [laws_FnSlacks.j1])
 | succ H9 => (
 have H := HA.out
 clear HA
 simp only [laws_FnSlacks.j1] at H
 by_cases ID : Cu = true
 {
 subst ID
 rw [if_pos rfl] at H
 exact absurd ((Option.some.inj H).trans HT.out) (by decide)
 }
 {
 replace ID := Bool.eq_false_iff.mpr ID
 subst ID
 rw [if_neg (show ¬ (false = true) by decide)] at H
 have H' := ak H
 clear H
 go_wp2
 go_loopg [11, 12, 13] H9 (fun kq LW LF K8 w' => ∃ (Bi : Bool) (BJ : Bool) (AJ : Int), LW = .bool Bi ∧ LF = .bool BJ ∧ K8 = .int .i64 AJ ∧ Aside0 (laws_FnSlacks.l0 kq l0 l1 AG Ab Bi BJ AJ AM AN AO AP AQ AR AS AT AU AW AX AY Ag AL = some r) ∧ Aside0 (kq ≤ H9) ∧ Aside0 (Kd.R k62 62 w' w.heap.size (fun _ => True) (.slice Cw AG.length Cr) AG) ∧ Aside0 (Kd.R (Kd.int .i16) 29 w' w.heap.size (fun k_ => some k_ ≠ ((.slice Af AL.length Ae) : Value).ownBlock) (.slice Aj Ad.length Ai) Ad) ∧ Aside0 (Kd.R (Kd.int .i16) 29 w' w.heap.size (fun k_ => some k_ ≠ ((.slice Aj Ad.length Ai) : Value).ownBlock) (.slice Af AL.length Ae) AL) ∧ Aside0 (w'.heap[AD]? = some (.cells #[.int .i8 AM, .int .i8 AN, .int .u16 AO, .int .u16 AP, .int .u16 AQ, .int .u16 AR, .int .u16 AS, .int .u16 AT, .int .u16 AU, .int .u16 AW, .int .u16 AX, .int .u16 AY] 35 (0, 0))) ∧ Aside0 (w'.heap[An]? = some (.cells #[.int .i16 BF, (.slice Aj Ad.length Ai)] 32 (0, 0))) ∧ Aside0 (w'.heap[AZ]? = some (.cells #[.int .i16 Ag, (.slice Af AL.length Ae)] 32 (0, 0))) ∧ Aside0 (Below w.heap.size w w'))
 case atStart => exact ⟨(false), (false), (1), (by first | rfl | (simp; done) | (simp [*]; done)), (by first | rfl | (simp; done) | (simp [*]; done)), (by first | rfl | (simp; done) | (simp [*]; done)), H', ⟨Nat.le_refl _⟩, ⟨(zR AV.out)⟩, ⟨(zR AC.out)⟩, ⟨(zR AB.out)⟩, ⟨(zK AA.out)⟩, ⟨(zK AF.out)⟩, ⟨(zK AE.out)⟩, ⟨zH3 HB AH AI AK⟩⟩
 case round => (
 clear H'
 try clear c1
 try clear c7
 try clear ID
 try clear EY
 try clear EF
 try clear C6
 try clear C2
 try clear Do
 try clear EC
 try clear Dl
 try clear ET
 try clear Dw
 try clear D7
 try clear Dm
 try clear EK
 try clear ER
 try clear Da
 try clear DF
 try clear Cy
 try clear Dg
 try clear EE
 try clear DW
 try clear ES
 try clear Di
 try clear Dd
 try clear Dz
 try clear EW
 try clear EI
 try clear D5
 try clear EG
 try clear EO
 try clear DB
 try clear C7
 try clear Dx
 try clear Ds
 try clear D0
 try clear Dr
 try clear D3
 try clear D6
 try clear DS
 try clear D4
 try clear EB
 try clear Db
 try clear EZ
 try clear DZ
 try clear C0
 try clear C8
 try clear EM
 try clear EP
 try clear D9
 try clear D1
 try clear Dc
 try clear EJ
 try clear Dk
 try clear D2
 try clear D8
 try clear DY
 try clear C5
 try clear DE
 try clear EV
 try clear De
 try clear EX
 try clear Dj
 try clear Du
 try clear Df
 try clear Dn
 try clear EU
 try clear Dt
 try clear Dh
 try clear EA
 try clear DX
 try clear DD
 try clear DC
 try clear EL
 try clear Dp
 try clear Dy
 try clear EQ
 try clear EH
 try clear Dq
 try clear Dv
 try clear ED
 try clear DT
 try clear EN
 obtain ⟨Bi, BJ, AJ, rfl, rfl, rfl, HA, Bl, AV, AC, AB, AA, AF, AE, HB⟩ := hrel
 cases gk with
 | zero => exact absurd HA.out (by simp [laws_FnSlacks.l0])
 | succ k3 => (
 have H := HA.out
 clear HA
 simp only [laws_FnSlacks.l0] at H
 by_cases E0 : AJ < (AG.length : Int)
 {
 rw [if_pos E0] at H
 have Ce : decide (AJ < (AG.length : Int)) = true := decide_eq_true E0
 clear E0
 obtain ⟨Aa, CL⟩ : ∃ j_ : Int, (wrap64 (AJ - 1)) = j_ := ⟨_, rfl⟩
 first | rw [CL] at H | simp only [CL] at H
 have Jq : (IntKind.i64.wrap (AJ - 1)) = Aa := (i64_w _).trans CL
 by_cases I5 : 0 ≤ (Aa)
 {
 rw [if_pos I5] at H
 have J6 : decide (0 ≤ (Aa)) = true := decide_eq_true I5
 clear I5
 by_cases JS : (Aa) < (AG.length : Int)
 {
 rw [if_pos JS] at H
 have KN : decide ((Aa) < (AG.length : Int)) = true := decide_eq_true JS
 clear JS
 by_cases JE : 0 ≤ AJ
 {
 rw [if_pos JE] at H
 have KB : decide (0 ≤ AJ) = true := decide_eq_true JE
 clear JE
 replace H := Option.bind_eq_some_iff.mp H
 obtain ⟨Cz, H7, H⟩ := H
 have JF := ak H7
 clear H7
 by_cases JP : Bi = true
 {
 subst JP
 rw [if_pos rfl] at H
 by_cases JA : BJ = true
 {
 subst JA
 rw [if_pos rfl] at H
 have H' := ak H
 clear H
 try go_wp2
 replace AV := ak (Kd.R_drew AV.out)
 replace AC := ak (Kd.R_drew AC.out)
 replace AB := ak (Kd.R_drew AB.out)
 replace AA := ak (blk_drew AA.out)
 replace AF := ak (blk_drew AF.out)
 replace AE := ak (blk_drew AE.out)
 replace HB := ak (below_drew1 HB.out)
 have BP : 0 ≤ ((Aa) : Int) := of_decide_eq_true (by first | (with_reducible assumption) | assumption)
 have BS : (Aa) < (AG.length : Int) := of_decide_eq_true (by first | (with_reducible assumption) | assumption)
 obtain ⟨Ac, DG, Aq, At⟩ := at_T62 (Kd.R_reads' AV.out).2.2 (Aa) BP BS
 cases DG
 replace BP := eq_true BP
 replace BS := eq_true BS
 have BQ : 0 ≤ (AJ : Int) := of_decide_eq_true (by first | (with_reducible assumption) | assumption)
 have BR : AJ < (AG.length : Int) := of_decide_eq_true (by first | (with_reducible assumption) | assumption)
 obtain ⟨CA, DK, As, Ar⟩ := at_T62 (Kd.R_reads' AV.out).2.2 AJ BQ BR
 obtain rfl : Ac = CA := (by injection DK)
 replace BQ := eq_true BQ
 replace BR := eq_true BR
 refine start_ (n := 12) (S := fun w' => w'.cell? ⟨AD, 0, none⟩ = some (.int .i8 AM) ∧ w'.cell? ⟨AD, 1, none⟩ = some (.int .i8 AN) ∧ w'.cell? ⟨AD, 2, none⟩ = some (.int .u16 AO) ∧ w'.cell? ⟨AD, 3, none⟩ = some (.int .u16 AP) ∧ w'.cell? ⟨AD, 4, none⟩ = some (.int .u16 AQ) ∧ w'.cell? ⟨AD, 5, none⟩ = some (.int .u16 AR) ∧ w'.cell? ⟨AD, 6, none⟩ = some (.int .u16 AS) ∧ w'.cell? ⟨AD, 7, none⟩ = some (.int .u16 AT) ∧ w'.cell? ⟨AD, 8, none⟩ = some (.int .u16 AU) ∧ w'.cell? ⟨AD, 9, none⟩ = some (.int .u16 AW) ∧ w'.cell? ⟨AD, 10, none⟩ = some (.int .u16 AX) ∧ w'.cell? ⟨AD, 11, none⟩ = some (.int .u16 AY) ∧ w'.cell? (Ac.add (((Aa)).toNat * 2)) = some (.int .i8 ((rd_T62 AG (Aa)).f0)) ∧ w'.cell? ⟨(Ac.add (((Aa)).toNat * 2)).block, (Ac.add (((Aa)).toNat * 2)).off + 1, none⟩ = some (.int .i8 ((rd_T62 AG (Aa)).f1)) ∧ w'.cell? (Ac.add ((AJ).toNat * 2)) = some (.int .i8 ((rd_T62 AG AJ).f0)) ∧ w'.cell? ⟨(Ac.add ((AJ).toNat * 2)).block, (Ac.add ((AJ).toNat * 2)).off + 1, none⟩ = some (.int .i8 ((rd_T62 AG AJ).f1))) (ds := []) (bA 12 0) (by kernel_rfl) rfl rfl ⟨(blk_cell AA.out 0).trans rfl, (blk_cell AA.out 1).trans rfl, (blk_cell AA.out 2).trans rfl, (blk_cell AA.out 3).trans rfl, (blk_cell AA.out 4).trans rfl, (blk_cell AA.out 5).trans rfl, (blk_cell AA.out 6).trans rfl, (blk_cell AA.out 7).trans rfl, (blk_cell AA.out 8).trans rfl, (blk_cell AA.out 9).trans rfl, (blk_cell AA.out 10).trans rfl, (blk_cell AA.out 11).trans rfl, Aq, At, As, Ar⟩ (fun hHeld => ?_); refine with_tabW laws_FnSlacks.tab14 laws_FnSlacks.bits14 (fun HT_ HW_ => ?_)
 generalize wr.drew = Ls at AV AC AB AA AF AE HB Aq At As Ar hHeld ⊢
 refine pU 1 75 (bA 12 2) HT_ ?_
 refine pU 2 76 (bA 12 6) HT_ ?_
 refine pU 3 77 (bA 12 14) HT_ ?_
 refine pU 4 78 (bA 12 30) HT_ ?_
 refine pU 6 80 (bA 12 94) HT_ ?_
 refine pU 7 81 (bA 12 222) HT_ ?_
 refine pU 8 82 (bA 12 478) HT_ ?_
 refine tK 0 74 (bA 12 479) HT_ HW_ hHeld ?_
 refine tK 5 79 (bA 12 511) HT_ HW_ hHeld ?_
 refine tK 9 83 (bA 12 1023) HT_ HW_ hHeld ?_
 refine one_ (i := 10) (N := some 84) (bA 12 2047) rfl rfl (one_of HT_.out (by kernel_rfl)) (by decide) (fun K hK => ?_)
 refine goes_ Try.func29 (by kernel_rfl) rfl #[.agg #[.int .i8 AM, .int .i8 AN, .int .u16 AO, .int .u16 AP, .int .u16 AQ, .int .u16 AR, .int .u16 AS, .int .u16 AT, .int .u16 AU, .int .u16 AW, .int .u16 AX, .int .u16 AY], .agg #[.int .i8 ((rd_T62 AG (Aa)).f0), .int .i8 ((rd_T62 AG (Aa)).f1)], .agg #[.int .i8 ((rd_T62 AG AJ).f0), .int .i8 ((rd_T62 AG AJ).f1)]] (by rfl) rfl rfl (by (try simp only [List.map_toArray, List.map_cons, List.map_nil]); first | done | (simp only [CL]; rfl) | rfl | (simp only [List.length_drop, List.length_take]; rfl)) ?_
 with_reducible refine (spec_P6Steps.calls k3 AM AN AO AP AQ AR AS AT AU AW AX AY ((rd_T62 AG (Aa)).f0) ((rd_T62 AG (Aa)).f1) ((rd_T62 AG AJ).f0) ((rd_T62 AG AJ).f1) Cz _ JF.out).mono ?_
 rintro e Ly ⟨rfl, hb⟩
 have B0 := (hb.cell (World.block_lt_of_cell? _ _ (hHeld.2.2.2.2.2.2.2.2.2.2.2.2.1))).trans (hHeld.2.2.2.2.2.2.2.2.2.2.2.2.1)
 have CB := (hb.cell (World.block_lt_of_cell? _ _ (hHeld.2.2.2.2.2.2.2.2.2.2.2.2.2.1))).trans (hHeld.2.2.2.2.2.2.2.2.2.2.2.2.2.1)
 have Ca := (hb.cell (World.block_lt_of_cell? _ _ (hHeld.2.2.2.2.2.2.2.2.2.2.2.2.2.2.1))).trans (hHeld.2.2.2.2.2.2.2.2.2.2.2.2.2.2.1)
 have B8 := (hb.cell (World.block_lt_of_cell? _ _ (hHeld.2.2.2.2.2.2.2.2.2.2.2.2.2.2.2))).trans (hHeld.2.2.2.2.2.2.2.2.2.2.2.2.2.2.2)
 refine ⟨_, rfl, ?_⟩
 replace AV := kR AV hb
 replace AC := kR AC hb
 replace AB := kR AB hb
 replace AA := kK AA hb
 replace AF := kK AF hb
 replace AE := kK AE hb
 replace HB := kB3 HB AH AI AK hb
 (try clear hb)
 refine hK.out _ _ ⟨(blk_cell AA.out 0).trans rfl, (blk_cell AA.out 1).trans rfl, (blk_cell AA.out 2).trans rfl, (blk_cell AA.out 3).trans rfl, (blk_cell AA.out 4).trans rfl, (blk_cell AA.out 5).trans rfl, (blk_cell AA.out 6).trans rfl, (blk_cell AA.out 7).trans rfl, (blk_cell AA.out 8).trans rfl, (blk_cell AA.out 9).trans rfl, (blk_cell AA.out 10).trans rfl, (blk_cell AA.out 11).trans rfl, B0, CB, Ca, B8⟩ (fun hHeld => ?_)
 clear hK K
 refine norm_ (a' := ?_) ?_ ?_
 rotate_left
 {
 show Act.put _ (some 84) _ = _
 simp only [Act.put, zs, zz, zk, i64_w, i32_w]
 rfl
 }
 refine pU 11 14 (bA 12 4095) HT_ ?_
 refine done_ (done_of HT_.out (by kernel_rfl)) ?_
 try go_wp2
 go_roundg k3
 case measure => have := Bj.out; have := Ay.out; have := Bl.out; omega
 case rel => exact ⟨(true), (true), (wrap64 (AJ + 1)), (by first | rfl | (simp; done) | (simp [*]; done)), (by first | rfl | (simp; done) | (simp [*]; done)), (by first | rfl | (simp; done) | (simp [*]; done)), H', ⟨by have := Bj.out; have := Ay.out; have := Bl.out; omega⟩, ⟨(zR AV.out)⟩, ⟨(zR AC.out)⟩, ⟨(zR AB.out)⟩, ⟨(zK AA.out)⟩, ⟨(zK AF.out)⟩, ⟨(zK AE.out)⟩, ⟨zH3 HB AH AI AK⟩⟩
 }
 {
 replace JA := Bool.eq_false_iff.mpr JA
 subst JA
 rw [if_neg (show ¬ (false = true) by decide)] at H
 have H' := ak H
 clear H
 try go_wp2
 replace AV := ak (Kd.R_drew AV.out)
 replace AC := ak (Kd.R_drew AC.out)
 replace AB := ak (Kd.R_drew AB.out)
 replace AA := ak (blk_drew AA.out)
 replace AF := ak (blk_drew AF.out)
 replace AE := ak (blk_drew AE.out)
 replace HB := ak (below_drew1 HB.out)
 have BP : 0 ≤ ((Aa) : Int) := of_decide_eq_true (by first | (with_reducible assumption) | assumption)
 have BS : (Aa) < (AG.length : Int) := of_decide_eq_true (by first | (with_reducible assumption) | assumption)
 obtain ⟨Ac, DG, Aq, At⟩ := at_T62 (Kd.R_reads' AV.out).2.2 (Aa) BP BS
 cases DG
 replace BP := eq_true BP
 replace BS := eq_true BS
 have BQ : 0 ≤ (AJ : Int) := of_decide_eq_true (by first | (with_reducible assumption) | assumption)
 have BR : AJ < (AG.length : Int) := of_decide_eq_true (by first | (with_reducible assumption) | assumption)
 obtain ⟨CA, DK, As, Ar⟩ := at_T62 (Kd.R_reads' AV.out).2.2 AJ BQ BR
 obtain rfl : Ac = CA := (by injection DK)
 replace BQ := eq_true BQ
 replace BR := eq_true BR
 refine start_ (n := 12) (S := fun w' => w'.cell? ⟨AD, 0, none⟩ = some (.int .i8 AM) ∧ w'.cell? ⟨AD, 1, none⟩ = some (.int .i8 AN) ∧ w'.cell? ⟨AD, 2, none⟩ = some (.int .u16 AO) ∧ w'.cell? ⟨AD, 3, none⟩ = some (.int .u16 AP) ∧ w'.cell? ⟨AD, 4, none⟩ = some (.int .u16 AQ) ∧ w'.cell? ⟨AD, 5, none⟩ = some (.int .u16 AR) ∧ w'.cell? ⟨AD, 6, none⟩ = some (.int .u16 AS) ∧ w'.cell? ⟨AD, 7, none⟩ = some (.int .u16 AT) ∧ w'.cell? ⟨AD, 8, none⟩ = some (.int .u16 AU) ∧ w'.cell? ⟨AD, 9, none⟩ = some (.int .u16 AW) ∧ w'.cell? ⟨AD, 10, none⟩ = some (.int .u16 AX) ∧ w'.cell? ⟨AD, 11, none⟩ = some (.int .u16 AY) ∧ w'.cell? (Ac.add (((Aa)).toNat * 2)) = some (.int .i8 ((rd_T62 AG (Aa)).f0)) ∧ w'.cell? ⟨(Ac.add (((Aa)).toNat * 2)).block, (Ac.add (((Aa)).toNat * 2)).off + 1, none⟩ = some (.int .i8 ((rd_T62 AG (Aa)).f1)) ∧ w'.cell? (Ac.add ((AJ).toNat * 2)) = some (.int .i8 ((rd_T62 AG AJ).f0)) ∧ w'.cell? ⟨(Ac.add ((AJ).toNat * 2)).block, (Ac.add ((AJ).toNat * 2)).off + 1, none⟩ = some (.int .i8 ((rd_T62 AG AJ).f1))) (ds := []) (bA 12 0) (by kernel_rfl) rfl rfl ⟨(blk_cell AA.out 0).trans rfl, (blk_cell AA.out 1).trans rfl, (blk_cell AA.out 2).trans rfl, (blk_cell AA.out 3).trans rfl, (blk_cell AA.out 4).trans rfl, (blk_cell AA.out 5).trans rfl, (blk_cell AA.out 6).trans rfl, (blk_cell AA.out 7).trans rfl, (blk_cell AA.out 8).trans rfl, (blk_cell AA.out 9).trans rfl, (blk_cell AA.out 10).trans rfl, (blk_cell AA.out 11).trans rfl, Aq, At, As, Ar⟩ (fun hHeld => ?_); refine with_tabW laws_FnSlacks.tab14 laws_FnSlacks.bits14 (fun HT_ HW_ => ?_)
 generalize wr.drew = Lo at AV AC AB AA AF AE HB Aq At As Ar hHeld ⊢
 refine pU 1 75 (bA 12 2) HT_ ?_
 refine pU 2 76 (bA 12 6) HT_ ?_
 refine pU 3 77 (bA 12 14) HT_ ?_
 refine pU 4 78 (bA 12 30) HT_ ?_
 refine pU 6 80 (bA 12 94) HT_ ?_
 refine pU 7 81 (bA 12 222) HT_ ?_
 refine pU 8 82 (bA 12 478) HT_ ?_
 refine tK 0 74 (bA 12 479) HT_ HW_ hHeld ?_
 refine tK 5 79 (bA 12 511) HT_ HW_ hHeld ?_
 refine tK 9 83 (bA 12 1023) HT_ HW_ hHeld ?_
 refine one_ (i := 10) (N := some 84) (bA 12 2047) rfl rfl (one_of HT_.out (by kernel_rfl)) (by decide) (fun K hK => ?_)
 refine goes_ Try.func29 (by kernel_rfl) rfl #[.agg #[.int .i8 AM, .int .i8 AN, .int .u16 AO, .int .u16 AP, .int .u16 AQ, .int .u16 AR, .int .u16 AS, .int .u16 AT, .int .u16 AU, .int .u16 AW, .int .u16 AX, .int .u16 AY], .agg #[.int .i8 ((rd_T62 AG (Aa)).f0), .int .i8 ((rd_T62 AG (Aa)).f1)], .agg #[.int .i8 ((rd_T62 AG AJ).f0), .int .i8 ((rd_T62 AG AJ).f1)]] (by rfl) rfl rfl (by (try simp only [List.map_toArray, List.map_cons, List.map_nil]); first | done | (simp only [CL]; rfl) | rfl | (simp only [List.length_drop, List.length_take]; rfl)) ?_
 with_reducible refine (spec_P6Steps.calls k3 AM AN AO AP AQ AR AS AT AU AW AX AY ((rd_T62 AG (Aa)).f0) ((rd_T62 AG (Aa)).f1) ((rd_T62 AG AJ).f0) ((rd_T62 AG AJ).f1) Cz _ JF.out).mono ?_
 rintro e Lr ⟨rfl, hb⟩
 have B0 := (hb.cell (World.block_lt_of_cell? _ _ (hHeld.2.2.2.2.2.2.2.2.2.2.2.2.1))).trans (hHeld.2.2.2.2.2.2.2.2.2.2.2.2.1)
 have CB := (hb.cell (World.block_lt_of_cell? _ _ (hHeld.2.2.2.2.2.2.2.2.2.2.2.2.2.1))).trans (hHeld.2.2.2.2.2.2.2.2.2.2.2.2.2.1)
 have Ca := (hb.cell (World.block_lt_of_cell? _ _ (hHeld.2.2.2.2.2.2.2.2.2.2.2.2.2.2.1))).trans (hHeld.2.2.2.2.2.2.2.2.2.2.2.2.2.2.1)
 have B8 := (hb.cell (World.block_lt_of_cell? _ _ (hHeld.2.2.2.2.2.2.2.2.2.2.2.2.2.2.2))).trans (hHeld.2.2.2.2.2.2.2.2.2.2.2.2.2.2.2)
 refine ⟨_, rfl, ?_⟩
 replace AV := kR AV hb
 replace AC := kR AC hb
 replace AB := kR AB hb
 replace AA := kK AA hb
 replace AF := kK AF hb
 replace AE := kK AE hb
 replace HB := kB3 HB AH AI AK hb
 (try clear hb)
 refine hK.out _ _ ⟨(blk_cell AA.out 0).trans rfl, (blk_cell AA.out 1).trans rfl, (blk_cell AA.out 2).trans rfl, (blk_cell AA.out 3).trans rfl, (blk_cell AA.out 4).trans rfl, (blk_cell AA.out 5).trans rfl, (blk_cell AA.out 6).trans rfl, (blk_cell AA.out 7).trans rfl, (blk_cell AA.out 8).trans rfl, (blk_cell AA.out 9).trans rfl, (blk_cell AA.out 10).trans rfl, (blk_cell AA.out 11).trans rfl, B0, CB, Ca, B8⟩ (fun hHeld => ?_)
 clear hK K
 refine norm_ (a' := ?_) ?_ ?_
 rotate_left
 {
 show Act.put _ (some 84) _ = _
 simp only [Act.put, zs, zz, zk, i64_w, i32_w]
 rfl
 }
 refine pU 11 14 (bA 12 4095) HT_ ?_
 refine done_ (done_of HT_.out (by kernel_rfl)) ?_
 try go_wp2
 go_roundg k3
 case measure => have := Bj.out; have := Ay.out; have := Bl.out; omega
 case rel => exact ⟨(true), ((Cz == 0)), (wrap64 (AJ + 1)), (by first | rfl | (simp; done) | (simp [*]; done)), (by first | rfl | (simp; done) | (simp [*]; done)), (by first | rfl | (simp; done) | (simp [*]; done)), H', ⟨by have := Bj.out; have := Ay.out; have := Bl.out; omega⟩, ⟨(zR AV.out)⟩, ⟨(zR AC.out)⟩, ⟨(zR AB.out)⟩, ⟨(zK AA.out)⟩, ⟨(zK AF.out)⟩, ⟨(zK AE.out)⟩, ⟨zH3 HB AH AI AK⟩⟩
 }
 }
 {
 replace JP := Bool.eq_false_iff.mpr JP
 subst JP
 rw [if_neg (show ¬ (false = true) by decide)] at H
 by_cases JK : BJ = true
 {
 subst JK
 rw [if_pos rfl] at H
 have H' := ak H
 clear H
 try go_wp2
 replace AV := ak (Kd.R_drew AV.out)
 replace AC := ak (Kd.R_drew AC.out)
 replace AB := ak (Kd.R_drew AB.out)
 replace AA := ak (blk_drew AA.out)
 replace AF := ak (blk_drew AF.out)
 replace AE := ak (blk_drew AE.out)
 replace HB := ak (below_drew1 HB.out)
 have BP : 0 ≤ ((Aa) : Int) := of_decide_eq_true (by first | (with_reducible assumption) | assumption)
 have BS : (Aa) < (AG.length : Int) := of_decide_eq_true (by first | (with_reducible assumption) | assumption)
 obtain ⟨Ac, DG, Aq, At⟩ := at_T62 (Kd.R_reads' AV.out).2.2 (Aa) BP BS
 cases DG
 replace BP := eq_true BP
 replace BS := eq_true BS
 have BQ : 0 ≤ (AJ : Int) := of_decide_eq_true (by first | (with_reducible assumption) | assumption)
 have BR : AJ < (AG.length : Int) := of_decide_eq_true (by first | (with_reducible assumption) | assumption)
 obtain ⟨CA, DK, As, Ar⟩ := at_T62 (Kd.R_reads' AV.out).2.2 AJ BQ BR
 obtain rfl : Ac = CA := (by injection DK)
 replace BQ := eq_true BQ
 replace BR := eq_true BR
 refine start_ (n := 12) (S := fun w' => w'.cell? ⟨AD, 0, none⟩ = some (.int .i8 AM) ∧ w'.cell? ⟨AD, 1, none⟩ = some (.int .i8 AN) ∧ w'.cell? ⟨AD, 2, none⟩ = some (.int .u16 AO) ∧ w'.cell? ⟨AD, 3, none⟩ = some (.int .u16 AP) ∧ w'.cell? ⟨AD, 4, none⟩ = some (.int .u16 AQ) ∧ w'.cell? ⟨AD, 5, none⟩ = some (.int .u16 AR) ∧ w'.cell? ⟨AD, 6, none⟩ = some (.int .u16 AS) ∧ w'.cell? ⟨AD, 7, none⟩ = some (.int .u16 AT) ∧ w'.cell? ⟨AD, 8, none⟩ = some (.int .u16 AU) ∧ w'.cell? ⟨AD, 9, none⟩ = some (.int .u16 AW) ∧ w'.cell? ⟨AD, 10, none⟩ = some (.int .u16 AX) ∧ w'.cell? ⟨AD, 11, none⟩ = some (.int .u16 AY) ∧ w'.cell? (Ac.add (((Aa)).toNat * 2)) = some (.int .i8 ((rd_T62 AG (Aa)).f0)) ∧ w'.cell? ⟨(Ac.add (((Aa)).toNat * 2)).block, (Ac.add (((Aa)).toNat * 2)).off + 1, none⟩ = some (.int .i8 ((rd_T62 AG (Aa)).f1)) ∧ w'.cell? (Ac.add ((AJ).toNat * 2)) = some (.int .i8 ((rd_T62 AG AJ).f0)) ∧ w'.cell? ⟨(Ac.add ((AJ).toNat * 2)).block, (Ac.add ((AJ).toNat * 2)).off + 1, none⟩ = some (.int .i8 ((rd_T62 AG AJ).f1))) (ds := []) (bA 12 0) (by kernel_rfl) rfl rfl ⟨(blk_cell AA.out 0).trans rfl, (blk_cell AA.out 1).trans rfl, (blk_cell AA.out 2).trans rfl, (blk_cell AA.out 3).trans rfl, (blk_cell AA.out 4).trans rfl, (blk_cell AA.out 5).trans rfl, (blk_cell AA.out 6).trans rfl, (blk_cell AA.out 7).trans rfl, (blk_cell AA.out 8).trans rfl, (blk_cell AA.out 9).trans rfl, (blk_cell AA.out 10).trans rfl, (blk_cell AA.out 11).trans rfl, Aq, At, As, Ar⟩ (fun hHeld => ?_); refine with_tabW laws_FnSlacks.tab14 laws_FnSlacks.bits14 (fun HT_ HW_ => ?_)
 generalize wr.drew = Ll at AV AC AB AA AF AE HB Aq At As Ar hHeld ⊢
 refine pU 1 75 (bA 12 2) HT_ ?_
 refine pU 2 76 (bA 12 6) HT_ ?_
 refine pU 3 77 (bA 12 14) HT_ ?_
 refine pU 4 78 (bA 12 30) HT_ ?_
 refine pU 6 80 (bA 12 94) HT_ ?_
 refine pU 7 81 (bA 12 222) HT_ ?_
 refine pU 8 82 (bA 12 478) HT_ ?_
 refine tK 0 74 (bA 12 479) HT_ HW_ hHeld ?_
 refine tK 5 79 (bA 12 511) HT_ HW_ hHeld ?_
 refine tK 9 83 (bA 12 1023) HT_ HW_ hHeld ?_
 refine one_ (i := 10) (N := some 84) (bA 12 2047) rfl rfl (one_of HT_.out (by kernel_rfl)) (by decide) (fun K hK => ?_)
 refine goes_ Try.func29 (by kernel_rfl) rfl #[.agg #[.int .i8 AM, .int .i8 AN, .int .u16 AO, .int .u16 AP, .int .u16 AQ, .int .u16 AR, .int .u16 AS, .int .u16 AT, .int .u16 AU, .int .u16 AW, .int .u16 AX, .int .u16 AY], .agg #[.int .i8 ((rd_T62 AG (Aa)).f0), .int .i8 ((rd_T62 AG (Aa)).f1)], .agg #[.int .i8 ((rd_T62 AG AJ).f0), .int .i8 ((rd_T62 AG AJ).f1)]] (by rfl) rfl rfl (by (try simp only [List.map_toArray, List.map_cons, List.map_nil]); first | done | (simp only [CL]; rfl) | rfl | (simp only [List.length_drop, List.length_take]; rfl)) ?_
 with_reducible refine (spec_P6Steps.calls k3 AM AN AO AP AQ AR AS AT AU AW AX AY ((rd_T62 AG (Aa)).f0) ((rd_T62 AG (Aa)).f1) ((rd_T62 AG AJ).f0) ((rd_T62 AG AJ).f1) Cz _ JF.out).mono ?_
 rintro e Li ⟨rfl, hb⟩
 have B0 := (hb.cell (World.block_lt_of_cell? _ _ (hHeld.2.2.2.2.2.2.2.2.2.2.2.2.1))).trans (hHeld.2.2.2.2.2.2.2.2.2.2.2.2.1)
 have CB := (hb.cell (World.block_lt_of_cell? _ _ (hHeld.2.2.2.2.2.2.2.2.2.2.2.2.2.1))).trans (hHeld.2.2.2.2.2.2.2.2.2.2.2.2.2.1)
 have Ca := (hb.cell (World.block_lt_of_cell? _ _ (hHeld.2.2.2.2.2.2.2.2.2.2.2.2.2.2.1))).trans (hHeld.2.2.2.2.2.2.2.2.2.2.2.2.2.2.1)
 have B8 := (hb.cell (World.block_lt_of_cell? _ _ (hHeld.2.2.2.2.2.2.2.2.2.2.2.2.2.2.2))).trans (hHeld.2.2.2.2.2.2.2.2.2.2.2.2.2.2.2)
 refine ⟨_, rfl, ?_⟩
 replace AV := kR AV hb
 replace AC := kR AC hb
 replace AB := kR AB hb
 replace AA := kK AA hb
 replace AF := kK AF hb
 replace AE := kK AE hb
 replace HB := kB3 HB AH AI AK hb
 (try clear hb)
 refine hK.out _ _ ⟨(blk_cell AA.out 0).trans rfl, (blk_cell AA.out 1).trans rfl, (blk_cell AA.out 2).trans rfl, (blk_cell AA.out 3).trans rfl, (blk_cell AA.out 4).trans rfl, (blk_cell AA.out 5).trans rfl, (blk_cell AA.out 6).trans rfl, (blk_cell AA.out 7).trans rfl, (blk_cell AA.out 8).trans rfl, (blk_cell AA.out 9).trans rfl, (blk_cell AA.out 10).trans rfl, (blk_cell AA.out 11).trans rfl, B0, CB, Ca, B8⟩ (fun hHeld => ?_)
 clear hK K
 refine norm_ (a' := ?_) ?_ ?_
 rotate_left
 {
 show Act.put _ (some 84) _ = _
 simp only [Act.put, zs, zz, zk, i64_w, i32_w]
 rfl
 }
 refine pU 11 14 (bA 12 4095) HT_ ?_
 refine done_ (done_of HT_.out (by kernel_rfl)) ?_
 try go_wp2
 go_roundg k3
 case measure => have := Bj.out; have := Ay.out; have := Bl.out; omega
 case rel => exact ⟨(decide (Cz < 0)), (true), (wrap64 (AJ + 1)), (by first | rfl | (simp; done) | (simp [*]; done)), (by first | rfl | (simp; done) | (simp [*]; done)), (by first | rfl | (simp; done) | (simp [*]; done)), H', ⟨by have := Bj.out; have := Ay.out; have := Bl.out; omega⟩, ⟨(zR AV.out)⟩, ⟨(zR AC.out)⟩, ⟨(zR AB.out)⟩, ⟨(zK AA.out)⟩, ⟨(zK AF.out)⟩, ⟨(zK AE.out)⟩, ⟨zH3 HB AH AI AK⟩⟩
 }
 {
 replace JK := Bool.eq_false_iff.mpr JK
 subst JK
 rw [if_neg (show ¬ (false = true) by decide)] at H
 have H' := ak H
 clear H
 try go_wp2
 replace AV := ak (Kd.R_drew AV.out)
 replace AC := ak (Kd.R_drew AC.out)
 replace AB := ak (Kd.R_drew AB.out)
 replace AA := ak (blk_drew AA.out)
 replace AF := ak (blk_drew AF.out)
 replace AE := ak (blk_drew AE.out)
 replace HB := ak (below_drew1 HB.out)
 have BP : 0 ≤ ((Aa) : Int) := of_decide_eq_true (by first | (with_reducible assumption) | assumption)
 have BS : (Aa) < (AG.length : Int) := of_decide_eq_true (by first | (with_reducible assumption) | assumption)
 obtain ⟨Ac, DG, Aq, At⟩ := at_T62 (Kd.R_reads' AV.out).2.2 (Aa) BP BS
 cases DG
 replace BP := eq_true BP
 replace BS := eq_true BS
 have BQ : 0 ≤ (AJ : Int) := of_decide_eq_true (by first | (with_reducible assumption) | assumption)
 have BR : AJ < (AG.length : Int) := of_decide_eq_true (by first | (with_reducible assumption) | assumption)
 obtain ⟨CA, DK, As, Ar⟩ := at_T62 (Kd.R_reads' AV.out).2.2 AJ BQ BR
 obtain rfl : Ac = CA := (by injection DK)
 replace BQ := eq_true BQ
 replace BR := eq_true BR
 refine start_ (n := 12) (S := fun w' => w'.cell? ⟨AD, 0, none⟩ = some (.int .i8 AM) ∧ w'.cell? ⟨AD, 1, none⟩ = some (.int .i8 AN) ∧ w'.cell? ⟨AD, 2, none⟩ = some (.int .u16 AO) ∧ w'.cell? ⟨AD, 3, none⟩ = some (.int .u16 AP) ∧ w'.cell? ⟨AD, 4, none⟩ = some (.int .u16 AQ) ∧ w'.cell? ⟨AD, 5, none⟩ = some (.int .u16 AR) ∧ w'.cell? ⟨AD, 6, none⟩ = some (.int .u16 AS) ∧ w'.cell? ⟨AD, 7, none⟩ = some (.int .u16 AT) ∧ w'.cell? ⟨AD, 8, none⟩ = some (.int .u16 AU) ∧ w'.cell? ⟨AD, 9, none⟩ = some (.int .u16 AW) ∧ w'.cell? ⟨AD, 10, none⟩ = some (.int .u16 AX) ∧ w'.cell? ⟨AD, 11, none⟩ = some (.int .u16 AY) ∧ w'.cell? (Ac.add (((Aa)).toNat * 2)) = some (.int .i8 ((rd_T62 AG (Aa)).f0)) ∧ w'.cell? ⟨(Ac.add (((Aa)).toNat * 2)).block, (Ac.add (((Aa)).toNat * 2)).off + 1, none⟩ = some (.int .i8 ((rd_T62 AG (Aa)).f1)) ∧ w'.cell? (Ac.add ((AJ).toNat * 2)) = some (.int .i8 ((rd_T62 AG AJ).f0)) ∧ w'.cell? ⟨(Ac.add ((AJ).toNat * 2)).block, (Ac.add ((AJ).toNat * 2)).off + 1, none⟩ = some (.int .i8 ((rd_T62 AG AJ).f1))) (ds := []) (bA 12 0) (by kernel_rfl) rfl rfl ⟨(blk_cell AA.out 0).trans rfl, (blk_cell AA.out 1).trans rfl, (blk_cell AA.out 2).trans rfl, (blk_cell AA.out 3).trans rfl, (blk_cell AA.out 4).trans rfl, (blk_cell AA.out 5).trans rfl, (blk_cell AA.out 6).trans rfl, (blk_cell AA.out 7).trans rfl, (blk_cell AA.out 8).trans rfl, (blk_cell AA.out 9).trans rfl, (blk_cell AA.out 10).trans rfl, (blk_cell AA.out 11).trans rfl, Aq, At, As, Ar⟩ (fun hHeld => ?_); refine with_tabW laws_FnSlacks.tab14 laws_FnSlacks.bits14 (fun HT_ HW_ => ?_)
 generalize wr.drew = Lz at AV AC AB AA AF AE HB Aq At As Ar hHeld ⊢
 refine pU 1 75 (bA 12 2) HT_ ?_
 refine pU 2 76 (bA 12 6) HT_ ?_
 refine pU 3 77 (bA 12 14) HT_ ?_
 refine pU 4 78 (bA 12 30) HT_ ?_
 refine pU 6 80 (bA 12 94) HT_ ?_
 refine pU 7 81 (bA 12 222) HT_ ?_
 refine pU 8 82 (bA 12 478) HT_ ?_
 refine tK 0 74 (bA 12 479) HT_ HW_ hHeld ?_
 refine tK 5 79 (bA 12 511) HT_ HW_ hHeld ?_
 refine tK 9 83 (bA 12 1023) HT_ HW_ hHeld ?_
 refine one_ (i := 10) (N := some 84) (bA 12 2047) rfl rfl (one_of HT_.out (by kernel_rfl)) (by decide) (fun K hK => ?_)
 refine goes_ Try.func29 (by kernel_rfl) rfl #[.agg #[.int .i8 AM, .int .i8 AN, .int .u16 AO, .int .u16 AP, .int .u16 AQ, .int .u16 AR, .int .u16 AS, .int .u16 AT, .int .u16 AU, .int .u16 AW, .int .u16 AX, .int .u16 AY], .agg #[.int .i8 ((rd_T62 AG (Aa)).f0), .int .i8 ((rd_T62 AG (Aa)).f1)], .agg #[.int .i8 ((rd_T62 AG AJ).f0), .int .i8 ((rd_T62 AG AJ).f1)]] (by rfl) rfl rfl (by (try simp only [List.map_toArray, List.map_cons, List.map_nil]); first | done | (simp only [CL]; rfl) | rfl | (simp only [List.length_drop, List.length_take]; rfl)) ?_
 with_reducible refine (spec_P6Steps.calls k3 AM AN AO AP AQ AR AS AT AU AW AX AY ((rd_T62 AG (Aa)).f0) ((rd_T62 AG (Aa)).f1) ((rd_T62 AG AJ).f0) ((rd_T62 AG AJ).f1) Cz _ JF.out).mono ?_
 rintro e Lp ⟨rfl, hb⟩
 have B0 := (hb.cell (World.block_lt_of_cell? _ _ (hHeld.2.2.2.2.2.2.2.2.2.2.2.2.1))).trans (hHeld.2.2.2.2.2.2.2.2.2.2.2.2.1)
 have CB := (hb.cell (World.block_lt_of_cell? _ _ (hHeld.2.2.2.2.2.2.2.2.2.2.2.2.2.1))).trans (hHeld.2.2.2.2.2.2.2.2.2.2.2.2.2.1)
 have Ca := (hb.cell (World.block_lt_of_cell? _ _ (hHeld.2.2.2.2.2.2.2.2.2.2.2.2.2.2.1))).trans (hHeld.2.2.2.2.2.2.2.2.2.2.2.2.2.2.1)
 have B8 := (hb.cell (World.block_lt_of_cell? _ _ (hHeld.2.2.2.2.2.2.2.2.2.2.2.2.2.2.2))).trans (hHeld.2.2.2.2.2.2.2.2.2.2.2.2.2.2.2)
 refine ⟨_, rfl, ?_⟩
 replace AV := kR AV hb
 replace AC := kR AC hb
 replace AB := kR AB hb
 replace AA := kK AA hb
 replace AF := kK AF hb
 replace AE := kK AE hb
 replace HB := kB3 HB AH AI AK hb
 (try clear hb)
 refine hK.out _ _ ⟨(blk_cell AA.out 0).trans rfl, (blk_cell AA.out 1).trans rfl, (blk_cell AA.out 2).trans rfl, (blk_cell AA.out 3).trans rfl, (blk_cell AA.out 4).trans rfl, (blk_cell AA.out 5).trans rfl, (blk_cell AA.out 6).trans rfl, (blk_cell AA.out 7).trans rfl, (blk_cell AA.out 8).trans rfl, (blk_cell AA.out 9).trans rfl, (blk_cell AA.out 10).trans rfl, (blk_cell AA.out 11).trans rfl, B0, CB, Ca, B8⟩ (fun hHeld => ?_)
 clear hK K
 refine norm_ (a' := ?_) ?_ ?_
 rotate_left
 {
 show Act.put _ (some 84) _ = _
 simp only [Act.put, zs, zz, zk, i64_w, i32_w]
 rfl
 }
 refine pU 11 14 (bA 12 4095) HT_ ?_
 refine done_ (done_of HT_.out (by kernel_rfl)) ?_
 try go_wp2
 go_roundg k3
 case measure => have := Bj.out; have := Ay.out; have := Bl.out; omega
 case rel => exact ⟨(decide (Cz < 0)), ((Cz == 0)), (wrap64 (AJ + 1)), (by first | rfl | (simp; done) | (simp [*]; done)), (by first | rfl | (simp; done) | (simp [*]; done)), (by first | rfl | (simp; done) | (simp [*]; done)), H', ⟨by have := Bj.out; have := Ay.out; have := Bl.out; omega⟩, ⟨(zR AV.out)⟩, ⟨(zR AC.out)⟩, ⟨(zR AB.out)⟩, ⟨(zK AA.out)⟩, ⟨(zK AF.out)⟩, ⟨(zK AE.out)⟩, ⟨zH3 HB AH AI AK⟩⟩
 }
 }
 }
 · rw [if_neg JE] at H; exact absurd H (by simp)
 }
 · rw [if_neg JS] at H; exact absurd H (by simp)
 }
 · rw [if_neg I5] at H; exact absurd H (by simp)
 }
 {
 rw [if_neg E0] at H
 have Ce : decide (AJ < (AG.length : Int)) = false := decide_eq_false E0
 clear E0
 have HR := ak H
 clear H
 go_upto_region 17 with (fail)
 go_cut [103] (fun J2 wc => ∃ (kq : Nat) (Bo : Bool), J2 = .bool Bo ∧ Aside0 (laws_FnSlacks.j3 kq l0 l1 AG Ab Bi BJ Bo AM AN AO AP AQ AR AS AT AU AW AX AY Ag AL = some r) ∧ Aside0 (kq ≤ k3) ∧ Aside0 (Kd.R k62 62 wc w.heap.size (fun _ => True) (.slice Cw AG.length Cr) AG) ∧ Aside0 (Kd.R (Kd.int .i16) 29 wc w.heap.size (fun k_ => some k_ ≠ ((.slice Af AL.length Ae) : Value).ownBlock) (.slice Aj Ad.length Ai) Ad) ∧ Aside0 (Kd.R (Kd.int .i16) 29 wc w.heap.size (fun k_ => some k_ ≠ ((.slice Aj Ad.length Ai) : Value).ownBlock) (.slice Af AL.length Ae) AL) ∧ Aside0 (wc.heap[AD]? = some (.cells #[.int .i8 AM, .int .i8 AN, .int .u16 AO, .int .u16 AP, .int .u16 AQ, .int .u16 AR, .int .u16 AS, .int .u16 AT, .int .u16 AU, .int .u16 AW, .int .u16 AX, .int .u16 AY] 35 (0, 0))) ∧ Aside0 (wc.heap[An]? = some (.cells #[.int .i16 BF, (.slice Aj Ad.length Ai)] 32 (0, 0))) ∧ Aside0 (wc.heap[AZ]? = some (.cells #[.int .i16 Ag, (.slice Af AL.length Ae)] 32 (0, 0))) ∧ Aside0 (Below w.heap.size w wc))
 case first => (
 have H := HR.out
 clear HR
 by_cases Hl : (AG.length : Int) < 2
 {
 rw [if_pos Hl] at H
 have C1 : decide ((AG.length : Int) < 2) = true := decide_eq_true Hl
 have Hu : decide (AG.length < 2) = true := decide_eq_true (by omega)
 clear Hl
 (first | rw [C1] | (simp only [i64_w, i32_w]; rw [C1]) | skip)
 have H' := ak H
 clear H
 go_wp2
 go_meet
 case rel => exact ⟨_, (true), (by first | rfl | (simp; done) | (simp [*]; done)), H', ⟨by have := Bj.out; have := Ay.out; have := Bl.out; first | omega | exact Nat.le_refl _⟩, ⟨(zR AV.out)⟩, ⟨(zR AC.out)⟩, ⟨(zR AB.out)⟩, ⟨(zK AA.out)⟩, ⟨(zK AF.out)⟩, ⟨(zK AE.out)⟩, ⟨zH3 HB AH AI AK⟩⟩
 }
 {
 rw [if_neg Hl] at H
 have C1 : decide ((AG.length : Int) < 2) = false := decide_eq_false Hl
 have Hu : decide (AG.length < 2) = false := decide_eq_false (by omega)
 clear Hl
 (first | rw [C1] | (simp only [i64_w, i32_w]; rw [C1]) | skip)
 by_cases I9 : Bi = true
 {
 subst I9
 rw [if_pos rfl] at H
 have H' := ak H
 clear H
 go_wp2
 go_meet
 case rel => exact ⟨_, (true), (by first | rfl | (simp; done) | (simp [*]; done)), H', ⟨by have := Bj.out; have := Ay.out; have := Bl.out; first | omega | exact Nat.le_refl _⟩, ⟨(zR AV.out)⟩, ⟨(zR AC.out)⟩, ⟨(zR AB.out)⟩, ⟨(zK AA.out)⟩, ⟨(zK AF.out)⟩, ⟨(zK AE.out)⟩, ⟨zH3 HB AH AI AK⟩⟩
 }
 {
 replace I9 := Bool.eq_false_iff.mpr I9
 subst I9
 rw [if_neg (show ¬ (false = true) by decide)] at H
 have H' := ak H
 clear H
 go_wp2
 go_meet
 case rel => exact ⟨_, (BJ), (by first | rfl | (simp; done) | (simp [*]; done)), H', ⟨by have := Bj.out; have := Ay.out; have := Bl.out; first | omega | exact Nat.le_refl _⟩, ⟨(zR AV.out)⟩, ⟨(zR AC.out)⟩, ⟨(zR AB.out)⟩, ⟨(zK AA.out)⟩, ⟨(zK AF.out)⟩, ⟨(zK AE.out)⟩, ⟨zH3 HB AH AI AK⟩⟩
 }
 }
 )
 case rest => (
 as_aux_lemma =>
 clear HR
 try clear E0
 try clear Ce
 obtain ⟨kq, Bo, rfl, HA, Bc, AV, AC, AB, AA, AF, AE, HB⟩ := hcut
 cases kq with
 | zero => exact absurd HA.out (by simp [laws_FnSlacks.j3])
 | succ Ir => (
 have H := HA.out
 clear HA
 simp only [laws_FnSlacks.j3] at H
 by_cases Gp : Bo = true
 {
 subst Gp
 rw [if_pos rfl] at H
 by_cases HF : Ab = 2
 {
 rw [if_pos HF] at H
 have H5 : (Ab == 2) = true := beq_iff_eq.mpr HF
 have Id : (Ab != 2) = false := bne_eq_false_iff_eq.mpr HF
 clear HF
 by_cases Hh : (AG.length : Int) < 2
 {
 rw [if_pos Hh] at H
 have IQ : decide ((AG.length : Int) < 2) = true := decide_eq_true Hh
 have H6 : decide (AG.length < 2) = true := decide_eq_true (by omega)
 clear Hh
 obtain rfl := Option.some.inj H
 go_wp2
 go_ret
 exact ⟨by first | rfl | (simp [errW_none, errW_some] <;> rfl) | (simp [*, errW_none, errW_some] <;> rfl), zH3 HB AH AI AK⟩
 }
 {
 rw [if_neg Hh] at H
 have IQ : decide ((AG.length : Int) < 2) = false := decide_eq_false Hh
 have H6 : decide (AG.length < 2) = false := decide_eq_false (by omega)
 clear Hh
 by_cases HI : Ab = 6
 {
 rw [if_pos HI] at H
 have H8 : (Ab == 6) = true := beq_iff_eq.mpr HI
 have IK : (Ab != 6) = false := bne_eq_false_iff_eq.mpr HI
 clear HI
 by_cases I1 : Bi = true
 {
 subst I1
 rw [if_pos rfl] at H
 obtain rfl := Option.some.inj H
 go_wp2
 go_ret
 exact ⟨by first | rfl | (simp [errW_none, errW_some] <;> rfl) | (simp [*, errW_none, errW_some] <;> rfl), zH3 HB AH AI AK⟩
 }
 {
 replace I1 := Bool.eq_false_iff.mpr I1
 subst I1
 rw [if_neg (show ¬ (false = true) by decide)] at H
 by_cases Ha : Ab = 4
 {
 rw [if_pos Ha] at H
 have IV : (Ab == 4) = true := beq_iff_eq.mpr Ha
 have Ip : (Ab != 4) = false := bne_eq_false_iff_eq.mpr Ha
 clear Ha
 by_cases JT : BJ = true
 {
 subst JT
 rw [if_pos rfl] at H
 obtain rfl := Option.some.inj H
 go_wp2
 go_ret
 exact ⟨by first | rfl | (simp [errW_none, errW_some] <;> rfl) | (simp [*, errW_none, errW_some] <;> rfl), zH3 HB AH AI AK⟩
 }
 {
 replace JT := Bool.eq_false_iff.mpr JT
 subst JT
 rw [if_neg (show ¬ (false = true) by decide)] at H
 exact absurd ((Option.some.inj H).trans HT.out) (by decide)
 }
 }
 · rw [if_neg Ha] at H; have IV : (Ab == 4) = false := beq_eq_false_iff_ne.mpr Ha; have Ip : (Ab != 4) = true := bne_iff_ne.mpr Ha; exact absurd ((Option.some.inj H).trans HT.out) (by decide)
 }
 }
 {
 rw [if_neg HI] at H
 have H8 : (Ab == 6) = false := beq_eq_false_iff_ne.mpr HI
 have IK : (Ab != 6) = true := bne_iff_ne.mpr HI
 by_cases HD : Ab = 4
 {
 rw [if_pos HD] at H
 have IP : (Ab == 4) = true := beq_iff_eq.mpr HD
 have Hp : (Ab != 4) = false := bne_eq_false_iff_eq.mpr HD
 clear HD
 by_cases I3 : BJ = true
 {
 subst I3
 rw [if_pos rfl] at H
 obtain rfl := Option.some.inj H
 go_wp2
 go_ret
 exact ⟨by first | rfl | (simp [errW_none, errW_some] <;> rfl) | (simp [*, errW_none, errW_some] <;> rfl), zH3 HB AH AI AK⟩
 }
 {
 replace I3 := Bool.eq_false_iff.mpr I3
 subst I3
 rw [if_neg (show ¬ (false = true) by decide)] at H
 exact absurd ((Option.some.inj H).trans HT.out) (by decide)
 }
 }
 · rw [if_neg HD] at H; have IP : (Ab == 4) = false := beq_eq_false_iff_ne.mpr HD; have Hp : (Ab != 4) = true := bne_iff_ne.mpr HD; exact absurd ((Option.some.inj H).trans HT.out) (by decide)
 }
 }
 }
 {
 rw [if_neg HF] at H
 have H5 : (Ab == 2) = false := beq_eq_false_iff_ne.mpr HF
 have Id : (Ab != 2) = true := bne_iff_ne.mpr HF
 by_cases HN : Ab = 6
 {
 rw [if_pos HN] at H
 have IN : (Ab == 6) = true := beq_iff_eq.mpr HN
 have Io : (Ab != 6) = false := bne_eq_false_iff_eq.mpr HN
 clear HN
 by_cases JI : Bi = true
 {
 subst JI
 rw [if_pos rfl] at H
 obtain rfl := Option.some.inj H
 go_wp2
 go_ret
 exact ⟨by first | rfl | (simp [errW_none, errW_some] <;> rfl) | (simp [*, errW_none, errW_some] <;> rfl), zH3 HB AH AI AK⟩
 }
 {
 replace JI := Bool.eq_false_iff.mpr JI
 subst JI
 rw [if_neg (show ¬ (false = true) by decide)] at H
 by_cases Hd : Ab = 4
 {
 rw [if_pos Hd] at H
 have Ij : (Ab == 4) = true := beq_iff_eq.mpr Hd
 have IE : (Ab != 4) = false := bne_eq_false_iff_eq.mpr Hd
 clear Hd
 by_cases I4 : BJ = true
 {
 subst I4
 rw [if_pos rfl] at H
 obtain rfl := Option.some.inj H
 go_wp2
 go_ret
 exact ⟨by first | rfl | (simp [errW_none, errW_some] <;> rfl) | (simp [*, errW_none, errW_some] <;> rfl), zH3 HB AH AI AK⟩
 }
 {
 replace I4 := Bool.eq_false_iff.mpr I4
 subst I4
 rw [if_neg (show ¬ (false = true) by decide)] at H
 exact absurd ((Option.some.inj H).trans HT.out) (by decide)
 }
 }
 · rw [if_neg Hd] at H; have Ij : (Ab == 4) = false := beq_eq_false_iff_ne.mpr Hd; have IE : (Ab != 4) = true := bne_iff_ne.mpr Hd; exact absurd ((Option.some.inj H).trans HT.out) (by decide)
 }
 }
 {
 rw [if_neg HN] at H
 have IN : (Ab == 6) = false := beq_eq_false_iff_ne.mpr HN
 have Io : (Ab != 6) = true := bne_iff_ne.mpr HN
 by_cases HS : Ab = 4
 {
 rw [if_pos HS] at H
 have Ih : (Ab == 4) = true := beq_iff_eq.mpr HS
 have IU : (Ab != 4) = false := bne_eq_false_iff_eq.mpr HS
 clear HS
 by_cases JJ : BJ = true
 {
 subst JJ
 rw [if_pos rfl] at H
 obtain rfl := Option.some.inj H
 go_wp2
 go_ret
 exact ⟨by first | rfl | (simp [errW_none, errW_some] <;> rfl) | (simp [*, errW_none, errW_some] <;> rfl), zH3 HB AH AI AK⟩
 }
 {
 replace JJ := Bool.eq_false_iff.mpr JJ
 subst JJ
 rw [if_neg (show ¬ (false = true) by decide)] at H
 exact absurd ((Option.some.inj H).trans HT.out) (by decide)
 }
 }
 · rw [if_neg HS] at H; have Ih : (Ab == 4) = false := beq_eq_false_iff_ne.mpr HS; have IU : (Ab != 4) = true := bne_iff_ne.mpr HS; exact absurd ((Option.some.inj H).trans HT.out) (by decide)
 }
 }
 }
 {
 replace Gp := Bool.eq_false_iff.mpr Gp
 subst Gp
 rw [if_neg (show ¬ (false = true) by decide)] at H
 have He := ak H
 clear H
 go_upto_region 19 with (fail)
 go_cut [143] (fun JX wc => ∃ (kq : Nat) (Bn : Bool), JX = .bool Bn ∧ Aside0 (laws_FnSlacks.j4 kq l0 l1 AG Bn AM AN AO AP AQ AR AS AT AU AW AX AY Ag AL = some r) ∧ Aside0 (kq ≤ Ir) ∧ Aside0 (Kd.R k62 62 wc w.heap.size (fun _ => True) (.slice Cw AG.length Cr) AG) ∧ Aside0 (Kd.R (Kd.int .i16) 29 wc w.heap.size (fun k_ => some k_ ≠ ((.slice Af AL.length Ae) : Value).ownBlock) (.slice Aj Ad.length Ai) Ad) ∧ Aside0 (Kd.R (Kd.int .i16) 29 wc w.heap.size (fun k_ => some k_ ≠ ((.slice Aj Ad.length Ai) : Value).ownBlock) (.slice Af AL.length Ae) AL) ∧ Aside0 (wc.heap[AD]? = some (.cells #[.int .i8 AM, .int .i8 AN, .int .u16 AO, .int .u16 AP, .int .u16 AQ, .int .u16 AR, .int .u16 AS, .int .u16 AT, .int .u16 AU, .int .u16 AW, .int .u16 AX, .int .u16 AY] 35 (0, 0))) ∧ Aside0 (wc.heap[An]? = some (.cells #[.int .i16 BF, (.slice Aj Ad.length Ai)] 32 (0, 0))) ∧ Aside0 (wc.heap[AZ]? = some (.cells #[.int .i16 Ag, (.slice Af AL.length Ae)] 32 (0, 0))) ∧ Aside0 (Below w.heap.size w wc))
 case first => (
 have H := He.out
 clear He
 by_cases G8 : Ab = 0
 {
 rw [if_pos G8] at H
 have C4 : (Ab == 0) = true := beq_iff_eq.mpr G8
 have Hy : (Ab != 0) = false := bne_eq_false_iff_eq.mpr G8
 clear G8
 (first | rw [C4] | (simp only [i64_w, i32_w]; rw [C4]) | skip)
 by_cases FI : (AL.length : Int) = (AG.length : Int)
 {
 rw [if_pos FI] at H
 have II : ((AL.length : Int) == (AG.length : Int)) = true := beq_iff_eq.mpr FI
 have Is : ((AL.length : Int) != (AG.length : Int)) = false := bne_eq_false_iff_eq.mpr FI
 have H1 : (AL.length == AG.length) = true := by first | simpa using FI | (simp at FI ⊢; omega)
 clear FI
 replace H := Option.bind_eq_some_iff.mp H
 obtain ⟨IZ, Ie, H⟩ := H
 have LV := ak Ie
 clear Ie
 have H' := ak H
 clear H
 have J7 := A2.out
 have Kh := Ah.out
 have KK := BG.out
 have K2 := Ak.out
 have Iu : wc.cell? ⟨AZ, 0, none⟩ = some (.int .i16 Ag) := (blk_cell AE.out 0).trans rfl
 have Iw : wc.cell? ⟨AZ, 1, none⟩ = some (.slice Af AL.length Ae) := (blk_cell AE.out 1).trans rfl
 have JL := blk_frozen AE.out 0
 have JO := blk_frozen AE.out 1
 go_wp2_with (first | (go_at_call 30; (with_reducible refine (impl_ValidRope.calls Ir Ag _ _ AL IZ _ ?side1 ?side2 LV.out).mono ?_); (case side1 => exact sC AB); (case side2 => exact sL AB); rintro e Lx ⟨rfl, hb⟩; replace AV := kR AV hb; replace AC := kR AC hb; replace AB := kR AB hb; replace AA := kK AA hb; replace AF := kK AF hb; replace AE := kK AE hb; replace HB := kB3 HB AH AI AK hb; (try clear hb)))
 go_meet
 case rel => exact ⟨_, (!IZ), (by first | rfl | (simp; done) | (simp [*]; done)), H', ⟨by have := Bj.out; have := Ay.out; have := Bl.out; have := Bc.out; first | omega | exact Nat.le_refl _⟩, ⟨(zR AV.out)⟩, ⟨(zR AC.out)⟩, ⟨(zR AB.out)⟩, ⟨(zK AA.out)⟩, ⟨(zK AF.out)⟩, ⟨(zK AE.out)⟩, ⟨zH3 HB AH AI AK⟩⟩
 }
 {
 rw [if_neg FI] at H
 have II : ((AL.length : Int) == (AG.length : Int)) = false := beq_eq_false_iff_ne.mpr FI
 have Is : ((AL.length : Int) != (AG.length : Int)) = true := bne_iff_ne.mpr FI
 have H1 : (AL.length == AG.length) = false := by first | simpa using FI | (simp at FI ⊢; omega)
 have H' := ak H
 clear H
 have KL := A2.out
 have Kq := Ah.out
 have KV := BG.out
 have KE := Ak.out
 have JG : wc.cell? ⟨AZ, 0, none⟩ = some (.int .i16 Ag) := (blk_cell AE.out 0).trans rfl
 have JB : wc.cell? ⟨AZ, 1, none⟩ = some (.slice Af AL.length Ae) := (blk_cell AE.out 1).trans rfl
 have I8 := blk_frozen AE.out 0
 have I2 := blk_frozen AE.out 1
 go_wp2
 go_meet
 case rel => exact ⟨_, (true), (by first | rfl | (simp; done) | (simp [*]; done)), H', ⟨by have := Bj.out; have := Ay.out; have := Bl.out; have := Bc.out; first | omega | exact Nat.le_refl _⟩, ⟨(zR AV.out)⟩, ⟨(zR AC.out)⟩, ⟨(zR AB.out)⟩, ⟨(zK AA.out)⟩, ⟨(zK AF.out)⟩, ⟨(zK AE.out)⟩, ⟨zH3 HB AH AI AK⟩⟩
 }
 }
 {
 rw [if_neg G8] at H
 have C4 : (Ab == 0) = false := beq_eq_false_iff_ne.mpr G8
 have Hy : (Ab != 0) = true := bne_iff_ne.mpr G8
 (first | rw [C4] | (simp only [i64_w, i32_w]; rw [C4]) | skip)
 have H' := ak H
 clear H
 go_wp2
 go_meet
 case rel => exact ⟨_, (true), (by first | rfl | (simp; done) | (simp [*]; done)), H', ⟨by have := Bj.out; have := Ay.out; have := Bl.out; have := Bc.out; first | omega | exact Nat.le_refl _⟩, ⟨(zR AV.out)⟩, ⟨(zR AC.out)⟩, ⟨(zR AB.out)⟩, ⟨(zK AA.out)⟩, ⟨(zK AF.out)⟩, ⟨(zK AE.out)⟩, ⟨zH3 HB AH AI AK⟩⟩
 }
 )
 case rest => (
 as_aux_lemma =>
 clear He
 try clear c7
 try clear E0
 try clear Ce
 try clear Gp
 obtain ⟨kq, Bn, rfl, HA, Cq, AV, AC, AB, AA, AF, AE, HB⟩ := hcut
 cases kq with
 | zero => exact absurd HA.out (by simp [laws_FnSlacks.j4])
 | succ HM => (
 have H := HA.out
 clear HA
 simp only [laws_FnSlacks.j4] at H
 by_cases Gw : Bn = true
 {
 subst Gw
 rw [if_pos rfl] at H
 exact absurd ((Option.some.inj H).trans HT.out) (by decide)
 }
 {
 replace Gw := Bool.eq_false_iff.mpr Gw
 subst Gw
 rw [if_neg (show ¬ (false = true) by decide)] at H
 obtain ⟨IM, C3⟩ : ∃ y_ : List (S65), y_ = (([] : List (S65))) := ⟨_, rfl⟩
 replace H : (laws_FnSlacks.l1 HM l0 l1 AG IM 0 AM AN AO AP AQ AR AS AT AU AW AX AY Ag AL) = some r := by first | (rw [C3]; with_reducible exact H) | (have Hg := (Option.bind_some _ _).symm.trans H; rw [C3]; with_reducible exact Hg) | (have Hg := (Option.bind_some _ _).symm.trans H; with_reducible exact Hg) | with_reducible exact H | (rw [C3]; exact H) | exact H
 have Gu := ak C3
 clear C3
 have H' := ak H
 clear H
 go_wp2_with (first | ((with_reducible refine gate_dst (N := 144) rfl ?_); (try (refine gate_guard (by rfl) ?_; dsimp only)); refine Kd.R_lit k65 _ 65 ?hg (N := 144) ?hd (xs := ([] : List (S65))) (inner := []) (ok := fun _ => True) (okp := fun _ => True) ?hr ?hp (fun _ hk => hk) trivial (Below.refl _ _) (Nat.le_refl _) (by simp) ?_; (case hd => rfl); (case hg => rfl); (case hr => first | (go_simp; done) | (go_simp; rfl)); (case hp => exact (Reps.none _ _)); intro Lh Lt FB hb LK Hx; clear LK Hx; (first | rw [← Gu.out] at FB | (simp only [Int.reduceToNat] at FB; rw [← Gu.out] at FB)); have If := ak (Kd.R_lower FB (below_size (zH3 HB AH AI AK))); replace AV := kR AV hb; replace AC := kR AC hb; replace AB := kR AB hb; replace AA := kK AA hb; replace AF := kK AF hb; replace AE := kK AE hb; replace HB := kB3 HB AH AI AK hb; clear hb FB))
 go_loopg [15, 16] HM (fun kq LM LG w' => ∃ (BM : List (S65)) (Ax : Int), LG = .int .i64 Ax ∧ Aside0 (laws_FnSlacks.l1 kq l0 l1 AG BM Ax AM AN AO AP AQ AR AS AT AU AW AX AY Ag AL = some r) ∧ Aside0 (kq ≤ HM) ∧ Aside0 (Kd.R k62 62 w' w.heap.size (fun _ => True) (.slice Cw AG.length Cr) AG) ∧ Aside0 (Kd.R k65 65 w' w.heap.size (fun _ => True) LM BM) ∧ Aside0 (Kd.R (Kd.int .i16) 29 w' w.heap.size (fun k_ => some k_ ≠ ((.slice Af AL.length Ae) : Value).ownBlock) (.slice Aj Ad.length Ai) Ad) ∧ Aside0 (Kd.R (Kd.int .i16) 29 w' w.heap.size (fun k_ => some k_ ≠ ((.slice Aj Ad.length Ai) : Value).ownBlock) (.slice Af AL.length Ae) AL) ∧ Aside0 (w'.heap[AD]? = some (.cells #[.int .i8 AM, .int .i8 AN, .int .u16 AO, .int .u16 AP, .int .u16 AQ, .int .u16 AR, .int .u16 AS, .int .u16 AT, .int .u16 AU, .int .u16 AW, .int .u16 AX, .int .u16 AY] 35 (0, 0))) ∧ Aside0 (w'.heap[An]? = some (.cells #[.int .i16 BF, (.slice Aj Ad.length Ai)] 32 (0, 0))) ∧ Aside0 (w'.heap[AZ]? = some (.cells #[.int .i16 Ag, (.slice Af AL.length Ae)] 32 (0, 0))) ∧ Aside0 (Below w.heap.size w w'))
 case atStart => exact ⟨(IM), (0), (by first | rfl | (simp; done) | (simp [*]; done)), H', ⟨Nat.le_refl _⟩, ⟨(zR AV.out)⟩, ⟨(zR If.out)⟩, ⟨(zR AC.out)⟩, ⟨(zR AB.out)⟩, ⟨(zK AA.out)⟩, ⟨(zK AF.out)⟩, ⟨(zK AE.out)⟩, ⟨zH3 HB AH AI AK⟩⟩
 case round => (
 clear H'
 try clear c7
 try clear E0
 try clear Ce
 try clear Gp
 try clear Gw
 obtain ⟨BM, Ax, rfl, HA, Gj, AV, Av, AC, AB, AA, AF, AE, HB⟩ := hrel
 cases gk with
 | zero => exact absurd HA.out (by simp [laws_FnSlacks.l1])
 | succ k6 => (
 have H := HA.out
 clear HA
 simp only [laws_FnSlacks.l1] at H
 by_cases Gl : Ax < (AG.length : Int)
 {
 rw [if_pos Gl] at H
 have DU : decide (Ax < (AG.length : Int)) = true := decide_eq_true Gl
 clear Gl
 by_cases JD : BM.length < 35184372088832
 {
 rw [if_pos JD] at H
 have Hn := ak JD
 clear JD
 obtain ⟨IH, C9⟩ : ∃ y_ : List (S65), y_ = (BM ++ [(⟨IntKind.i16.wrap (wrap64 (10 + Ax)), IntKind.i8.wrap (Ax)⟩ : S65)]) := ⟨_, rfl⟩
 replace H : (laws_FnSlacks.l1 k6 l0 l1 AG IH (wrap64 (Ax + 1)) AM AN AO AP AQ AR AS AT AU AW AX AY Ag AL) = some r := by first | (rw [C9]; with_reducible exact H) | (have Hg := (Option.bind_some _ _).symm.trans H; rw [C9]; with_reducible exact Hg) | (have Hg := (Option.bind_some _ _).symm.trans H; with_reducible exact Hg) | with_reducible exact H | (rw [C9]; exact H) | exact H
 have Hr := ak C9
 clear C9
 have H' := ak H
 clear H
 go_wp2_with (first | ((with_reducible refine gate_builtin (b := .append) (xs := #[.tmp 151, .tmp 158]) rfl ?_); (try (refine gate_guard (by rfl) ?_; dsimp only)); at_builtin; refine Kd.R_append k65 (w0 := w) w.heap.size rfl (.tmp 151) (.tmp 158) 51 65 (.agg #[(.int .i16 0), (.int .i8 0)]) 4 rfl Try.underlying51 info65 rfl (by decide) (by omega) u15 BM (⟨IntKind.i16.wrap (wrap64 (10 + Ax)), IntKind.i8.wrap (Ax)⟩ : S65) [.int .i16 (IntKind.i16.wrap (wrap64 (10 + Ax))), .int .i8 (IntKind.i8.wrap (Ax))] (fun _ => True) (fun _ => False) rfl rfl ?aP (fun _ hk => hk.elim) ?aF ?aO ?aB ?aS ?aL ?_; (case aP => exact k65_mkM _ _ _ (⟨IntKind.i16.wrap (wrap64 (10 + Ax)), IntKind.i8.wrap (Ax)⟩ : S65)); (case aB => exact (zH3 HB AH AI AK)); (case aF => exact (fun _ _ => trivial)); (case aO => exact (zR Av.out)); (case aS => exact (below_size (zH3 HB AH AI AK))); (case aL => have := Hn.out; omega); intro LP Lv ho hb hg hat; rw [← Hr.out] at ho; have IB := ak (ho); replace AV := ak (Kd.R_over' (zR AV.out) (Kd.R_typed (zR Av.out)) (by decide) hg); replace AC := ak (Kd.R_over' (zR AC.out) (Kd.R_typed (zR Av.out)) (by decide) hg); replace AB := ak (Kd.R_over' (zR AB.out) (Kd.R_typed (zR Av.out)) (by decide) hg); replace AA := ak (blk_grown (g := AD) (o := .cells #[.int .i8 AM, .int .i8 AN, .int .u16 AO, .int .u16 AP, .int .u16 AQ, .int .u16 AR, .int .u16 AS, .int .u16 AT, .int .u16 AU, .int .u16 AW, .int .u16 AX, .int .u16 AY] 35 (0, 0)) (zK AA.out) hg (Kd.R_ne Av.out AA.out (by decide))); replace AF := ak (blk_grown (g := An) (o := .cells #[.int .i16 BF, .slice Aj Ad.length Ai] 32 (0, 0)) (zK AF.out) hg (Kd.R_ne Av.out AF.out (by decide))); replace AE := ak (blk_grown (g := AZ) (o := .cells #[.int .i16 Ag, .slice Af AL.length Ae] 32 (0, 0)) (zK AE.out) hg (Kd.R_ne Av.out AE.out (by decide))); replace HB := ak (hb); clear Av ho hb hg hat))
 go_roundg k6
 case measure => have := Bj.out; have := Ay.out; have := Bl.out; have := Bc.out; have := Cq.out; have := Gj.out; omega
 case rel => exact ⟨(IH), (wrap64 (Ax + 1)), (by first | rfl | (simp; done) | (simp [*]; done)), H', ⟨by have := Bj.out; have := Ay.out; have := Bl.out; have := Bc.out; have := Cq.out; have := Gj.out; omega⟩, ⟨(zR AV.out)⟩, ⟨(zR IB.out)⟩, ⟨(zR AC.out)⟩, ⟨(zR AB.out)⟩, ⟨(zK AA.out)⟩, ⟨(zK AF.out)⟩, ⟨(zK AE.out)⟩, ⟨zH3 HB AH AI AK⟩⟩
 }
 · rw [if_neg JD] at H; exact absurd H (by simp)
 }
 {
 rw [if_neg Gl] at H
 have DU : decide (Ax < (AG.length : Int)) = false := decide_eq_false Gl
 clear Gl
 replace H := Option.bind_eq_some_iff.mp H
 obtain ⟨⟨Ap, Eb⟩, Hq, H⟩ := H
 have LY := ak Hq
 clear Hq
 replace H := Option.bind_eq_some_iff.mp H
 obtain ⟨⟨IY, Ev⟩, H3, H⟩ := H
 have Lf := ak H3
 clear H3
 have HL := ak H
 clear H
 have Kr := Az.out
 have K5 := BL.out
 have Jc := Ah.out
 have Jr := A2.out
 obtain ⟨CQ, Bs, Co, CD, CJ, CH, CT, CY, B9, Cp, BZ, Bg, CZ, Ci, CF, CG, Bz, Cg, Bu, CU, Ch, CK, Be, BW⟩ := cz12 wr AA
 have JY := BG.out
 have Jb := Ak.out
 have Cl : wr.cell? ⟨AZ, 0, none⟩ = some (.int .i16 Ag) := (blk_cell AE.out 0).trans rfl
 have B3 : wr.cell? ⟨AZ, 1, none⟩ = some (.slice Af AL.length Ae) := (blk_cell AE.out 1).trans rfl
 have Cd := blk_frozen AE.out 0
 have Cf := blk_frozen AE.out 1
 obtain ⟨Gz, Gx, Hs⟩ := Kd.R_slice Av.out
 subst Hs
 go_upto_region 28 with (first | ((with_reducible refine gate_callee (f := 31) rfl ?_); refine goesL_ (some 165) rfl rfl Try.func31 (by kernel_rfl) rfl #[.agg #[.int .i8 AM, .int .i8 AN, .int .u16 AO, .int .u16 AP, .int .u16 AQ, .int .u16 AR, .int .u16 AS, .int .u16 AT, .int .u16 AU, .int .u16 AW, .int .u16 AX, .int .u16 AY], .agg #[.int .i16 Ag, .slice Af AL.length Ae], .slice Gz BM.length Gx, .slice Cw AG.length Cr] rfl gl_ ?_; (with_reducible refine (impl_SlacksOf.calls k6 AM AN AO AP AQ AR AS AT AU AW AX AY Ag _ _ AL _ _ BM _ _ AG Ap Eb _ ?side1 ?side2 ?side3 ?side4 ?side5 ?side6 LY.out).mono ?_); (case side1 => exact sC AB); (case side2 => exact sL AB); (case side3 => exact sC Av); (case side4 => exact sL Av); (case side5 => exact sC AV); (case side6 => exact sL AV); rintro e IA ⟨Ik, rfl, BN, hb⟩; refine ⟨_, rfl, ?_⟩; have BV := ak (Kd.R_lower BN (below_size (zH3 HB AH AI AK))); replace AV := kR AV hb; replace Av := kR Av hb; replace AC := kR AC hb; replace AB := kR AB hb; replace AA := kK AA hb; replace AF := kK AF hb; replace AE := kK AE hb; replace HB := kB3 HB AH AI AK hb; (try clear hb); (try clear BN); obtain ⟨CN, CV, CR, Bt, Bq, CW, CO, Br, Bv, CX, Ba, BY, Cm, Cb, CC, Bw, Ck, CP, CE, CI, Bx, CM, Bb, Bd⟩ := cz12 IA AA; obtain ⟨By, Cc, Cj, Cn⟩ := cz2 IA AE) | ((with_reducible refine gate_callee (f := 22) rfl ?_); refine goesL_ (some 173) rfl rfl Try.func22 (by kernel_rfl) rfl #[.agg #[.int .i8 AM, .int .i8 AN, .int .u16 AO, .int .u16 AP, .int .u16 AQ, .int .u16 AR, .int .u16 AS, .int .u16 AT, .int .u16 AU, .int .u16 AW, .int .u16 AX, .int .u16 AY], .agg #[.int .i16 Ag, .slice Af AL.length Ae], .slice Gz BM.length Gx, .slice Cw AG.length Cr] rfl gl_ ?_; (with_reducible refine (impl_CanStand.calls k6 AM AN AO AP AQ AR AS AT AU AW AX AY Ag _ _ AL _ _ BM _ _ AG IY Ev _ ?side1 ?side2 ?side3 ?side4 ?side5 ?side6 Lf.out).mono ?_); (case side1 => exact sC AB); (case side2 => exact sL AB); (case side3 => exact sC Av); (case side4 => exact sL Av); (case side5 => exact sC AV); (case side6 => exact sL AV); rintro e LD ⟨rfl, hb⟩; refine ⟨_, rfl, ?_⟩; replace AV := kR AV hb; replace Av := kR Av hb; replace AC := kR AC hb; replace AB := kR AB hb; replace BV := kR BV hb; replace AA := kK AA hb; replace AF := kK AF hb; replace AE := kK AE hb; replace HB := kB3 HB AH AI AK hb; (try clear hb)))
 (try simp only [Act.put, zs, zz, zk])
 go_cut [193] (fun Ju wc => ∃ (kq : Nat) (Bm : Bool), Ju = .bool Bm ∧ Aside0 (laws_FnSlacks.j6 kq l0 l1 Ap Bm AM AN AO AP AQ AR AS AT AU AW AX AY = some r) ∧ Aside0 (kq ≤ k6) ∧ Aside0 (Kd.R (Kd.int .i64) 2 wc w.heap.size (fun _ => True) Ik Ap) ∧ Aside0 (Kd.R (Kd.int .i16) 29 wc w.heap.size (fun k_ => some k_ ≠ ((.slice Af AL.length Ae) : Value).ownBlock) (.slice Aj Ad.length Ai) Ad) ∧ Aside0 (Kd.R (Kd.int .i16) 29 wc w.heap.size (fun k_ => some k_ ≠ ((.slice Aj Ad.length Ai) : Value).ownBlock) (.slice Af AL.length Ae) AL) ∧ Aside0 (wc.heap[AD]? = some (.cells #[.int .i8 AM, .int .i8 AN, .int .u16 AO, .int .u16 AP, .int .u16 AQ, .int .u16 AR, .int .u16 AS, .int .u16 AT, .int .u16 AU, .int .u16 AW, .int .u16 AX, .int .u16 AY] 35 (0, 0))) ∧ Aside0 (wc.heap[An]? = some (.cells #[.int .i16 BF, (.slice Aj Ad.length Ai)] 32 (0, 0))) ∧ Aside0 (wc.heap[AZ]? = some (.cells #[.int .i16 Ag, (.slice Af AL.length Ae)] 32 (0, 0))) ∧ Aside0 (Below w.heap.size w wc))
 case first => (
 have H := HL.out
 clear HL
 by_cases DN : Eb = 0
 {
 rw [if_pos DN] at H
 have Bp : (Eb == 0) = true := beq_iff_eq.mpr DN
 have HJ : (Eb != 0) = false := bne_eq_false_iff_eq.mpr DN
 clear DN
 (first | rw [Bp] | (simp only [i64_w, i32_w]; rw [Bp]) | skip)
 by_cases BO : (Ap.length : Int) = (wrap64 ((AG.length : Int) - 1))
 {
 rw [if_pos BO] at H
 have HP : ((Ap.length : Int) == (wrap64 ((AG.length : Int) - 1))) = true := beq_iff_eq.mpr BO
 have HQ : ((Ap.length : Int) != (wrap64 ((AG.length : Int) - 1))) = false := bne_eq_false_iff_eq.mpr BO
 (try (have HX : ((Ap.length : Int) == (IntKind.i64.wrap ((AG.length : Int) - 1))) = true := by first | simpa only [i64_w, i32_w] using (show ((Ap.length : Int) == (wrap64 ((AG.length : Int) - 1))) = true from beq_iff_eq.mpr BO) | simpa only [i64_w] using (show ((Ap.length : Int) == (wrap64 ((AG.length : Int) - 1))) = true from beq_iff_eq.mpr BO)))
 (try (have HE : ((Ap.length : Int) != (IntKind.i64.wrap ((AG.length : Int) - 1))) = false := by first | simpa only [i64_w, i32_w] using (show ((Ap.length : Int) != (wrap64 ((AG.length : Int) - 1))) = false from bne_eq_false_iff_eq.mpr BO) | simpa only [i64_w] using (show ((Ap.length : Int) != (wrap64 ((AG.length : Int) - 1))) = false from bne_eq_false_iff_eq.mpr BO)))
 clear BO
 by_cases DR : Ev = 0
 {
 rw [if_pos DR] at H
 have HU : (Ev == 0) = true := beq_iff_eq.mpr DR
 have G4 : (Ev != 0) = false := bne_eq_false_iff_eq.mpr DR
 clear DR
 have H' := ak H
 clear H
 obtain ⟨Kl, Kp, It⟩ := Kd.R_slice BV.out
 subst It
 go_wp2
 go_meet
 case rel => exact ⟨_, (!IY), (by first | rfl | (simp; done) | (simp [*]; done)), H', ⟨by have := Bj.out; have := Ay.out; have := Bl.out; have := Bc.out; have := Cq.out; have := Gj.out; first | omega | exact Nat.le_refl _⟩, ⟨(zR BV.out)⟩, ⟨(zR AC.out)⟩, ⟨(zR AB.out)⟩, ⟨(zK AA.out)⟩, ⟨(zK AF.out)⟩, ⟨(zK AE.out)⟩, ⟨zH3 HB AH AI AK⟩⟩
 }
 {
 rw [if_neg DR] at H
 have HU : (Ev == 0) = false := beq_eq_false_iff_ne.mpr DR
 have G4 : (Ev != 0) = true := bne_iff_ne.mpr DR
 have H' := ak H
 clear H
 obtain ⟨K0, Kv, Il⟩ := Kd.R_slice BV.out
 subst Il
 go_wp2
 go_meet
 case rel => exact ⟨_, (true), (by first | rfl | (simp; done) | (simp [*]; done)), H', ⟨by have := Bj.out; have := Ay.out; have := Bl.out; have := Bc.out; have := Cq.out; have := Gj.out; first | omega | exact Nat.le_refl _⟩, ⟨(zR BV.out)⟩, ⟨(zR AC.out)⟩, ⟨(zR AB.out)⟩, ⟨(zK AA.out)⟩, ⟨(zK AF.out)⟩, ⟨(zK AE.out)⟩, ⟨zH3 HB AH AI AK⟩⟩
 }
 }
 {
 rw [if_neg BO] at H
 have HP : ((Ap.length : Int) == (wrap64 ((AG.length : Int) - 1))) = false := beq_eq_false_iff_ne.mpr BO
 have HQ : ((Ap.length : Int) != (wrap64 ((AG.length : Int) - 1))) = true := bne_iff_ne.mpr BO
 (try (have HX : ((Ap.length : Int) == (IntKind.i64.wrap ((AG.length : Int) - 1))) = false := by first | simpa only [i64_w, i32_w] using (show ((Ap.length : Int) == (wrap64 ((AG.length : Int) - 1))) = false from beq_eq_false_iff_ne.mpr BO) | simpa only [i64_w] using (show ((Ap.length : Int) == (wrap64 ((AG.length : Int) - 1))) = false from beq_eq_false_iff_ne.mpr BO)))
 (try (have HE : ((Ap.length : Int) != (IntKind.i64.wrap ((AG.length : Int) - 1))) = true := by first | simpa only [i64_w, i32_w] using (show ((Ap.length : Int) != (wrap64 ((AG.length : Int) - 1))) = true from bne_iff_ne.mpr BO) | simpa only [i64_w] using (show ((Ap.length : Int) != (wrap64 ((AG.length : Int) - 1))) = true from bne_iff_ne.mpr BO)))
 have H' := ak H
 clear H
 obtain ⟨KZ, Ki, IT⟩ := Kd.R_slice BV.out
 subst IT
 go_wp2
 go_meet
 case rel => exact ⟨_, (true), (by first | rfl | (simp; done) | (simp [*]; done)), H', ⟨by have := Bj.out; have := Ay.out; have := Bl.out; have := Bc.out; have := Cq.out; have := Gj.out; first | omega | exact Nat.le_refl _⟩, ⟨(zR BV.out)⟩, ⟨(zR AC.out)⟩, ⟨(zR AB.out)⟩, ⟨(zK AA.out)⟩, ⟨(zK AF.out)⟩, ⟨(zK AE.out)⟩, ⟨zH3 HB AH AI AK⟩⟩
 }
 }
 {
 rw [if_neg DN] at H
 have Bp : (Eb == 0) = false := beq_eq_false_iff_ne.mpr DN
 have HJ : (Eb != 0) = true := bne_iff_ne.mpr DN
 (first | rw [Bp] | (simp only [i64_w, i32_w]; rw [Bp]) | skip)
 have H' := ak H
 clear H
 go_wp2
 go_meet
 case rel => exact ⟨_, (true), (by first | rfl | (simp; done) | (simp [*]; done)), H', ⟨by have := Bj.out; have := Ay.out; have := Bl.out; have := Bc.out; have := Cq.out; have := Gj.out; first | omega | exact Nat.le_refl _⟩, ⟨(zR BV.out)⟩, ⟨(zR AC.out)⟩, ⟨(zR AB.out)⟩, ⟨(zK AA.out)⟩, ⟨(zK AF.out)⟩, ⟨(zK AE.out)⟩, ⟨zH3 HB AH AI AK⟩⟩
 }
 )
 case rest => (
 as_aux_lemma =>
 clear HL
 try clear c1
 try clear c7
 try clear E0
 try clear Ce
 try clear Gp
 try clear Gw
 try clear Gl
 try clear DU
 try clear CQ
 try clear Bs
 try clear BZ
 try clear Bg
 try clear Co
 try clear CD
 try clear CJ
 try clear CH
 try clear CT
 try clear CY
 try clear B9
 try clear Cp
 try clear Cl
 try clear B3
 try clear CN
 try clear CV
 try clear Ba
 try clear BY
 try clear CR
 try clear Bt
 try clear Bq
 try clear CW
 try clear CO
 try clear Br
 try clear Bv
 try clear CX
 try clear By
 try clear Cc
 try clear CZ
 try clear Ci
 try clear Be
 try clear BW
 try clear CF
 try clear CG
 try clear Bz
 try clear Cg
 try clear Bu
 try clear CU
 try clear Ch
 try clear CK
 try clear Cd
 try clear Cf
 try clear Cm
 try clear Cb
 try clear Bb
 try clear Bd
 try clear CC
 try clear Bw
 try clear Ck
 try clear CP
 try clear CE
 try clear CI
 try clear Bx
 try clear CM
 try clear Cj
 try clear Cn
 obtain ⟨kq, Bm, rfl, HA, Gr, Am, AC, AB, AA, AF, AE, HB⟩ := hcut
 cases kq with
 | zero => exact absurd HA.out (by simp [laws_FnSlacks.j6])
 | succ IS => (
 have H := HA.out
 clear HA
 simp only [laws_FnSlacks.j6] at H
 by_cases Ef : Bm = true
 {
 subst Ef
 rw [if_pos rfl] at H
 exact absurd ((Option.some.inj H).trans HT.out) (by decide)
 }
 {
 replace Ef := Bool.eq_false_iff.mpr Ef
 subst Ef
 rw [if_neg (show ¬ (false = true) by decide)] at H
 have H' := ak H
 clear H
 go_wp2
 go_loopg [21] IS (fun kq LX w' => ∃ (Aw : Int), LX = .int .i64 Aw ∧ Aside0 (laws_FnSlacks.l2 kq l0 l1 Ap Aw AM AN AO AP AQ AR AS AT AU AW AX AY = some r) ∧ Aside0 (kq ≤ IS) ∧ Aside0 (Kd.R (Kd.int .i64) 2 w' w.heap.size (fun _ => True) Ik Ap) ∧ Aside0 (Kd.R (Kd.int .i16) 29 w' w.heap.size (fun k_ => some k_ ≠ ((.slice Af AL.length Ae) : Value).ownBlock) (.slice Aj Ad.length Ai) Ad) ∧ Aside0 (Kd.R (Kd.int .i16) 29 w' w.heap.size (fun k_ => some k_ ≠ ((.slice Aj Ad.length Ai) : Value).ownBlock) (.slice Af AL.length Ae) AL) ∧ Aside0 (w'.heap[AD]? = some (.cells #[.int .i8 AM, .int .i8 AN, .int .u16 AO, .int .u16 AP, .int .u16 AQ, .int .u16 AR, .int .u16 AS, .int .u16 AT, .int .u16 AU, .int .u16 AW, .int .u16 AX, .int .u16 AY] 35 (0, 0))) ∧ Aside0 (w'.heap[An]? = some (.cells #[.int .i16 BF, (.slice Aj Ad.length Ai)] 32 (0, 0))) ∧ Aside0 (w'.heap[AZ]? = some (.cells #[.int .i16 Ag, (.slice Af AL.length Ae)] 32 (0, 0))) ∧ Aside0 (Below w.heap.size w w'))
 case atStart => exact ⟨(0), (by first | rfl | (simp; done) | (simp [*]; done)), H', ⟨Nat.le_refl _⟩, ⟨(zR Am.out)⟩, ⟨(zR AC.out)⟩, ⟨(zR AB.out)⟩, ⟨(zK AA.out)⟩, ⟨(zK AF.out)⟩, ⟨(zK AE.out)⟩, ⟨zH3 HB AH AI AK⟩⟩
 case round => (
 clear H'
 try clear c1
 try clear c7
 try clear E0
 try clear Ce
 try clear Gp
 try clear Gw
 try clear Gl
 try clear DU
 try clear Ef
 try clear CQ
 try clear Bs
 try clear BZ
 try clear Bg
 try clear Co
 try clear CD
 try clear CJ
 try clear CH
 try clear CT
 try clear CY
 try clear B9
 try clear Cp
 try clear Cl
 try clear B3
 try clear CN
 try clear CV
 try clear Ba
 try clear BY
 try clear CR
 try clear Bt
 try clear Bq
 try clear CW
 try clear CO
 try clear Br
 try clear Bv
 try clear CX
 try clear By
 try clear Cc
 try clear CZ
 try clear Ci
 try clear Be
 try clear BW
 try clear CF
 try clear CG
 try clear Bz
 try clear Cg
 try clear Bu
 try clear CU
 try clear Ch
 try clear CK
 try clear Cd
 try clear Cf
 try clear Cm
 try clear Cb
 try clear Bb
 try clear Bd
 try clear CC
 try clear Bw
 try clear Ck
 try clear CP
 try clear CE
 try clear CI
 try clear Bx
 try clear CM
 try clear Cj
 try clear Cn
 obtain ⟨Aw, rfl, HA, JC, Am, AC, AB, AA, AF, AE, HB⟩ := hrel
 cases gk with
 | zero => exact absurd HA.out (by simp [laws_FnSlacks.l2])
 | succ k8 => (
 have H := HA.out
 clear HA
 simp only [laws_FnSlacks.l2] at H
 by_cases DM : Aw < (Ap.length : Int)
 {
 rw [if_pos DM] at H
 have GE : decide (Aw < (Ap.length : Int)) = true := decide_eq_true DM
 clear DM
 by_cases Gm : 0 ≤ Aw
 {
 rw [if_pos Gm] at H
 have Jg : decide (0 ≤ Aw) = true := decide_eq_true Gm
 clear Gm
 by_cases DI : (rd Ap Aw) = 0
 {
 rw [if_pos DI] at H
 have G9 : ((rd Ap Aw) == 0) = true := beq_iff_eq.mpr DI
 have HV : ((rd Ap Aw) != 0) = false := bne_eq_false_iff_eq.mpr DI
 clear DI
 have H' := ak H
 clear H
 obtain ⟨KW, J5, Hz⟩ := Kd.R_slice Am.out
 subst Hz
 have HO : 0 ≤ (Aw : Int) := of_decide_eq_true (by first | (with_reducible assumption) | assumption)
 have HZ : Aw < (Ap.length : Int) := of_decide_eq_true (by first | (with_reducible assumption) | assumption)
 obtain ⟨Ku, J4, Iv⟩ := Kd.at_int (Kd.R_reads' Am.out).2.2 Aw HO HZ
 cases J4
 replace HO := eq_true HO
 replace HZ := eq_true HZ
 go_wp2
 go_roundg k8
 case measure => have := Bj.out; have := Ay.out; have := Bl.out; have := Bc.out; have := Cq.out; have := Gj.out; have := Gr.out; have := JC.out; omega
 case rel => exact ⟨(wrap64 (Aw + 1)), (by first | rfl | (simp; done) | (simp [*]; done)), H', ⟨by have := Bj.out; have := Ay.out; have := Bl.out; have := Bc.out; have := Cq.out; have := Gj.out; have := Gr.out; have := JC.out; omega⟩, ⟨(zR Am.out)⟩, ⟨(zR AC.out)⟩, ⟨(zR AB.out)⟩, ⟨(zK AA.out)⟩, ⟨(zK AF.out)⟩, ⟨(zK AE.out)⟩, ⟨zH3 HB AH AI AK⟩⟩
 }
 · rw [if_neg DI] at H; have G9 : ((rd Ap Aw) == 0) = false := beq_eq_false_iff_ne.mpr DI; have HV : ((rd Ap Aw) != 0) = true := bne_iff_ne.mpr DI; exact absurd ((Option.some.inj H).trans HT.out) (by decide)
 }
 · rw [if_neg Gm] at H; exact absurd H (by simp)
 }
 {
 rw [if_neg DM] at H
 have GE : decide (Aw < (Ap.length : Int)) = false := decide_eq_false DM
 clear DM
 replace H := Option.bind_eq_some_iff.mp H
 obtain ⟨⟨BK, BE⟩, G1, H⟩ := H
 have Gq := ak G1
 clear G1
 replace H := Option.bind_eq_some_iff.mp H
 obtain ⟨Cv, G3, H⟩ := H
 have JU := ak G3
 clear G3
 replace H := Option.bind_eq_some_iff.mp H
 obtain ⟨DO, G0, H⟩ := H
 have Ji := ak G0
 clear G0
 replace H := Option.bind_eq_some_iff.mp H
 obtain ⟨⟨GP, BI⟩, Gs, H⟩ := H
 have JV := ak Gs
 clear Gs
 replace H := Option.bind_eq_some_iff.mp H
 obtain ⟨⟨Bk, DL⟩, Gt, H⟩ := H
 have Jz := ak Gt
 clear Gt
 replace H := Option.bind_eq_some_iff.mp H
 obtain ⟨⟨IX, DH⟩, Gv, H⟩ := H
 have JZ := ak Gv
 clear Gv
 have H' := ak H
 clear H
 obtain ⟨Km, KH, IL⟩ := Kd.R_slice Am.out
 subst IL
 go_wp2_with (first | ((with_reducible refine gate_callee (f := 32) rfl ?_); refine goesL_ (some 206) rfl rfl Try.func32 (by kernel_rfl) rfl #[.slice A1 l1.length c1] rfl gl_ ?_; (with_reducible refine (spec_P6Rope.calls k8 _ _ l1 BK BE _ ?side1 ?side2 Gq.out).mono ?_); (case side1 => exact sQ (Kd.C_below Jh.out HB.out)); (case side2 => exact Je.out); rintro e LL ⟨Lb, rfl, BN, hb⟩; refine ⟨_, rfl, ?_⟩; have Al := ak (Kd.R_lower (Kd.R_new' (Kd.R_new' BN (Kd.R_lt (zR AC.out))) (Kd.R_lt (zR AB.out))) (below_size (zH3 HB AH AI AK))); replace Am := kR Am hb; replace AC := kE AC BN hb; replace AB := kE AB BN hb; replace AA := kK AA hb; replace AF := kK AF hb; replace AE := kK AE hb; replace HB := kB3 HB AH AI AK hb; (try clear hb); (try clear BN)) | ((with_reducible refine gate_dst (N := 22) rfl ?_); (try (refine gate_guard (by rfl) ?_; dsimp only)); refine box_event ?hg (N := 22) ?hd (cs := #[.int .i16 0, .slice none 0 0]) (t := 32) ?hr ?_; (case hd => rfl); (case hg => rfl); (case hr => first | (go_simp; done) | (go_simp; rfl)); intro BB hg Jt hbox hb; have Ao := ak (hbox); have KQ := ak ((by rw [hg]; exact (below_size (zH3 HB AH AI AK)) : w.heap.size ≤ BB)); have BD := ak ((by rw [hg]; exact (below_size (zH3 HB AH AI AK)) : w.heap.size ≤ BB)); have Bh := nL AA hg; have Ez := nG AA hg; have BX := nL AF hg; have Eu := nG AF hg; have Bf := nL AE hg; have El := nG AE hg; replace Am := kR Am hb; replace AC := kR AC hb; replace AB := kR AB hb; replace Al := kR Al hb; replace AA := kK AA hb; replace AF := kK AF hb; replace AE := kK AE hb; replace HB := kB3 HB AH AI AK hb; clear hb hbox hg; have JW := Ez.out; have Jv := Bh.out; have Ja := Eu.out; have Jp := BX.out; have Jk := El.out; have Jf := Bf.out; obtain ⟨FG, GF, F7, FK⟩ := cz2 Jt Ao; obtain ⟨BA, A5, H2⟩ := Kd.R_slice Al.out; subst H2) | ((with_reducible refine gate_callee (f := 33) rfl ?_); refine goesL_ (some 209) rfl rfl Try.func33 (by kernel_rfl) rfl #[.slice A0 l0.length c0, .agg #[.int .i16 BK, .slice BA BE.length A5]] rfl gl_ ?_; (with_reducible refine (spec_P6Holds.calls k8 _ _ l0 BK _ _ BE Cv _ ?side1 ?side2 ?side3 ?side4 JU.out).mono ?_); (case side1 => exact Kd.C_below Hj.out (zH4 HB AH AI AK BD)); (case side2 => exact Hm.out); (case side3 => refine (Kd.R_reads' (e := 29) (base := w.heap.size) (ok := fun k_ => ((True ∧ some k_ ≠ (.slice Aj Ad.length Ai : Value).ownBlock) ∧ some k_ ≠ (.slice Af AL.length Ae : Value).ownBlock)) (n := BE.length) (c := A5) ?_).2.2; exact (by (with_reducible repeat (first | apply Kd.R_alloc | apply Kd.R_drewN | apply Kd.R_drew)); exact (Kd.R_mono (Kd.R_far (p := ⟨BB, 1, none⟩) (Kd.R_far (p := ⟨BB, 0, none⟩) (Kd.R_types Al.out Ao.out (by decide)) (fun _ hk => hk.2) (.int .i16 BK)) (fun _ hk => hk.2) (.slice BA BE.length A5)) (fun _ h_ => h_.1)))); (case side4 => exact sL Al); rintro e Jy ⟨LR, rfl, BN, hb⟩; refine ⟨_, rfl, ?_⟩; have A3 := ak (Kd.R_lower BN (below_size (zH4 HB AH AI AK BD))); replace Am := ak (Kd.R_below (by (with_reducible repeat (first | apply Kd.R_alloc | apply Kd.R_drewN | apply Kd.R_drew)); exact (Kd.R_mono (Kd.R_far (p := ⟨BB, 1, none⟩) (Kd.R_far (p := ⟨BB, 0, none⟩) (Kd.R_types Am.out Ao.out (by decide)) (fun _ hk => hk.2) (.int .i16 BK)) (fun _ hk => hk.2) (.slice BA BE.length A5)) (fun _ h_ => h_.1))) hb); replace AC := ak (Kd.R_below (by (with_reducible repeat (first | apply Kd.R_alloc | apply Kd.R_drewN | apply Kd.R_drew)); exact (Kd.R_mono (Kd.R_far (p := ⟨BB, 1, none⟩) (Kd.R_far (p := ⟨BB, 0, none⟩) (Kd.R_types AC.out Ao.out (by decide)) (fun _ hk => hk.2) (.int .i16 BK)) (fun _ hk => hk.2) (.slice BA BE.length A5)) (fun _ h_ => h_.1))) hb); replace AB := ak (Kd.R_below (by (with_reducible repeat (first | apply Kd.R_alloc | apply Kd.R_drewN | apply Kd.R_drew)); exact (Kd.R_mono (Kd.R_far (p := ⟨BB, 1, none⟩) (Kd.R_far (p := ⟨BB, 0, none⟩) (Kd.R_types AB.out Ao.out (by decide)) (fun _ hk => hk.2) (.int .i16 BK)) (fun _ hk => hk.2) (.slice BA BE.length A5)) (fun _ h_ => h_.1))) hb); replace Al := ak (Kd.R_below (by (with_reducible repeat (first | apply Kd.R_alloc | apply Kd.R_drewN | apply Kd.R_drew)); exact (Kd.R_mono (Kd.R_far (p := ⟨BB, 1, none⟩) (Kd.R_far (p := ⟨BB, 0, none⟩) (Kd.R_types Al.out Ao.out (by decide)) (fun _ hk => hk.2) (.int .i16 BK)) (fun _ hk => hk.2) (.slice BA BE.length A5)) (fun _ h_ => h_.1))) hb); replace AA := ak (blk_below (g := AD) (o := .cells #[.int .i8 AM, .int .i8 AN, .int .u16 AO, .int .u16 AP, .int .u16 AQ, .int .u16 AR, .int .u16 AS, .int .u16 AT, .int .u16 AU, .int .u16 AW, .int .u16 AX, .int .u16 AY] 35 (0, 0)) (by (with_reducible repeat (first | refine blk_drewN ?_ _ | refine blk_drew ?_ | refine blk_alloc ?_ _)); refine blk_far ?_ Bh.out _; (with_reducible repeat (first | refine blk_drewN ?_ _ | refine blk_drew ?_ | refine blk_alloc ?_ _)); refine blk_far ?_ Bh.out _; (with_reducible repeat (first | refine blk_drewN ?_ _ | refine blk_drew ?_ | refine blk_alloc ?_ _)); exact AA.out) hb); replace AF := ak (blk_below (g := An) (o := .cells #[.int .i16 BF, .slice Aj Ad.length Ai] 32 (0, 0)) (by (with_reducible repeat (first | refine blk_drewN ?_ _ | refine blk_drew ?_ | refine blk_alloc ?_ _)); refine blk_far ?_ BX.out _; (with_reducible repeat (first | refine blk_drewN ?_ _ | refine blk_drew ?_ | refine blk_alloc ?_ _)); refine blk_far ?_ BX.out _; (with_reducible repeat (first | refine blk_drewN ?_ _ | refine blk_drew ?_ | refine blk_alloc ?_ _)); exact AF.out) hb); replace AE := ak (blk_below (g := AZ) (o := .cells #[.int .i16 Ag, .slice Af AL.length Ae] 32 (0, 0)) (by (with_reducible repeat (first | refine blk_drewN ?_ _ | refine blk_drew ?_ | refine blk_alloc ?_ _)); refine blk_far ?_ Bf.out _; (with_reducible repeat (first | refine blk_drewN ?_ _ | refine blk_drew ?_ | refine blk_alloc ?_ _)); refine blk_far ?_ Bf.out _; (with_reducible repeat (first | refine blk_drewN ?_ _ | refine blk_drew ?_ | refine blk_alloc ?_ _)); exact AE.out) hb); replace Ao := ak (blk_below (g := BB) (o := .cells #[.int .i16 BK, .slice BA BE.length A5] 32 (0, 0)) (by (with_reducible repeat (first | refine blk_drewN ?_ _ | refine blk_drew ?_ | refine blk_alloc ?_ _)); refine blk_put (cs := #[.int .i16 BK, .slice none 0 0]) ?_ 1 _ rfl; (with_reducible repeat (first | refine blk_drewN ?_ _ | refine blk_drew ?_ | refine blk_alloc ?_ _)); refine blk_put (cs := #[.int .i16 0, .slice none 0 0]) ?_ 0 _ rfl; (with_reducible repeat (first | refine blk_drewN ?_ _ | refine blk_drew ?_ | refine blk_alloc ?_ _)); exact Ao.out) hb); replace HB := ak (below_step (zH4 HB AH AI AK BD) hb); (try clear hb); (try clear hk); (try clear BN); have Jx := Az.out; have Jn := BL.out; have Js := Ah.out; have Jo := A2.out; obtain ⟨FH, Fn, Fz, FP, Gc, GV, FD, FE, Fo, F3, Ec, Ee, F4, E3, FM, E5, F8, F2, FA, Fb, GT, GQ, Ey, Ed⟩ := cz12 Jy AA; obtain ⟨E8, Fr, H4⟩ := Kd.R_slice A3.out; subst H4) | ((with_reducible refine gate_callee (f := 26) rfl ?_); refine goesL_ (some 214) rfl rfl Try.func26 (by kernel_rfl) rfl #[.slice A0 l0.length c0, .agg #[.int .i8 AM, .int .i8 AN, .int .u16 AO, .int .u16 AP, .int .u16 AQ, .int .u16 AR, .int .u16 AS, .int .u16 AT, .int .u16 AU, .int .u16 AW, .int .u16 AX, .int .u16 AY], .int .i64 (Cv.length : Int)] rfl gl_ ?_; (with_reducible refine (spec_P6Stands.calls k8 _ _ l0 AM AN AO AP AQ AR AS AT AU AW AX AY (Cv.length : Int) DO _ ?side1 ?side2 Ji.out).mono ?_); (case side1 => exact sQ (Kd.C_below Hj.out HB.out)); (case side2 => exact Hm.out); rintro e Ig ⟨Lc, rfl, BN, hb⟩; refine ⟨_, rfl, ?_⟩; have BH := ak (Kd.R_lower BN (below_size (zH4 HB AH AI AK BD))); replace Am := kR Am hb; replace AC := kR AC hb; replace AB := kR AB hb; replace Al := kR Al hb; replace A3 := kR A3 hb; replace AA := kK AA hb; replace AF := kK AF hb; replace AE := kK AE hb; replace Ao := kK Ao hb; replace HB := ak (below_step (zH4 HB AH AI AK BD) hb); (try clear hb); (try clear BN); obtain ⟨FQ, FR, GJ, Fl, E9, GD, FS, Fx, Fm, GB, Ej, Et, GO, GC, F5, Gb, FC, FL, Fk, GY, FO, Ga, Ea, En⟩ := cz12 Ig AA; obtain ⟨FZ, Fe, Gi, Fh⟩ := cz2 Ig Ao; obtain ⟨Ft, FJ, Ia⟩ := Kd.R_slice BH.out; subst Ia) | ((with_reducible refine gate_callee (f := 31) rfl ?_); refine goesL_ (some 220) rfl rfl Try.func31 (by kernel_rfl) rfl #[.agg #[.int .i8 AM, .int .i8 AN, .int .u16 AO, .int .u16 AP, .int .u16 AQ, .int .u16 AR, .int .u16 AS, .int .u16 AT, .int .u16 AU, .int .u16 AW, .int .u16 AX, .int .u16 AY], .agg #[.int .i16 BK, .slice BA BE.length A5], .slice E8 Cv.length Fr, .slice Ft DO.length FJ] rfl gl_ ?_; (with_reducible refine (impl_SlacksOf.calls k8 AM AN AO AP AQ AR AS AT AU AW AX AY BK _ _ BE _ _ Cv _ _ DO GP BI _ ?side1 ?side2 ?side3 ?side4 ?side5 ?side6 JV.out).mono ?_); (case side1 => exact sC Al); (case side2 => exact sL Al); (case side3 => exact sC A3); (case side4 => exact sL A3); (case side5 => exact sC BH); (case side6 => exact sL BH); rintro e Ht ⟨H0, rfl, BN, hb⟩; refine ⟨_, rfl, ?_⟩; have Cs := ak (Kd.R_lower (Kd.R_new' BN (Kd.R_lt (zR Am.out))) (below_size (zH4 HB AH AI AK BD))); replace Am := kE Am BN hb; replace AC := kR AC hb; replace AB := kR AB hb; replace Al := kR Al hb; replace A3 := kR A3 hb; replace BH := kR BH hb; replace AA := kK AA hb; replace AF := kK AF hb; replace AE := kK AE hb; replace Ao := kK Ao hb; replace HB := ak (below_step (zH4 HB AH AI AK BD) hb); (try clear hb); (try clear BN); obtain ⟨Fq, GN, Gd, Fd, Fu, GG, Fw, GA, Gg, Fv, Ep, Es, F6, FY, GX, FF, F1, E2, Gh, GK, E1, Fs, Ew, Ei⟩ := cz12 Ht AA; obtain ⟨E4, FU, Fc, E7⟩ := cz2 Ht Ao) | ((with_reducible refine gate_callee (f := 34) rfl ?_); refine goesL_ (some 228) rfl rfl Try.func34 (by kernel_rfl) rfl #[.agg #[.int .i8 AM, .int .i8 AN, .int .u16 AO, .int .u16 AP, .int .u16 AQ, .int .u16 AR, .int .u16 AS, .int .u16 AT, .int .u16 AU, .int .u16 AW, .int .u16 AX, .int .u16 AY], .agg #[.int .i16 BK, .slice BA BE.length A5], .slice E8 Cv.length Fr, .slice Ft DO.length FJ] rfl gl_ ?_; (with_reducible refine (spec_SlacksOf.calls k8 AM AN AO AP AQ AR AS AT AU AW AX AY BK _ _ BE _ _ Cv _ _ DO Bk DL _ ?side1 ?side2 ?side3 ?side4 ?side5 ?side6 Jz.out).mono ?_); (case side1 => exact sC Al); (case side2 => exact sL Al); (case side3 => exact sC A3); (case side4 => exact sL A3); (case side5 => exact sC BH); (case side6 => exact sL BH); rintro e IJ ⟨Im, rfl, BN, hb⟩; refine ⟨_, rfl, ?_⟩; have GH := ak (Kd.R_lower (Kd.R_new' (Kd.R_new' BN (Kd.R_lt (zR Am.out))) (Kd.R_lt (zR Cs.out))) (below_size (zH4 HB AH AI AK BD))); replace Am := kE Am BN hb; replace AC := kR AC hb; replace AB := kR AB hb; replace Al := kR Al hb; replace A3 := kR A3 hb; replace BH := kR BH hb; replace Cs := kE Cs BN hb; replace AA := kK AA hb; replace AF := kK AF hb; replace AE := kK AE hb; replace Ao := kK Ao hb; replace HB := ak (below_step (zH4 HB AH AI AK BD) hb); (try clear hb); (try clear BN); obtain ⟨GZ, Fa, F9, FX, FN, Fi, FV, Fg, Ff, E6, Em, Ek, GW, GU, Fp, GS, Fj, GM, Fy, GL, Gf, GI, Eo, Eg⟩ := cz12 IJ AA; obtain ⟨F0, FT, FW, Ge⟩ := cz2 IJ Ao) | ((with_reducible refine gate_callee (f := 22) rfl ?_); refine goesL_ (some 236) rfl rfl Try.func22 (by kernel_rfl) rfl #[.agg #[.int .i8 AM, .int .i8 AN, .int .u16 AO, .int .u16 AP, .int .u16 AQ, .int .u16 AR, .int .u16 AS, .int .u16 AT, .int .u16 AU, .int .u16 AW, .int .u16 AX, .int .u16 AY], .agg #[.int .i16 BK, .slice BA BE.length A5], .slice E8 Cv.length Fr, .slice Ft DO.length FJ] rfl gl_ ?_; (with_reducible refine (impl_CanStand.calls k8 AM AN AO AP AQ AR AS AT AU AW AX AY BK _ _ BE _ _ Cv _ _ DO IX DH _ ?side1 ?side2 ?side3 ?side4 ?side5 ?side6 JZ.out).mono ?_); (case side1 => exact sC Al); (case side2 => exact sL Al); (case side3 => exact sC A3); (case side4 => exact sL A3); (case side5 => exact sC BH); (case side6 => exact sL BH); rintro e LQ ⟨rfl, hb⟩; refine ⟨_, rfl, ?_⟩; replace Am := kR Am hb; replace AC := kR AC hb; replace AB := kR AB hb; replace Al := kR Al hb; replace A3 := kR A3 hb; replace BH := kR BH hb; replace Cs := kR Cs hb; replace GH := kR GH hb; replace AA := kK AA hb; replace AF := kK AF hb; replace AE := kK AE hb; replace Ao := kK Ao hb; replace HB := ak (below_step (zH4 HB AH AI AK BD) hb); (try clear hb)))
 go_loopg [31, 32] k8 (fun kq Le LI w' => ∃ (Ct : Int) (A7 : Int), Le = .int .i64 Ct ∧ LI = .int .i64 A7 ∧ Aside0 (laws_FnSlacks.l3 kq GP BI Bk DL IX DH Ct A7 = some r) ∧ Aside0 (kq ≤ k8) ∧ Aside0 (Kd.R (Kd.int .i64) 2 w' w.heap.size (fun k_ => some k_ ≠ (Im : Value).ownBlock) H0 GP) ∧ Aside0 (Kd.R (Kd.int .i64) 2 w' w.heap.size (fun k_ => some k_ ≠ (H0 : Value).ownBlock) Im Bk) ∧ Aside0 (Kd.R (Kd.int .i16) 29 w' w.heap.size (fun k_ => some k_ ≠ ((.slice Af AL.length Ae) : Value).ownBlock ∧ some k_ ≠ ((.slice BA BE.length A5) : Value).ownBlock) (.slice Aj Ad.length Ai) Ad) ∧ Aside0 (Kd.R (Kd.int .i16) 29 w' w.heap.size (fun k_ => some k_ ≠ ((.slice Aj Ad.length Ai) : Value).ownBlock ∧ some k_ ≠ ((.slice BA BE.length A5) : Value).ownBlock) (.slice Af AL.length Ae) AL) ∧ Aside0 (Kd.R (Kd.int .i16) 29 w' w.heap.size (fun k_ => some k_ ≠ ((.slice Aj Ad.length Ai) : Value).ownBlock ∧ some k_ ≠ ((.slice Af AL.length Ae) : Value).ownBlock) (.slice BA BE.length A5) BE) ∧ Aside0 (w'.heap[AD]? = some (.cells #[.int .i8 AM, .int .i8 AN, .int .u16 AO, .int .u16 AP, .int .u16 AQ, .int .u16 AR, .int .u16 AS, .int .u16 AT, .int .u16 AU, .int .u16 AW, .int .u16 AX, .int .u16 AY] 35 (0, 0))) ∧ Aside0 (w'.heap[An]? = some (.cells #[.int .i16 BF, (.slice Aj Ad.length Ai)] 32 (0, 0))) ∧ Aside0 (w'.heap[AZ]? = some (.cells #[.int .i16 Ag, (.slice Af AL.length Ae)] 32 (0, 0))) ∧ Aside0 (w'.heap[BB]? = some (.cells #[.int .i16 BK, (.slice BA BE.length A5)] 32 (0, 0))) ∧ Aside0 (Below w.heap.size w w'))
 case atStart => exact ⟨(0), (0), (by first | rfl | (simp; done) | (simp [*]; done)), (by first | rfl | (simp; done) | (simp [*]; done)), H', ⟨Nat.le_refl _⟩, ⟨by (with_reducible repeat (first | apply Kd.R_alloc | apply Kd.R_drewN | apply Kd.R_drew)); exact Kd.R_mono Cs.out (fun _ hk => hk.2)⟩, ⟨by (with_reducible repeat (first | apply Kd.R_alloc | apply Kd.R_drewN | apply Kd.R_drew)); exact Kd.R_mono GH.out (fun _ hk => hk.2)⟩, ⟨(zR AC.out)⟩, ⟨(zR AB.out)⟩, ⟨by (with_reducible repeat (first | apply Kd.R_alloc | apply Kd.R_drewN | apply Kd.R_drew)); exact Kd.R_mono Al.out (fun _ hk => ⟨hk.1.2, hk.2⟩)⟩, ⟨(zK AA.out)⟩, ⟨(zK AF.out)⟩, ⟨(zK AE.out)⟩, ⟨(zK Ao.out)⟩, ⟨zH4 HB AH AI AK BD⟩⟩
 case round => (
 clear H'
 try clear c1
 try clear c7
 try clear E0
 try clear Ce
 try clear Gp
 try clear Gw
 try clear Gl
 try clear DU
 try clear Ef
 try clear DM
 try clear GE
 try clear CQ
 try clear Bs
 try clear BZ
 try clear Bg
 try clear Co
 try clear CD
 try clear CJ
 try clear CH
 try clear CT
 try clear CY
 try clear B9
 try clear Cp
 try clear Cl
 try clear B3
 try clear CN
 try clear CV
 try clear Ba
 try clear BY
 try clear CR
 try clear Bt
 try clear Bq
 try clear CW
 try clear CO
 try clear Br
 try clear Bv
 try clear CX
 try clear By
 try clear Cc
 try clear FG
 try clear GF
 try clear FH
 try clear Fn
 try clear Ec
 try clear Ee
 try clear Fz
 try clear FP
 try clear Gc
 try clear GV
 try clear FD
 try clear FE
 try clear Fo
 try clear F3
 try clear FQ
 try clear FR
 try clear Ej
 try clear Et
 try clear GJ
 try clear Fl
 try clear E9
 try clear GD
 try clear FS
 try clear Fx
 try clear Fm
 try clear GB
 try clear FZ
 try clear Fe
 try clear Fq
 try clear GN
 try clear Ep
 try clear Es
 try clear Gd
 try clear Fd
 try clear Fu
 try clear GG
 try clear Fw
 try clear GA
 try clear Gg
 try clear Fv
 try clear E4
 try clear FU
 try clear GZ
 try clear Fa
 try clear Em
 try clear Ek
 try clear F9
 try clear FX
 try clear FN
 try clear Fi
 try clear FV
 try clear Fg
 try clear Ff
 try clear E6
 try clear F0
 try clear FT
 try clear CZ
 try clear Ci
 try clear Be
 try clear BW
 try clear CF
 try clear CG
 try clear Bz
 try clear Cg
 try clear Bu
 try clear CU
 try clear Ch
 try clear CK
 try clear Cd
 try clear Cf
 try clear Cm
 try clear Cb
 try clear Bb
 try clear Bd
 try clear CC
 try clear Bw
 try clear Ck
 try clear CP
 try clear CE
 try clear CI
 try clear Bx
 try clear CM
 try clear Cj
 try clear Cn
 try clear F7
 try clear FK
 try clear F4
 try clear E3
 try clear Ey
 try clear Ed
 try clear FM
 try clear E5
 try clear F8
 try clear F2
 try clear FA
 try clear Fb
 try clear GT
 try clear GQ
 try clear GO
 try clear GC
 try clear Ea
 try clear En
 try clear F5
 try clear Gb
 try clear FC
 try clear FL
 try clear Fk
 try clear GY
 try clear FO
 try clear Ga
 try clear Gi
 try clear Fh
 try clear F6
 try clear FY
 try clear Ew
 try clear Ei
 try clear GX
 try clear FF
 try clear F1
 try clear E2
 try clear Gh
 try clear GK
 try clear E1
 try clear Fs
 try clear Fc
 try clear E7
 try clear GW
 try clear GU
 try clear Eo
 try clear Eg
 try clear Fp
 try clear GS
 try clear Fj
 try clear GM
 try clear Fy
 try clear GL
 try clear Gf
 try clear GI
 try clear FW
 try clear Ge
 obtain ⟨Ct, A7, rfl, rfl, HA, KO, CS, BT, AC, AB, Eh, AA, AF, AE, Ao, HB⟩ := hrel
 cases gk with
 | zero => exact absurd HA.out (by simp [laws_FnSlacks.l3])
 | succ k9 => (
 have H := HA.out
 clear HA
 simp only [laws_FnSlacks.l3] at H
 by_cases Ex : A7 < (Bk.length : Int)
 {
 rw [if_pos Ex] at H
 have HH : decide (A7 < (Bk.length : Int)) = true := decide_eq_true Ex
 clear Ex
 by_cases Go : 0 ≤ A7
 {
 rw [if_pos Go] at H
 have J0 : decide (0 ≤ A7) = true := decide_eq_true Go
 clear Go
 obtain ⟨Gy, Cx⟩ : ∃ j_ : Int, (mn Ct (rd Bk A7)) = j_ := ⟨_, rfl⟩
 first | rw [Cx] at H | simp only [Cx] at H
 have I7 : (if (rd Bk A7) < Ct then (rd Bk A7) else Ct) = Gy := Cx
 have H' := ak H
 clear H
 obtain ⟨KA, KC, Ii⟩ := Kd.R_slice BT.out
 subst Ii
 have G5 : 0 ≤ (A7 : Int) := of_decide_eq_true (by first | (with_reducible assumption) | assumption)
 have HK : A7 < (Bk.length : Int) := of_decide_eq_true (by first | (with_reducible assumption) | assumption)
 obtain ⟨KS, Jw, JH⟩ := Kd.at_int (Kd.R_reads' BT.out).2.2 A7 G5 HK
 cases Jw
 replace G5 := eq_true G5
 replace HK := eq_true HK
 go_wp2
 go_roundg k9
 case measure => have := Bj.out; have := Ay.out; have := Bl.out; have := Bc.out; have := Cq.out; have := Gj.out; have := Gr.out; have := JC.out; have := KO.out; omega
 case rel => exact ⟨(Gy), (wrap64 (A7 + 1)), (by first | rfl | (simp; done) | (simp only [← Cx] <;> (first | rfl | simp)) | (simp [*]; done)), (by first | rfl | (simp; done) | (simp [*]; done)), H', ⟨by have := Bj.out; have := Ay.out; have := Bl.out; have := Bc.out; have := Cq.out; have := Gj.out; have := Gr.out; have := JC.out; have := KO.out; omega⟩, ⟨(zR CS.out)⟩, ⟨(zR BT.out)⟩, ⟨(zR AC.out)⟩, ⟨(zR AB.out)⟩, ⟨(zR Eh.out)⟩, ⟨(zK AA.out)⟩, ⟨(zK AF.out)⟩, ⟨(zK AE.out)⟩, ⟨(zK Ao.out)⟩, ⟨zH4 HB AH AI AK BD⟩⟩
 }
 · rw [if_neg Go] at H; exact absurd H (by simp)
 }
 {
 rw [if_neg Ex] at H
 have HH : decide (A7 < (Bk.length : Int)) = false := decide_eq_false Ex
 clear Ex
 by_cases DP : BI = DL
 {
 rw [if_pos DP] at H
 have HW : (BI == DL) = true := beq_iff_eq.mpr DP
 have G7 : (BI != DL) = false := bne_eq_false_iff_eq.mpr DP
 clear DP
 replace H := Option.bind_eq_some_iff.mp H
 obtain ⟨Jj, G2, H⟩ := H
 have Hw := ak G2
 clear G2
 by_cases Gk : Jj = true
 {
 subst Gk
 rw [if_pos rfl] at H
 by_cases DJ : DH = BI
 {
 rw [if_pos DJ] at H
 have Hb : (DH == BI) = true := beq_iff_eq.mpr DJ
 have HY : (DH != BI) = false := bne_eq_false_iff_eq.mpr DJ
 clear DJ
 by_cases DQ : BI = 0
 {
 rw [if_pos DQ] at H
 have HC : (BI == 0) = true := beq_iff_eq.mpr DQ
 have G6 : (BI != 0) = false := bne_eq_false_iff_eq.mpr DQ
 clear DQ
 obtain rfl := Option.some.inj H
 obtain ⟨K6, KU, IG⟩ := Kd.R_slice BT.out
 subst IG
 obtain ⟨Kw, K3, IF⟩ := Kd.R_slice CS.out
 subst IF
 go_wp2_with (first | (go_at_call 35; (with_reducible refine (spec_SameNumbers.calls k9 _ _ GP _ _ Bk true _ ?side1 ?side2 ?side3 ?side4 Hw.out).mono ?_); (case side1 => exact sC CS); (case side2 => exact sL CS); (case side3 => exact sC BT); (case side4 => exact sL BT); rintro e w' ⟨rfl, ⟨nd, rfl⟩⟩))
 go_ret
 exact ⟨by first | rfl | (simp [errW_none, errW_some] <;> rfl) | (simp [*, errW_none, errW_some] <;> rfl), zH4 HB AH AI AK BD⟩
 }
 {
 rw [if_neg DQ] at H
 have HC : (BI == 0) = false := beq_eq_false_iff_ne.mpr DQ
 have G6 : (BI != 0) = true := bne_iff_ne.mpr DQ
 obtain rfl := Option.some.inj H
 obtain ⟨Kc, KJ, Ic⟩ := Kd.R_slice BT.out
 subst Ic
 obtain ⟨Ks, KG, Hv⟩ := Kd.R_slice CS.out
 subst Hv
 go_wp2_with (first | (go_at_call 35; (with_reducible refine (spec_SameNumbers.calls k9 _ _ GP _ _ Bk true _ ?side1 ?side2 ?side3 ?side4 Hw.out).mono ?_); (case side1 => exact sC CS); (case side2 => exact sL CS); (case side3 => exact sC BT); (case side4 => exact sL BT); rintro e w' ⟨rfl, ⟨nd, rfl⟩⟩))
 go_ret
 exact ⟨by first | rfl | (simp [errW_none, errW_some] <;> rfl) | (simp [*, errW_none, errW_some] <;> rfl), zH4 HB AH AI AK BD⟩
 }
 }
 · rw [if_neg DJ] at H; have Hb : (DH == BI) = false := beq_eq_false_iff_ne.mpr DJ; have HY : (DH != BI) = true := bne_iff_ne.mpr DJ; exact absurd ((Option.some.inj H).trans HT.out) (by decide)
 }
 {
 replace Gk := Bool.eq_false_iff.mpr Gk
 subst Gk
 rw [if_neg (show ¬ (false = true) by decide)] at H
 exact absurd ((Option.some.inj H).trans HT.out) (by decide)
 }
 }
 · rw [if_neg DP] at H; have HW : (BI == DL) = false := beq_eq_false_iff_ne.mpr DP; have G7 : (BI != DL) = true := bne_iff_ne.mpr DP; exact absurd ((Option.some.inj H).trans HT.out) (by decide)
 }
 )
 )
 }
 )
 )
 }
 )
 )
 }
 )
 )
 }
 )
 )
 }
 )
 )
 }
 )
 )
 }
 )
 )
 }
 )
 )
theorem laws_FnSlacks.walk (P : laws_FnSlacks.Pure) (a0 : Option Addr) (AD AB : Nat) (z0 : List Int) (a1 : Option Addr) (AC AA : Nat) (z1 : List Int) (w : World) (w0 : (a0 = none ∧ AD = 0 ∧ AB = 0 ∧ z0 = []) ∨ ∃ x, a0 = some x ∧ AD ≤ AB ∧ AB ≤ maxLen ∧ z0.length = AB ∧ (∀ i, i < z0.length → w.cell? (x.add i) = some (.int .u8 (z0.getD i 0))) ∧ ∀ n ∈ z0, (Lit.int .u8 n).wf = true) (y0 : AD * 1 ≤ 140737488351232) (w1 : (a1 = none ∧ AC = 0 ∧ AA = 0 ∧ z1 = []) ∨ ∃ x, a1 = some x ∧ AC ≤ AA ∧ AA ≤ maxLen ∧ z1.length = AA ∧ (∀ i, i < z1.length → w.cell? (x.add i) = some (.int .u8 (z1.getD i 0))) ∧ ∀ n ∈ z1, (Lit.int .u8 n).wf = true) (y1 : AC * 1 ≤ 140737488351232) :
    Calls Try.prog 5 #[.slice a0 AD AB, .slice a1 AC AA] w fun e w' => e = .returned (.bool true) ∧ Below w.heap.size w w' := by
  obtain ⟨l0, rfl, AG, AE, AL, AF⟩ := ReadsInt.ofRowC w0
  obtain ⟨l1, rfl, AJ, AI, AH, AK⟩ := ReadsInt.ofRowC w1
  obtain ⟨k, h⟩ := P l0 l1 AE y0 AL AI y1 AH
  refine (laws_FnSlacks.calls k _ _ l0 _ _ l1 true w (Kd.C_of_reads (d := (0 : Int)) (h1 := fun _ => rfl) AG) AF (Kd.C_of_reads (d := (0 : Int)) (h1 := fun _ => rfl) AJ) AK rfl h).mono ?_
  rintro e w' ⟨rfl, hd⟩
  exact ⟨rfl, hd⟩

end Go.Proofs.Ytooidjdgfoioiaa.P
