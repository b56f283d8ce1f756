-- Printed by wip/print (my turned copy of the kit's print) out of the translation; Lean checks it.
import Derived.Test.YtlggjfhoecaelaaGreatDoorP0
import Derived.Test.YtlggjfhoecaelaaGreatDoorP1
import Derived.Test.YtlggjfhoecaelaaGreatDoorP2
import Derived.Test.YtlggjfhoecaelaaGreatDoorP3
import Derived.Test.YtlggjfhoecaelaaGreatDoorP4
import Derived.Test.YtlggjfhoecaelaaGreatDoorP6
import Derived.Test.YtlggjfhoecaelaaGreatDoorP7
import Derived.Test.YtlggjfhoecaelaaGreatDoorP8
import Derived.Test.YtlggjfhoecaelaaGreatDoorP10
import Derived.Test.YtlggjfhoecaelaaGreatDoorP11
import Derived.Test.YtlggjfhoecaelaaGreatDoorP12
import Derived.Test.YtlggjfhoecaelaaGreatDoorP13
import Derived.Test.YtlggjfhoecaelaaGreatDoorP14
import Derived.Test.YtlggjfhoecaelaaGreatDoorP15
import Derived.Test.YtlggjfhoecaelaaGreatDoorP16
import Derived.Test.YtlggjfhoecaelaaGreatDoorP17
import Derived.Test.YtlggjfhoecaelaaGreatDoorP18
import Derived.Test.YtlggjfhoecaelaaGreatDoorP19
namespace Go.Proofs.YtlggjfhoecaelaaGreatDoor.P
open Go.RowKit Go.Proofs.YtlggjfhoecaelaaGreatDoorW.PrintWords Go.Proofs.YtlggjfhoecaelaaGreatDoorW.PrintLast Go.Proofs.YtlggjfhoecaelaaGreatDoorW.PrintMore
attribute [local go_sem] max2_int min2_int max_two min_two max_three min_three max_four min_four   -- for this text's walks alone
set_option linter.unusedVariables false
set_option linter.unusedSimpArgs false

attribute [local go_sem high] eqA52

/-! cuts and loops that forget slots by one function (cutu.py) -/
def frU (u : Nat → Value) : Nat → List Value → Nat → List Value
  | _, [], _ => []
  | i, v :: r, M => cond (M % 2 == 1) (u i) v :: frU u (i + 1) r (M / 2)
theorem frU_self (L : List Value) (r : List Value) : ∀ (i M : Nat), (∀ j, r[j]? = L[i + j]?) → frU (fun i => L.getD i undef) i r M = r := by
  induction r with
  | nil => intro i M _; rfl
  | cons v r ih =>
    intro i M h
    have h0 : L[i]? = some v := by have := h 0; simpa using this.symm
    have hr : frU (fun i => L.getD i undef) (i + 1) r (M / 2) = r := ih (i + 1) (M / 2) (fun j => by
      have := h (j + 1)
      rw [List.getElem?_cons_succ] at this
      rw [this]; congr 1; omega)
    rw [frU, hr]
    cases M % 2 == 1
    · rfl
    · show L.getD i undef :: r = v :: r
      rw [List.getD_eq_getElem?_getD, h0]; rfl
theorem wp_cutM {P : Program} {s : Code} {K : Act → World → Prop} {Q' : Exit → Act → World → Prop} {L0 : List Value} {D : List Deferred} {w : World} (M : Nat) (R : (Nat → Value) → World → Prop)
    (first : ∀ (J K' : Act → World → Prop), (∀ u w', R u w' → J ⟨(frU u 0 L0 M).toArray, D⟩ w') → (∀ a' w', Met J a' w' → K' a' w') → s.wp P (Exit.then K' Q') ⟨L0.toArray, D⟩ w)
    (rest : ∀ u w', R u w' → K ⟨(frU u 0 L0 M).toArray, D⟩ w') : s.wp P (Exit.then K Q') ⟨L0.toArray, D⟩ w :=
  wp_cut (fun a' w' => ∃ u, R u w' ∧ a' = ⟨(frU u 0 L0 M).toArray, D⟩) (fun a' w' ⟨u, h, e⟩ => by subst e; exact rest u w' h)
    (fun J K' hJ hK => first J K' (fun u w' h => hJ _ _ ⟨u, h, rfl⟩) hK)
theorem meetM {J : Act → World → Prop} {R : (Nat → Value) → World → Prop} {L0 L1 : List Value} {D : List Deferred} {M : Nat} {w : World} (hJ : ∀ u w', R u w' → J ⟨(frU u 0 L0 M).toArray, D⟩ w') (hL : L1 = frU (fun i => L1.getD i undef) 0 L0 M) (hR : R (fun i => L1.getD i undef) w) : Met J ⟨L1.toArray, D⟩ w := by
  have h := hJ _ w hR
  rw [← hL] at h
  exact Met.intro h
theorem wp_loopM {P : Program} {c : Code} {Q : Exit → Act → World → Prop} {L0 : List Value} {D : List Deferred} {w : World} (M n0 : Nat) (R : Nat → (Nat → Value) → World → Prop) (atStart : R n0 (fun i => L0.getD i undef) w)
    (round : ∀ gk u wr, R gk u wr → ∀ (J : Nat → Act → World → Prop) (K : Act → World → Prop), (∀ k u' w', R k u' w' → J k ⟨(frU u' 0 L0 M).toArray, D⟩ w') → (∀ a' w', Handed J gk a' w' → K a' w') → c.wp P (Exit.then K Q) ⟨(frU u 0 L0 M).toArray, D⟩ wr) : (Code.loop c).wp P Q ⟨L0.toArray, D⟩ w :=
  wp_loop_ghost_k (fun k a' w' => ∃ u, R k u w' ∧ a' = ⟨(frU u 0 L0 M).toArray, D⟩) n0 ⟨_, atStart, by rw [frU_self L0 L0 0 M (fun j => by rw [Nat.zero_add])]⟩
    (fun n a w ⟨u, h, e⟩ J K hJ hK => by subst e; exact round n u w h J K (fun k u' w' h => hJ k _ _ ⟨u', h, rfl⟩) hK)
theorem handM {J : Nat → Act → World → Prop} {R : Nat → (Nat → Value) → World → Prop} {L0 L1 : List Value} {D : List Deferred} {M n : Nat} {w : World} (k : Nat) (hJ : ∀ k u' w', R k u' w' → J k ⟨(frU u' 0 L0 M).toArray, D⟩ w') (measure : k < n) (hL : L1 = frU (fun i => L1.getD i undef) 0 L0 M) (rel : R k (fun i => L1.getD i undef) w) : Handed J n ⟨L1.toArray, D⟩ w := by
  have h := hJ k _ w rel
  rw [← hL] at h
  exact Handed.intro k measure h
set_option maxHeartbeats 80000000 in
set_option maxRecDepth 100000 in
theorem laws_FnRopes.calls (k : Nat) (A0 : Option Addr) (c0 : Nat) (l0 : List Int) (A1 : Option Addr) (c1 : Nat) (l1 : List Int) (Ag : Int)  (r : Bool) (w : World) (SM : Kd.C (Kd.int .u8) w A0 l0.length l0) (SS : l0.length ≤ c0) (RG : Kd.C (Kd.int .u8) w A1 l1.length l1) (Rs : l1.length ≤ c1) (Hu : w.heap[0]? = some (.cells #[.int .i64 Ag] 3 (0, 0))) (hgt : Go.Proofs.YtlggjfhoecaelaaGreatDoor.H.Tab10 w) (hT : r = true) (h : laws_FnRopes.f k l0 l1 Ag = some r) :
    Calls Tryz.prog 3 #[.slice A0 l0.length c0, .slice A1 l1.length c1] w fun e w' => e = .returned (.bool r) ∧ Below w.heap.size w w' := by
 have Sl := Tryz.underlying27
 have Sh := Tryz.underlying52
 have Mf := ak SM
 have Mt := ak SS
 clear SM SS
 have JW := ak RG
 have JS := ak Rs
 clear RG Rs
 have HT := ak hT
 clear hT
 have AD := ak Hu
 clear Hu
 have SG := ak hgt
 clear hgt
 have HB := ak (Below.refl w.heap.size w)
 have H := h
 unfold laws_FnRopes.f at H
 clear h
 have PI := ak H
 clear H
 go_enter Tryz.func3, Tryz.ntmps3
 go_upto_region 1 with (fail)
 refine wp_cutM 3773962424821541352241554580988268890916921220416440428376206300245624162392148852086126725177658767541468375030763844899770584629924792632561434251432407813273243615232 (fun (u : Nat → Value) wc => ∃ (kq : Nat) (F1 : Bool), u 63 = .bool F1 ∧ Aside0 (laws_FnRopes.j0 kq l0 l1 F1 Ag = some r) ∧ Aside0 (kq ≤ k) ∧ Aside0 (wc.heap[0]? = some (.cells #[.int .i64 Ag] 3 (0, 0))) ∧ Aside0 (Below w.heap.size w wc)) ?first ?rest
 case first => (
 intro J_ K_ MT hK_
 have H := PI.out
 clear PI
 replace H := Option.bind_eq_some_iff.mp H
 obtain ⟨Oh, R6, H⟩ := H
 have A6 := ak R6
 clear R6
 by_cases c7 : Oh = true
 {
 subst c7
 rw [if_pos rfl] at H
 have H' := ak H
 clear H
 go_wp2_with (first | ((with_reducible refine gate_callee (f := 4) rfl ?_); refine goesL_ (some 59) rfl rfl Tryz.func4 (by kernel_rfl) rfl #[.slice A0 l0.length c0] rfl gl_ ?_; (with_reducible refine (laws_f6big.calls _ _ l0 true _ ?side1 ?side2 A6.out).mono ?_); (case side1 => exact sQ (Kd.C_below Mf.out HB.out)); (case side2 => exact Mt.out); rintro e w' ⟨rfl, ⟨nd, rfl⟩⟩; refine ⟨_, rfl, ?_⟩))
 refine meetM MT (by kernel_rfl) ?rel
 case rel => dsimp only [List.getD_cons_succ, List.getD_cons_zero]; exact ⟨_, (true), (by first | rfl | (simp; done) | (simp [*]; done)), H', ⟨by first | omega | exact Nat.le_refl _⟩, ⟨(zK AD.out)⟩, ⟨zB HB.out⟩⟩
 }
 {
 replace c7 := Bool.eq_false_iff.mpr c7
 subst c7
 rw [if_neg (show ¬ (false = true) by decide)] at H
 replace H := Option.bind_eq_some_iff.mp H
 obtain ⟨Kj, RK, H⟩ := H
 have A8 := ak RK
 clear RK
 have H' := ak H
 clear H
 go_wp2_with (first | ((with_reducible refine gate_callee (f := 4) rfl ?_); refine goesL_ (some 59) rfl rfl Tryz.func4 (by kernel_rfl) rfl #[.slice A0 l0.length c0] rfl gl_ ?_; (with_reducible refine (laws_f6big.calls _ _ l0 false _ ?side1 ?side2 A6.out).mono ?_); (case side1 => exact sQ (Kd.C_below Mf.out HB.out)); (case side2 => exact Mt.out); rintro e w' ⟨rfl, ⟨nd, rfl⟩⟩; refine ⟨_, rfl, ?_⟩) | (go_at_call 4; (with_reducible refine (laws_f6big.calls _ _ l1 Kj _ ?side1 ?side2 A8.out).mono ?_); (case side1 => exact sQ (Kd.C_below JW.out (zB HB.out))); (case side2 => exact JS.out); rintro e w' ⟨rfl, ⟨nd, rfl⟩⟩))
 refine meetM MT (by kernel_rfl) ?rel
 case rel => dsimp only [List.getD_cons_succ, List.getD_cons_zero]; exact ⟨_, (Kj), (by first | rfl | (simp; done) | (simp [*]; done)), H', ⟨by first | omega | exact Nat.le_refl _⟩, ⟨(zK AD.out)⟩, ⟨zB HB.out⟩⟩
 }
 )
 case rest => (
 intro Tf wc hcut
 dsimp only [frU, cond, Nat.reduceMod, Nat.reduceDiv, Nat.reduceAdd, Nat.reduceBEq, Nat.reduceEqDiff, beq_self_eq_true]
 clear PI
 try clear c1
 obtain ⟨kq, F1, Gp, HA, DO, AD, HB⟩ := hcut
 rw [Gp]
 clear Gp
 cases kq with
 | zero => exact absurd HA.out (by simp [laws_FnRopes.j0])
 | succ GZ => (
 have H := HA.out
 clear HA
 simp only [laws_FnRopes.j0] at H
 by_cases c9 : F1 = true
 {
 subst c9
 rw [if_pos rfl] at H
 obtain rfl := Option.some.inj H
 go_wp2
 go_ret
 exact ⟨by first | rfl | (simp [errW_none, errW_some] <;> rfl) | (simp [*, errW_none, errW_some] <;> rfl), zB HB.out⟩
 }
 {
 replace c9 := Bool.eq_false_iff.mpr c9
 subst c9
 rw [if_neg (show ¬ (false = true) by decide)] at H
 replace H := Option.bind_eq_some_iff.mp H
 obtain ⟨⟨AN, AF⟩, MV, H⟩ := H
 have S9 := ak MV
 clear MV
 replace H := Option.bind_eq_some_iff.mp H
 obtain ⟨AP, Jn, H⟩ := H
 have TX := ak Jn
 clear Jn
 replace H := Option.bind_eq_some_iff.mp H
 obtain ⟨Ik, LS, H⟩ := H
 have TT := ak LS
 clear LS
 replace H := Option.bind_eq_some_iff.mp H
 obtain ⟨⟨BW, AR, GQ⟩, Kq, H⟩ := H
 have S5 := ak Kq
 clear Kq
 replace H := Option.bind_eq_some_iff.mp H
 obtain ⟨⟨Lu, Dq⟩, Lm, H⟩ := H
 have TF := ak Lm
 clear Lm
 replace H := Option.bind_eq_some_iff.mp H
 obtain ⟨⟨C6, GX⟩, HH, H⟩ := H
 have TO := ak HH
 clear HH
 have Is := ak H
 clear H
 go_upto_region 8 with (first | ((with_reducible refine gate_callee (f := 5) rfl ?_); refine goesL_ (some 65) rfl rfl Tryz.func5 (by kernel_rfl) rfl #[.slice A0 l0.length c0] rfl gl_ ?_; (with_reducible refine (spec_P6Rope.calls GZ _ _ l0 AN AF _ ?side1 ?side2 S9.out).mono ?_); (case side1 => exact sQ (Kd.C_below Mf.out HB.out)); (case side2 => exact Mt.out); rintro e Tc ⟨St, rfl, Ay, hb⟩; refine ⟨_, rfl, ?_⟩; have Ac := ak (Kd.R_lower Ay (below_size (zB HB.out))); replace AD := kK AD hb; replace HB := kB HB hb; (try clear hb); (try clear Ay)) | ((with_reducible refine gate_dst (N := 5) rfl ?_); (try (refine gate_guard (by rfl) ?_; dsimp only)); refine box_event ?hg (N := 5) ?hd (cs := #[.int .i16 0, .slice none 0 0]) (t := 27) ?hr ?_; (case hd => rfl); (case hg => rfl); (case hr => first | (go_simp; done) | (go_simp; rfl)); intro AQ hg TR hbox hb; have AC := ak (hbox); have RU := gS HB hg; have AG := gS HB hg; have Aq := nL AD hg; have BC := nG AD hg; replace Ac := kR Ac hb; replace AD := kK AD hb; replace HB := kB HB hb; clear hb hbox hg; have RQ := BC.out; have SK := Aq.out; obtain ⟨Dh, Dd, Di, Da⟩ := cz2 TR AC; obtain ⟨Bd, AO, Pb⟩ := Kd.R_slice Ac.out; subst Pb) | ((with_reducible refine gate_callee (f := 6) rfl ?_); refine goesL_ (some 68) rfl rfl Tryz.func6 (by kernel_rfl) rfl #[.slice A1 l1.length c1, .agg #[.int .i16 AN, .slice Bd AF.length AO]] rfl gl_ ?_; (with_reducible refine (spec_P6Holds.calls GZ _ _ l1 AN _ _ AF AP _ ?side1 ?side2 ?side3 ?side4 TX.out).mono ?_); (case side1 => exact Kd.C_below JW.out (zBG HB.out AG.out)); (case side2 => exact JS.out); (case side3 => refine (Kd.R_reads' (e := 24) (base := w.heap.size) (ok := fun k_ => True) (n := AF.length) (c := AO) ?_).2.2; exact (by (with_reducible repeat (first | apply Kd.R_alloc | apply Kd.R_drewN | apply Kd.R_drew)); exact (Kd.R_mono (Kd.R_far (p := ⟨AQ, 1, none⟩) (Kd.R_far (p := ⟨AQ, 0, none⟩) (Kd.R_types Ac.out AC.out (by decide)) (fun _ hk => hk.2) (.int .i16 AN)) (fun _ hk => hk.2) (.slice Bd AF.length AO)) (fun _ h_ => h_.1)))); (case side4 => exact sL Ac); rintro e TV ⟨HC, rfl, Ay, hb⟩; refine ⟨_, rfl, ?_⟩; have BP := ak (Kd.R_lower Ay (below_size (zBG HB.out AG.out))); replace Ac := ak (Kd.R_below (by (with_reducible repeat (first | apply Kd.R_alloc | apply Kd.R_drewN | apply Kd.R_drew)); exact (Kd.R_mono (Kd.R_far (p := ⟨AQ, 1, none⟩) (Kd.R_far (p := ⟨AQ, 0, none⟩) (Kd.R_types Ac.out AC.out (by decide)) (fun _ hk => hk.2) (.int .i16 AN)) (fun _ hk => hk.2) (.slice Bd AF.length AO)) (fun _ h_ => h_.1))) hb); replace AD := ak (blk_below (g := 0) (o := .cells #[.int .i64 Ag] 3 (0, 0)) (by (with_reducible repeat (first | refine blk_drewN ?_ _ | refine blk_drew ?_ | refine blk_alloc ?_ _)); refine blk_far ?_ Aq.out _; (with_reducible repeat (first | refine blk_drewN ?_ _ | refine blk_drew ?_ | refine blk_alloc ?_ _)); refine blk_far ?_ Aq.out _; (with_reducible repeat (first | refine blk_drewN ?_ _ | refine blk_drew ?_ | refine blk_alloc ?_ _)); exact AD.out) hb); replace AC := ak (blk_below (g := AQ) (o := .cells #[.int .i16 AN, .slice Bd AF.length AO] 27 (0, 0)) (by (with_reducible repeat (first | refine blk_drewN ?_ _ | refine blk_drew ?_ | refine blk_alloc ?_ _)); refine blk_put (cs := #[.int .i16 AN, .slice none 0 0]) ?_ 1 _ rfl; (with_reducible repeat (first | refine blk_drewN ?_ _ | refine blk_drew ?_ | refine blk_alloc ?_ _)); refine blk_put (cs := #[.int .i16 0, .slice none 0 0]) ?_ 0 _ rfl; (with_reducible repeat (first | refine blk_drewN ?_ _ | refine blk_drew ?_ | refine blk_alloc ?_ _)); exact AC.out) hb); replace HB := kB1 HB AG hb; (try clear hb); (try clear hk); (try clear Ay); obtain ⟨Dg, DY, DV, DP⟩ := cz2 TV AC) | ((with_reducible refine gate_callee (f := 8) rfl ?_); refine goesL_ (some 71) rfl rfl Tryz.func8 (by kernel_rfl) rfl #[.agg #[.int .i16 AN, .slice Bd AF.length AO]] rfl gl_ ?_; (with_reducible refine (impl_RopeText.calls GZ AN _ _ AF  Ik _ ?side1 ?side2 ?side3 TT.out).mono ?_); (case side1 => exact sC Ac); (case side2 => exact sL Ac); (case side3 => exact Go.Proofs.YtlggjfhoecaelaaGreatDoor.H.tab10_below SG.out (zBG HB.out AG.out)); rintro e Th ⟨rfl, hb⟩; refine ⟨_, rfl, ?_⟩; replace Ac := kR Ac hb; replace BP := kR BP hb; replace AD := kK AD hb; replace AC := kK AC hb; replace HB := kB1 HB AG hb; (try clear hb)) | ((with_reducible refine gate_callee (f := 7) rfl ?_); refine goesL_ (some 72) rfl rfl Tryz.func7 (by kernel_rfl) rfl #[.string Ik] rfl gl_ ?_; (with_reducible refine (impl_ReadRope.calls GZ Ik Ag  BW AR GQ _ ?side1 ?side2 S5.out).mono ?_); (case side1 => exact (zK AD.out)); (case side2 => exact Go.Proofs.YtlggjfhoecaelaaGreatDoor.H.tab10_below SG.out (zBG HB.out AG.out)); rintro e Tb ⟨TH, rfl, Ay, hb⟩; refine ⟨_, rfl, ?_⟩; have BZ := ak (Kd.R_lower (Kd.R_new' Ay (Kd.R_lt (zR Ac.out))) (below_size (zBG HB.out AG.out))); replace Ac := kE Ac Ay hb; replace BP := kR BP hb; replace AD := kK AD hb; replace AC := kK AC hb; replace HB := kB1 HB AG hb; (try clear hb); (try clear Ay)) | ((with_reducible refine gate_dst (N := 7) rfl ?_); (try (refine gate_guard (by rfl) ?_; dsimp only)); refine box_event ?hg (N := 7) ?hd (cs := #[.int .i16 0, .slice none 0 0]) (t := 27) ?hr ?_; (case hd => rfl); (case hg => rfl); (case hr => first | (go_simp; done) | (go_simp; rfl)); intro Ai hg Rb hbox hb; have AE := ak (hbox); have Rf := gS1 HB AG hg; have AH := gS1 HB AG hg; have Ce := nL AD hg; have D7 := nG AD hg; have Ap := nL AC hg; have BB := nG AC hg; replace Ac := kR Ac hb; replace BP := kR BP hb; replace BZ := kR BZ hb; replace AD := kK AD hb; replace AC := kK AC hb; replace HB := kB1 HB AG hb; clear hb hbox hg; have SJ := D7.out; have Ri := Ce.out; have Ry := BB.out; have RY := Ap.out; obtain ⟨DR, Dc, Df, Db⟩ := cz2 Rb AE; obtain ⟨AX, AZ, Q9⟩ := Kd.R_slice BZ.out; subst Q9; obtain ⟨DN, DX, DZ, DT⟩ := cz2 Rb AC) | ((with_reducible refine gate_callee (f := 9) rfl ?_); refine goesL_ (some 77) rfl rfl Tryz.func9 (by kernel_rfl) rfl #[.agg #[.int .i16 AN, .slice Bd AF.length AO]] rfl gl_ ?_; (with_reducible refine (impl_SpacingsOf.calls GZ AN _ _ AF Lu Dq _ ?side1 ?side2 TF.out).mono ?_); (case side1 => refine (Kd.R_reads' (e := 24) (base := w.heap.size) (ok := fun k_ => (True ∧ some k_ ≠ (.slice AX AR.length AZ : Value).ownBlock)) (n := AF.length) (c := AO) ?_).2.2; exact (by (with_reducible repeat (first | apply Kd.R_alloc | apply Kd.R_drewN | apply Kd.R_drew)); exact (Kd.R_mono (Kd.R_far (p := ⟨Ai, 1, none⟩) (Kd.R_far (p := ⟨Ai, 0, none⟩) (Kd.R_types Ac.out AE.out (by decide)) (fun _ hk => hk.2) (.int .i16 BW)) (fun _ hk => hk.2) (.slice AX AR.length AZ)) (fun _ h_ => h_.1)))); (case side2 => exact sL Ac); rintro e S7 ⟨Sp, rfl, Ay, hb⟩; refine ⟨_, rfl, ?_⟩; have B1 := ak (Kd.R_lower Ay (below_size (zH2 HB AG AH))); replace Ac := ak (Kd.R_below (by (with_reducible repeat (first | apply Kd.R_alloc | apply Kd.R_drewN | apply Kd.R_drew)); exact (Kd.R_mono (Kd.R_far (p := ⟨Ai, 1, none⟩) (Kd.R_far (p := ⟨Ai, 0, none⟩) (Kd.R_types Ac.out AE.out (by decide)) (fun _ hk => hk.2) (.int .i16 BW)) (fun _ hk => hk.2) (.slice AX AR.length AZ)) (fun _ h_ => h_.1))) hb); replace BP := ak (Kd.R_below (by (with_reducible repeat (first | apply Kd.R_alloc | apply Kd.R_drewN | apply Kd.R_drew)); exact (Kd.R_mono (Kd.R_far (p := ⟨Ai, 1, none⟩) (Kd.R_far (p := ⟨Ai, 0, none⟩) (Kd.R_types BP.out AE.out (by decide)) (fun _ hk => hk.2) (.int .i16 BW)) (fun _ hk => hk.2) (.slice AX AR.length AZ)) (fun _ h_ => h_.1))) hb); replace BZ := ak (Kd.R_below (by (with_reducible repeat (first | apply Kd.R_alloc | apply Kd.R_drewN | apply Kd.R_drew)); exact (Kd.R_mono (Kd.R_far (p := ⟨Ai, 1, none⟩) (Kd.R_far (p := ⟨Ai, 0, none⟩) (Kd.R_types BZ.out AE.out (by decide)) (fun _ hk => hk.2) (.int .i16 BW)) (fun _ hk => hk.2) (.slice AX AR.length AZ)) (fun _ h_ => h_.1))) hb); replace AD := ak (blk_below (g := 0) (o := .cells #[.int .i64 Ag] 3 (0, 0)) (by (with_reducible repeat (first | refine blk_drewN ?_ _ | refine blk_drew ?_ | refine blk_alloc ?_ _)); refine blk_far ?_ Ce.out _; (with_reducible repeat (first | refine blk_drewN ?_ _ | refine blk_drew ?_ | refine blk_alloc ?_ _)); refine blk_far ?_ Ce.out _; (with_reducible repeat (first | refine blk_drewN ?_ _ | refine blk_drew ?_ | refine blk_alloc ?_ _)); exact AD.out) hb); replace AC := ak (blk_below (g := AQ) (o := .cells #[.int .i16 AN, .slice Bd AF.length AO] 27 (0, 0)) (by (with_reducible repeat (first | refine blk_drewN ?_ _ | refine blk_drew ?_ | refine blk_alloc ?_ _)); refine blk_far ?_ Ap.out _; (with_reducible repeat (first | refine blk_drewN ?_ _ | refine blk_drew ?_ | refine blk_alloc ?_ _)); refine blk_far ?_ Ap.out _; (with_reducible repeat (first | refine blk_drewN ?_ _ | refine blk_drew ?_ | refine blk_alloc ?_ _)); exact AC.out) hb); replace AE := ak (blk_below (g := Ai) (o := .cells #[.int .i16 BW, .slice AX AR.length AZ] 27 (0, 0)) (by (with_reducible repeat (first | refine blk_drewN ?_ _ | refine blk_drew ?_ | refine blk_alloc ?_ _)); refine blk_put (cs := #[.int .i16 BW, .slice none 0 0]) ?_ 1 _ rfl; (with_reducible repeat (first | refine blk_drewN ?_ _ | refine blk_drew ?_ | refine blk_alloc ?_ _)); refine blk_put (cs := #[.int .i16 0, .slice none 0 0]) ?_ 0 _ rfl; (with_reducible repeat (first | refine blk_drewN ?_ _ | refine blk_drew ?_ | refine blk_alloc ?_ _)); exact AE.out) hb); replace HB := kB2 HB AG AH hb; (try clear hb); (try clear hk); (try clear Ay); obtain ⟨De, DW, DS, DU⟩ := cz2 S7 AC) | ((with_reducible refine gate_callee (f := 10) rfl ?_); refine goesL_ (some 82) rfl rfl Tryz.func10 (by kernel_rfl) rfl #[.agg #[.int .i16 AN, .slice Bd AF.length AO]] rfl gl_ ?_; (with_reducible refine (spec_SpacingsOf.calls GZ AN _ _ AF C6 GX _ ?side1 ?side2 TO.out).mono ?_); (case side1 => exact sC Ac); (case side2 => exact sL Ac); rintro e NK ⟨EJ, rfl, Ay, hb⟩; refine ⟨_, rfl, ?_⟩; have CE := ak (Kd.R_lower (Kd.R_new' Ay (Kd.R_lt (zR B1.out))) (below_size (zH2 HB AG AH))); replace Ac := kR Ac hb; replace BP := kR BP hb; replace BZ := kR BZ hb; replace B1 := kE B1 Ay hb; replace AD := kK AD hb; replace AC := kK AC hb; replace AE := kK AE hb; replace HB := kB2 HB AG AH hb; (try clear hb); (try clear Ay)))
 (try simp only [Act.put, zs, zz, zk])
 refine wp_cutM 3773962424821541352241554580988268890916921220416440428376206300245624162392148852086126725177658767541468375030763844899770584629924792632561434251432407813273243615232 (fun (u : Nat → Value) wc => ∃ (kq : Nat) (DQ : Bool), u 133 = .bool DQ ∧ Aside0 (laws_FnRopes.j1 kq l0 l1 AP C6 DQ AN AF = some r) ∧ Aside0 (kq ≤ GZ) ∧ Aside0 (Kd.R k52 52 wc w.heap.size (fun _ => True) HC AP) ∧ Aside0 (Kd.R (Kd.int .i64) 2 wc w.heap.size (fun _ => True) EJ C6) ∧ Aside0 (Kd.R (Kd.int .i16) 24 wc w.heap.size (fun k_ => some k_ ≠ ((.slice AX AR.length AZ) : Value).ownBlock) (.slice Bd AF.length AO) AF) ∧ Aside0 (Kd.R (Kd.int .i16) 24 wc w.heap.size (fun k_ => some k_ ≠ ((.slice Bd AF.length AO) : Value).ownBlock) (.slice AX AR.length AZ) AR) ∧ Aside0 (wc.heap[0]? = some (.cells #[.int .i64 Ag] 3 (0, 0))) ∧ Aside0 (wc.heap[AQ]? = some (.cells #[.int .i16 AN, (.slice Bd AF.length AO)] 27 (0, 0))) ∧ Aside0 (wc.heap[Ai]? = some (.cells #[.int .i16 BW, (.slice AX AR.length AZ)] 27 (0, 0))) ∧ Aside0 (Below w.heap.size w wc)) ?first ?rest
 case first => (
 intro J_ K_ Nw hK_
 have H := Is.out
 clear Is
 by_cases JF : GQ = 0
 {
 rw [if_pos JF] at H
 have Ek : (GQ == 0) = true := beq_iff_eq.mpr JF
 have KQ : (GQ != 0) = false := bne_eq_false_iff_eq.mpr JF
 clear JF
 (first | rw [Ek] | (simp only [i64_w, i32_w]; rw [Ek]) | skip)
 replace H := Option.bind_eq_some_iff.mp H
 obtain ⟨PC, MY, H⟩ := H
 have S8 := ak MY
 clear MY
 by_cases Mw : PC = true
 {
 subst Mw
 rw [if_pos rfl] at H
 by_cases G0 : (AR.length : Int) = (AF.length : Int)
 {
 rw [if_pos G0] at H
 have J0 : ((AR.length : Int) == (AF.length : Int)) = true := beq_iff_eq.mpr G0
 have LZ : ((AR.length : Int) != (AF.length : Int)) = false := bne_eq_false_iff_eq.mpr G0
 have LF : (AR.length == AF.length) = true := by first | simpa using G0 | (simp at G0 ⊢; omega)
 clear G0
 replace H := Option.bind_eq_some_iff.mp H
 obtain ⟨Pd, MI, H⟩ := H
 have S1 := ak MI
 clear MI
 by_cases M5 : Pd = true
 {
 subst M5
 rw [if_pos rfl] at H
 replace H := Option.bind_eq_some_iff.mp H
 obtain ⟨Nx, Lt, H⟩ := H
 have TC := ak Lt
 clear Lt
 by_cases ND : Nx = true
 {
 subst ND
 rw [if_pos rfl] at H
 by_cases Ir : Dq = GX
 {
 rw [if_pos Ir] at H
 have Mn : (Dq == GX) = true := beq_iff_eq.mpr Ir
 have Kt : (Dq != GX) = false := bne_eq_false_iff_eq.mpr Ir
 clear Ir
 by_cases IN : Dq = 0
 {
 rw [if_pos IN] at H
 have LP : (Dq == 0) = true := beq_iff_eq.mpr IN
 have MC : (Dq != 0) = false := bne_eq_false_iff_eq.mpr IN
 clear IN
 replace H := Option.bind_eq_some_iff.mp H
 obtain ⟨Nr, Ly, H⟩ := H
 have Si := ak Ly
 clear Ly
 by_cases M9 : Nr = true
 {
 subst M9
 rw [if_pos rfl] at H
 replace H := Option.bind_eq_some_iff.mp H
 obtain ⟨Jm, J3, H⟩ := H
 have TA := ak J3
 clear J3
 have H' := ak H
 clear H
 have R8 := D7.out
 have R7 := Ce.out
 have SC := BB.out
 have SI := Ap.out
 have NP : NK.cell? ⟨Ai, 0, none⟩ = some (.int .i16 BW) := (blk_cell AE.out 0).trans rfl
 have NN : NK.cell? ⟨Ai, 1, none⟩ = some (.slice AX AR.length AZ) := (blk_cell AE.out 1).trans rfl
 have NC := blk_frozen AE.out 0
 have M4 := blk_frozen AE.out 1
 have RS := BC.out
 have Rl := Aq.out
 have NL : NK.cell? ⟨AQ, 0, none⟩ = some (.int .i16 AN) := (blk_cell AC.out 0).trans rfl
 have M6 : NK.cell? ⟨AQ, 1, none⟩ = some (.slice Bd AF.length AO) := (blk_cell AC.out 1).trans rfl
 have NA := blk_frozen AC.out 0
 have Mz := blk_frozen AC.out 1
 go_wp2_with (first | (go_at_call 11; (with_reducible refine (spec_SameRope.calls GZ BW _ _ AR AN _ _ AF true _ ?side1 ?side2 ?side3 ?side4 S8.out).mono ?_); (case side1 => exact sC BZ); (case side2 => exact sL BZ); (case side3 => exact sC Ac); (case side4 => exact sL Ac); rintro e Rc ⟨rfl, hb⟩; replace Ac := kR Ac hb; replace BP := kR BP hb; replace BZ := kR BZ hb; replace B1 := kR B1 hb; replace CE := kR CE hb; replace AD := kK AD hb; replace AC := kK AC hb; replace AE := kK AE hb; replace HB := kB2 HB AG AH hb; (try clear hb); obtain ⟨NB, M8, Mv, NH⟩ := cz2 Rc AE; obtain ⟨NM, NO, NF, Mx⟩ := cz2 Rc AC) | (go_at_call 12; (with_reducible refine (impl_SameRope.calls GZ BW _ _ AR AN _ _ AF true _ ?side1 ?side2 ?side3 ?side4 S1.out).mono ?_); (case side1 => exact sC BZ); (case side2 => exact sL BZ); (case side3 => exact sC Ac); (case side4 => exact sL Ac); rintro e Sy ⟨rfl, hb⟩; replace Ac := kR Ac hb; replace BP := kR BP hb; replace BZ := kR BZ hb; replace B1 := kR B1 hb; replace CE := kR CE hb; replace AD := kK AD hb; replace AC := kK AC hb; replace AE := kK AE hb; replace HB := kB2 HB AG AH hb; (try clear hb); obtain ⟨NI, M3, NJ, NQ⟩ := cz2 Sy AC) | (go_at_call 13; (with_reducible refine (impl_ValidRope.calls GZ AN _ _ AF true _ ?side1 ?side2 TC.out).mono ?_); (case side1 => exact sC Ac); (case side2 => exact sL Ac); rintro e SZ ⟨rfl, hb⟩; replace Ac := kR Ac hb; replace BP := kR BP hb; replace BZ := kR BZ hb; replace B1 := kR B1 hb; replace CE := kR CE hb; replace AD := kK AD hb; replace AC := kK AC hb; replace AE := kK AE hb; replace HB := kB2 HB AG AH hb; (try clear hb); obtain ⟨SY, Sf, Os⟩ := Kd.R_slice B1.out; subst Os; obtain ⟨TG, TY, PL⟩ := Kd.R_slice CE.out; subst PL) | (go_at_call 14; (with_reducible refine (spec_SameNumbers.calls GZ _ _ Lu _ _ C6 true _ ?side1 ?side2 ?side3 ?side4 Si.out).mono ?_); (case side1 => exact sC B1); (case side2 => exact sL B1); (case side3 => exact sC CE); (case side4 => exact sL CE); rintro e w' ⟨rfl, ⟨nd, rfl⟩⟩; obtain ⟨NE, My, M0, M1⟩ := cz2 SZ AC; obtain ⟨Sq, Sv, OX⟩ := Kd.R_slice BP.out; subst OX) | (go_at_call 15; (with_reducible refine (impl_ValidHolds.calls GZ AN _ _ AF _ _ AP Jm _ ?side1 ?side2 ?side3 ?side4 TA.out).mono ?_); (case side1 => exact sC Ac); (case side2 => exact sL Ac); (case side3 => exact sC BP); (case side4 => exact sL BP); rintro e Tk ⟨rfl, hb⟩; replace Ac := kR Ac hb; replace BP := kR BP hb; replace BZ := kR BZ hb; replace B1 := kR B1 hb; replace CE := kR CE hb; replace AD := kK AD hb; replace AC := kK AC hb; replace AE := kK AE hb; replace HB := kB2 HB AG AH hb; (try clear hb)))
 refine meetM Nw (by kernel_rfl) ?rel
 case rel => dsimp only [List.getD_cons_succ, List.getD_cons_zero]; exact ⟨_, (!Jm), (by first | rfl | (simp; done) | (simp [*]; done)), H', ⟨by have := DO.out; first | omega | exact Nat.le_refl _⟩, ⟨(zR BP.out)⟩, ⟨by (with_reducible repeat (first | apply Kd.R_alloc | apply Kd.R_drewN | apply Kd.R_drew)); exact Kd.R_mono CE.out (fun _ hk => trivial)⟩, ⟨by (with_reducible repeat (first | apply Kd.R_alloc | apply Kd.R_drewN | apply Kd.R_drew)); exact Kd.R_mono Ac.out (fun _ hk => hk.2)⟩, ⟨by (with_reducible repeat (first | apply Kd.R_alloc | apply Kd.R_drewN | apply Kd.R_drew)); exact Kd.R_mono BZ.out (fun _ hk => hk.2)⟩, ⟨(zK AD.out)⟩, ⟨(zK AC.out)⟩, ⟨(zK AE.out)⟩, ⟨zH2 HB AG AH⟩⟩
 }
 {
 replace M9 := Bool.eq_false_iff.mpr M9
 subst M9
 rw [if_neg (show ¬ (false = true) by decide)] at H
 exact (laws_FnRopes.n1 H HT).elim
 }
 }
 {
 rw [if_neg IN] at H
 have LP : (Dq == 0) = false := beq_eq_false_iff_ne.mpr IN
 have MC : (Dq != 0) = true := bne_iff_ne.mpr IN
 exact (laws_FnRopes.n1 H HT).elim
 }
 }
 {
 rw [if_neg Ir] at H
 have Mn : (Dq == GX) = false := beq_eq_false_iff_ne.mpr Ir
 have Kt : (Dq != GX) = true := bne_iff_ne.mpr Ir
 exact (laws_FnRopes.n1 H HT).elim
 }
 }
 {
 replace ND := Bool.eq_false_iff.mpr ND
 subst ND
 rw [if_neg (show ¬ (false = true) by decide)] at H
 exact (laws_FnRopes.n1 H HT).elim
 }
 }
 {
 replace M5 := Bool.eq_false_iff.mpr M5
 subst M5
 rw [if_neg (show ¬ (false = true) by decide)] at H
 exact (laws_FnRopes.n1 H HT).elim
 }
 }
 {
 rw [if_neg G0] at H
 have J0 : ((AR.length : Int) == (AF.length : Int)) = false := beq_eq_false_iff_ne.mpr G0
 have LZ : ((AR.length : Int) != (AF.length : Int)) = true := bne_iff_ne.mpr G0
 have LF : (AR.length == AF.length) = false := by first | simpa using G0 | (simp at G0 ⊢; omega)
 exact (laws_FnRopes.n1 H HT).elim
 }
 }
 {
 replace Mw := Bool.eq_false_iff.mpr Mw
 subst Mw
 rw [if_neg (show ¬ (false = true) by decide)] at H
 exact (laws_FnRopes.n1 H HT).elim
 }
 }
 {
 rw [if_neg JF] at H
 have Ek : (GQ == 0) = false := beq_eq_false_iff_ne.mpr JF
 have KQ : (GQ != 0) = true := bne_iff_ne.mpr JF
 (first | rw [Ek] | (simp only [i64_w, i32_w]; rw [Ek]) | skip)
 exact (laws_FnRopes.n1 H HT).elim
 }
 )
 case rest => (
 as_aux_lemma =>
 intro Te wc hcut
 dsimp only [frU, cond, Nat.reduceMod, Nat.reduceDiv, Nat.reduceAdd, Nat.reduceBEq, Nat.reduceEqDiff, beq_self_eq_true]
 clear Is
 try clear c1
 try clear c9
 try clear Dh
 try clear Dd
 try clear Dg
 try clear DY
 try clear DR
 try clear Dc
 try clear DN
 try clear DX
 try clear De
 try clear DW
 try clear Di
 try clear Da
 try clear DV
 try clear DP
 try clear Df
 try clear Db
 try clear DZ
 try clear DT
 try clear DS
 try clear DU
 obtain ⟨kq, DQ, Fu, HA, Bx, AI, AY, AA, AB, AD, AC, AE, HB⟩ := hcut
 rw [Fu]
 clear Fu
 cases kq with
 | zero => exact absurd HA.out (by simp [laws_FnRopes.j1])
 | succ KB => (
 have H := HA.out
 clear HA
 simp only [laws_FnRopes.j1] at H
 by_cases Fj : DQ = true
 {
 subst Fj
 rw [if_pos rfl] at H
 exact absurd ((Option.some.inj H).trans HT.out) (by decide)
 }
 {
 replace Fj := Bool.eq_false_iff.mpr Fj
 subst Fj
 rw [if_neg (show ¬ (false = true) by decide)] at H
 have H' := ak H
 clear H
 go_wp2
 refine wp_loopM 13164036458569648337239731682387321099800225269093763273640108048 KB (fun kq (u : Nat → Value) w' => ∃ (BX : Int), u 13 = .int .i64 BX ∧ Aside0 (laws_FnRopes.l0 kq l0 l1 AP C6 BX AN AF = some r) ∧ Aside0 (kq ≤ KB) ∧ Aside0 (Kd.R k52 52 w' w.heap.size (fun _ => True) HC AP) ∧ Aside0 (Kd.R (Kd.int .i64) 2 w' w.heap.size (fun _ => True) EJ C6) ∧ Aside0 (Kd.R (Kd.int .i16) 24 w' w.heap.size (fun k_ => some k_ ≠ ((.slice AX AR.length AZ) : Value).ownBlock) (.slice Bd AF.length AO) AF) ∧ Aside0 (Kd.R (Kd.int .i16) 24 w' w.heap.size (fun k_ => some k_ ≠ ((.slice Bd AF.length AO) : Value).ownBlock) (.slice AX AR.length AZ) AR) ∧ Aside0 (w'.heap[0]? = some (.cells #[.int .i64 Ag] 3 (0, 0))) ∧ Aside0 (w'.heap[AQ]? = some (.cells #[.int .i16 AN, (.slice Bd AF.length AO)] 27 (0, 0))) ∧ Aside0 (w'.heap[Ai]? = some (.cells #[.int .i16 BW, (.slice AX AR.length AZ)] 27 (0, 0))) ∧ Aside0 (Below w.heap.size w w')) ?atStart ?round
 case atStart => dsimp only [List.getD_cons_succ, List.getD_cons_zero]; exact ⟨(1), (by first | rfl | (simp; done) | (simp [*]; done)), H', ⟨Nat.le_refl _⟩, ⟨(zR AI.out)⟩, ⟨(zR AY.out)⟩, ⟨(zR AA.out)⟩, ⟨(zR AB.out)⟩, ⟨(zK AD.out)⟩, ⟨(zK AC.out)⟩, ⟨(zK AE.out)⟩, ⟨zH2 HB AG AH⟩⟩
 case round => (
 intro gk Td wr hrel J_ K_ Ob hK_
 dsimp only [frU, cond, Nat.reduceMod, Nat.reduceDiv, Nat.reduceAdd, Nat.reduceBEq, Nat.reduceEqDiff, beq_self_eq_true]
 clear H'
 try clear c1
 try clear c9
 try clear Fj
 try clear Dh
 try clear Dd
 try clear Dg
 try clear DY
 try clear DR
 try clear Dc
 try clear DN
 try clear DX
 try clear De
 try clear DW
 try clear Di
 try clear Da
 try clear DV
 try clear DP
 try clear Df
 try clear Db
 try clear DZ
 try clear DT
 try clear DS
 try clear DU
 obtain ⟨BX, G1, HA, Du, AI, AY, AA, AB, AD, AC, AE, HB⟩ := hrel
 rw [G1]
 clear G1
 cases gk with
 | zero => exact absurd HA.out (by simp [laws_FnRopes.l0])
 | succ k3 => (
 have H := HA.out
 clear HA
 simp only [laws_FnRopes.l0] at H
 by_cases DL : (wrap64 (BX + 1)) < (AF.length : Int)
 {
 rw [if_pos DL] at H
 have FF : decide ((wrap64 (BX + 1)) < (AF.length : Int)) = true := decide_eq_true DL
 (try (have FR : decide ((IntKind.i64.wrap (BX + 1)) < (AF.length : Int)) = true := by first | simpa only [i64_w, i32_w] using (show decide ((wrap64 (BX + 1)) < (AF.length : Int)) = true from decide_eq_true DL) | simpa only [i64_w] using (show decide ((wrap64 (BX + 1)) < (AF.length : Int)) = true from decide_eq_true DL)))
 clear DL
 replace H := Option.bind_eq_some_iff.mp H
 obtain ⟨⟨Bz, Br, By, Bq, Dn⟩, Hy, H⟩ := H
 have QS := ak Hy
 clear Hy
 replace H := Option.bind_eq_some_iff.mp H
 obtain ⟨⟨Bs, CJ, Bu, CI, GY⟩, Hi, H⟩ := H
 have NW := ak Hi
 clear Hi
 replace H := Option.bind_eq_some_iff.mp H
 obtain ⟨⟨DM, GI⟩, Ho, H⟩ := H
 have NZ := ak Ho
 clear Ho
 replace H := Option.bind_eq_some_iff.mp H
 obtain ⟨⟨Dv, GO⟩, Hb, H⟩ := H
 have Nd := ak Hb
 clear Hb
 by_cases FT : Dn = GY
 {
 rw [if_pos FT] at H
 have Ia : (Dn == GY) = true := beq_iff_eq.mpr FT
 have JO : (Dn != GY) = false := bne_eq_false_iff_eq.mpr FT
 clear FT
 by_cases FV : Dn = 0
 {
 rw [if_pos FV] at H
 have Iv : (Dn == 0) = true := beq_iff_eq.mpr FV
 have IF : (Dn != 0) = false := bne_eq_false_iff_eq.mpr FV
 clear FV
 replace H := Option.bind_eq_some_iff.mp H
 obtain ⟨P3, H6, H⟩ := H
 have OZ := ak H6
 clear H6
 by_cases HP : P3 = true
 {
 subst HP
 rw [if_pos rfl] at H
 replace H := Option.bind_eq_some_iff.mp H
 obtain ⟨Oo, Hg, H⟩ := H
 have Q0 := ak Hg
 clear Hg
 by_cases HV : Oo = true
 {
 subst HV
 rw [if_pos rfl] at H
 by_cases FH : (IntKind.i16.wrap (Bs + Bu)) = AN
 {
 rw [if_pos FH] at H
 have Iy : ((IntKind.i16.wrap (Bs + Bu)) == AN) = true := beq_iff_eq.mpr FH
 have JZ : ((IntKind.i16.wrap (Bs + Bu)) != AN) = false := bne_eq_false_iff_eq.mpr FH
 clear FH
 by_cases Fa : GI = 0
 {
 rw [if_pos Fa] at H
 have JD : (GI == 0) = true := beq_iff_eq.mpr Fa
 have ID : (GI != 0) = false := bne_eq_false_iff_eq.mpr Fa
 clear Fa
 by_cases Fe : GO = 0
 {
 rw [if_pos Fe] at H
 have IR : (GO == 0) = true := beq_iff_eq.mpr Fe
 have JN : (GO != 0) = false := bne_eq_false_iff_eq.mpr Fe
 clear Fe
 obtain ⟨Gb, EO⟩ : ∃ y_ : List Int, y_ = (([] : List Int)) := ⟨_, rfl⟩
 replace H : (if Gb.length + DM.length < 17592186044416 then ((some (Gb ++ DM : List Int)).bind fun Ei => (if Ei.length + Dv.length < 17592186044416 then ((spec_SameNumbers.f k3 (Ei ++ Dv) C6).bind fun Fh => (if Fh = true then (laws_FnRopes.l0 k3 l0 l1 AP C6 (wrap64 (BX + 1)) AN AF) else (some false))) else (none))) else (none)) = some r := by first | (rw [EO]; with_reducible exact H) | (have Gu := (Option.bind_some _ _).symm.trans H; rw [EO]; with_reducible exact Gu) | (have Gu := (Option.bind_some _ _).symm.trans H; with_reducible exact Gu) | with_reducible exact H | (rw [EO]; exact H) | exact H
 have H8 := ak EO
 clear EO
 by_cases HZ : Gb.length + DM.length < 17592186044416
 {
 rw [if_pos HZ] at H
 have JL := ak HZ
 clear HZ
 obtain ⟨Ei, E6⟩ : ∃ y_ : List Int, y_ = (Gb ++ DM) := ⟨_, rfl⟩
 replace H : (if Ei.length + Dv.length < 17592186044416 then ((spec_SameNumbers.f k3 (Ei ++ Dv) C6).bind fun Fh => (if Fh = true then (laws_FnRopes.l0 k3 l0 l1 AP C6 (wrap64 (BX + 1)) AN AF) else (some false))) else (none)) = some r := by first | (rw [E6]; with_reducible exact H) | (have Gu := (Option.bind_some _ _).symm.trans H; rw [E6]; with_reducible exact Gu) | (have Gu := (Option.bind_some _ _).symm.trans H; with_reducible exact Gu) | with_reducible exact H | (rw [E6]; exact H) | exact H
 have MH := ak E6
 clear E6
 by_cases HI : Ei.length + Dv.length < 17592186044416
 {
 rw [if_pos HI] at H
 have If := ak HI
 clear HI
 obtain ⟨Ji, EE⟩ : ∃ y_ : List Int, y_ = (Ei ++ Dv) := ⟨_, rfl⟩
 replace H : ((spec_SameNumbers.f k3 Ji C6).bind fun Fh => (if Fh = true then (laws_FnRopes.l0 k3 l0 l1 AP C6 (wrap64 (BX + 1)) AN AF) else (some false))) = some r := by first | (rw [EE]; with_reducible exact H) | (have Gu := (Option.bind_some _ _).symm.trans H; rw [EE]; with_reducible exact Gu) | (have Gu := (Option.bind_some _ _).symm.trans H; with_reducible exact Gu) | with_reducible exact H | (rw [EE]; exact H) | exact H
 have LJ := ak EE
 clear EE
 replace H := Option.bind_eq_some_iff.mp H
 obtain ⟨Fh, Hx, H⟩ := H
 have HH := ak Hx
 clear Hx
 by_cases HK : Fh = true
 {
 subst HK
 rw [if_pos rfl] at H
 have H' := ak H
 clear H
 have QG := BC.out
 have QM := Aq.out
 have Qb := Ap.out
 have Qu := BB.out
 have L6 : wr.cell? ⟨AQ, 0, none⟩ = some (.int .i16 AN) := (blk_cell AC.out 0).trans rfl
 have J6 : wr.cell? ⟨AQ, 1, none⟩ = some (.slice Bd AF.length AO) := (blk_cell AC.out 1).trans rfl
 have KK := blk_frozen AC.out 0
 have Mo := blk_frozen AC.out 1
 go_wp2_with (first | ((with_reducible refine gate_callee (f := 16) rfl ?_); refine goesL_ (some 145) rfl rfl Tryz.func16 (by kernel_rfl) rfl #[.agg #[.int .i16 AN, .slice Bd AF.length AO], .int .i64 BX] rfl gl_ ?_; (with_reducible refine (impl_CutRope.calls k3 AN _ _ AF BX Bz Br By Bq Dn _ ?side1 ?side2 QS.out).mono ?_); (case side1 => exact sC AA); (case side2 => exact sL AA); rintro e TW ⟨Sw, TL, rfl, Ay, Gv, hb⟩; refine ⟨_, rfl, ?_⟩; have As := ak (Kd.R_lower (Kd.R_new' (Kd.R_new' Ay (Kd.R_lt (zR AA.out))) (Kd.R_lt (zR AB.out))) (below_size (zH2 HB AG AH))); have Ar := ak (Kd.R_lower (Kd.R_new' (Kd.R_new' Gv (Kd.R_lt (zR AA.out))) (Kd.R_lt (zR AB.out))) (below_size (zH2 HB AG AH))); replace AI := kR AI hb; replace AY := kR AY hb; replace AA := ak (Kd.R_mono (Kd.R_told (Kd.R_told (Kd.R_old (zR AA.out) hb) (Kd.R_base Ay)) (Kd.R_base Gv)) (fun _ h_ => h_.1)); replace AB := ak (Kd.R_mono (Kd.R_told (Kd.R_told (Kd.R_old (zR AB.out) hb) (Kd.R_base Ay)) (Kd.R_base Gv)) (fun _ h_ => h_.1)); replace AD := kK AD hb; replace AC := kK AC hb; replace AE := kK AE hb; replace HB := kB2 HB AG AH hb; (try clear hb); (try clear Ay); (try clear Gv)) | ((with_reducible refine gate_dst (N := 14) rfl ?_); (try (refine gate_guard (by rfl) ?_; dsimp only)); refine box_event ?hg (N := 14) ?hd (cs := #[.int .i16 0, .slice none 0 0]) (t := 27) ?hr ?_; (case hd => rfl); (case hg => rfl); (case hr => first | (go_simp; done) | (go_simp; rfl)); intro Ah hg Sx hbox hb; have AU := ak (hbox); have SQ := ak ((by rw [hg]; exact (below_size (zH2 HB AG AH)) : w.heap.size ≤ Ah)); have BA := ak ((by rw [hg]; exact (below_size (zH2 HB AG AH)) : w.heap.size ≤ Ah)); have C3 := nL AD hg; have GW := nG AD hg; have Cu := nL AC hg; have GP := nG AC hg; have Cv := nL AE hg; have GF := nG AE hg; replace AI := kR AI hb; replace AY := kR AY hb; replace AA := kR AA hb; replace AB := kR AB hb; replace As := kR As hb; replace Ar := kR Ar hb; replace AD := kK AD hb; replace AC := kK AC hb; replace AE := kK AE hb; replace HB := kB2 HB AG AH hb; clear hb hbox hg) | ((with_reducible refine gate_dst (N := 15) rfl ?_); (try (refine gate_guard (by rfl) ?_; dsimp only)); refine box_event ?hg (N := 15) ?hd (cs := #[.int .i16 0, .slice none 0 0]) (t := 27) ?hr ?_; (case hd => rfl); (case hg => rfl); (case hr => first | (go_simp; done) | (go_simp; rfl)); intro Aj hg Ix hbox hb; have AV := ak (hbox); have Rg := ak ((by rw [hg]; exact (below_size (zH3 HB AG AH BA)) : w.heap.size ≤ Aj)); have BQ := ak ((by rw [hg]; exact (below_size (zH3 HB AG AH BA)) : w.heap.size ≤ Aj)); have Cz := nL AD hg; have GK := nG AD hg; have Cx := nL AC hg; have F5 := nG AC hg; have DB := nL AE hg; have F4 := nG AE hg; have DD := nL AU hg; have C0 := nG AU hg; replace AI := kR AI hb; replace AY := kR AY hb; replace AA := kR AA hb; replace AB := kR AB hb; replace As := kR As hb; replace Ar := kR Ar hb; replace AD := kK AD hb; replace AC := kK AC hb; replace AE := kK AE hb; replace AU := kK AU hb; replace HB := kB3 HB AG AH BA hb; clear hb hbox hg; have PP := GW.out; have Q4 := C3.out; have O5 := GP.out; have Qc := Cu.out; have Qq := GF.out; have Q7 := Cv.out; have Oz := DD.out; have Ot := C0.out; obtain ⟨MN, LQ, Jj, Ke⟩ := cz2 Ix AU; obtain ⟨BS, BV, Lp⟩ := Kd.R_slice As.out; subst Lp; have QJ := GK.out; have OQ := Cz.out; have Qk := F5.out; have OL := Cx.out; have Nc := F4.out; have OG := DB.out; obtain ⟨Mm, KU, MB, Ln⟩ := cz2 Ix AV; obtain ⟨BU, BT, Kf⟩ := Kd.R_slice Ar.out; subst Kf; obtain ⟨J1, Ka, Lx, L2⟩ := cz2 Ix AC) | ((with_reducible refine gate_callee (f := 17) rfl ?_); refine goesL_ (some 152) rfl rfl Tryz.func17 (by kernel_rfl) rfl #[.agg #[.int .i16 AN, .slice Bd AF.length AO], .int .i64 BX] rfl gl_ ?_; (with_reducible refine (spec_CutRope.calls k3 AN _ _ AF BX Bs CJ Bu CI GY _ ?side1 ?side2 NW.out).mono ?_); (case side1 => refine (Kd.R_reads' (e := 24) (base := w.heap.size) (ok := fun k_ => ((some k_ ≠ (.slice AX AR.length AZ : Value).ownBlock ∧ some k_ ≠ (.slice BS Br.length BV : Value).ownBlock) ∧ some k_ ≠ (.slice BU Bq.length BT : Value).ownBlock)) (n := AF.length) (c := AO) ?_).2.2; exact (by (with_reducible repeat (first | apply Kd.R_alloc | apply Kd.R_drewN | apply Kd.R_drew)); exact (Kd.R_mono (Kd.R_mono (Kd.R_far (p := ⟨Aj, 1, none⟩) (Kd.R_far (p := ⟨Aj, 0, none⟩) (Kd.R_far (p := ⟨Ah, 1, none⟩) (Kd.R_far (p := ⟨Ah, 0, none⟩) (Kd.R_types (Kd.R_types AA.out AU.out (by decide)) AV.out (by decide)) (fun _ hk => hk.1.2) (.int .i16 Bz)) (fun _ hk => hk.1.2) (.slice BS Br.length BV)) (fun _ hk => hk.2) (.int .i16 By)) (fun _ hk => hk.2) (.slice BU Bq.length BT)) (fun _ h_ => h_.1)) (fun _ h_ => h_.1)))); (case side2 => exact sL AA); rintro e Sa ⟨Su, TJ, rfl, Ay, Gv, hb⟩; refine ⟨_, rfl, ?_⟩; have BH := ak (Kd.R_lower (Kd.R_new' (Kd.R_new' (Kd.R_new' (Kd.R_new' Ay (Kd.R_lt (by (with_reducible repeat (first | apply Kd.R_alloc | apply Kd.R_drewN | apply Kd.R_drew)); exact (Kd.R_mono (Kd.R_mono (Kd.R_far (p := ⟨Aj, 1, none⟩) (Kd.R_far (p := ⟨Aj, 0, none⟩) (Kd.R_far (p := ⟨Ah, 1, none⟩) (Kd.R_far (p := ⟨Ah, 0, none⟩) (Kd.R_types (Kd.R_types AA.out AU.out (by decide)) AV.out (by decide)) (fun _ hk => hk.1.2) (.int .i16 Bz)) (fun _ hk => hk.1.2) (.slice BS Br.length BV)) (fun _ hk => hk.2) (.int .i16 By)) (fun _ hk => hk.2) (.slice BU Bq.length BT)) (fun _ h_ => h_.1)) (fun _ h_ => h_.1))))) (Kd.R_lt (by (with_reducible repeat (first | apply Kd.R_alloc | apply Kd.R_drewN | apply Kd.R_drew)); exact (Kd.R_mono (Kd.R_mono (Kd.R_far (p := ⟨Aj, 1, none⟩) (Kd.R_far (p := ⟨Aj, 0, none⟩) (Kd.R_far (p := ⟨Ah, 1, none⟩) (Kd.R_far (p := ⟨Ah, 0, none⟩) (Kd.R_types (Kd.R_types AB.out AU.out (by decide)) AV.out (by decide)) (fun _ hk => hk.1.2) (.int .i16 Bz)) (fun _ hk => hk.1.2) (.slice BS Br.length BV)) (fun _ hk => hk.2) (.int .i16 By)) (fun _ hk => hk.2) (.slice BU Bq.length BT)) (fun _ h_ => h_.1)) (fun _ h_ => h_.1))))) (Kd.R_lt (by (with_reducible repeat (first | apply Kd.R_alloc | apply Kd.R_drewN | apply Kd.R_drew)); exact (Kd.R_mono (Kd.R_mono (Kd.R_far (p := ⟨Aj, 1, none⟩) (Kd.R_far (p := ⟨Aj, 0, none⟩) (Kd.R_far (p := ⟨Ah, 1, none⟩) (Kd.R_far (p := ⟨Ah, 0, none⟩) (Kd.R_types (Kd.R_types As.out AU.out (by decide)) AV.out (by decide)) (fun _ hk => hk.1.2) (.int .i16 Bz)) (fun _ hk => hk.1.2) (.slice BS Br.length BV)) (fun _ hk => hk.2) (.int .i16 By)) (fun _ hk => hk.2) (.slice BU Bq.length BT)) (fun _ h_ => h_.1)) (fun _ h_ => h_.1))))) (Kd.R_lt (by (with_reducible repeat (first | apply Kd.R_alloc | apply Kd.R_drewN | apply Kd.R_drew)); exact (Kd.R_mono (Kd.R_mono (Kd.R_far (p := ⟨Aj, 1, none⟩) (Kd.R_far (p := ⟨Aj, 0, none⟩) (Kd.R_far (p := ⟨Ah, 1, none⟩) (Kd.R_far (p := ⟨Ah, 0, none⟩) (Kd.R_types (Kd.R_types Ar.out AU.out (by decide)) AV.out (by decide)) (fun _ hk => hk.1.2) (.int .i16 Bz)) (fun _ hk => hk.1.2) (.slice BS Br.length BV)) (fun _ hk => hk.2) (.int .i16 By)) (fun _ hk => hk.2) (.slice BU Bq.length BT)) (fun _ h_ => h_.1)) (fun _ h_ => h_.1))))) (below_size (zH4 HB AG AH BA BQ))); have BF := ak (Kd.R_lower (Kd.R_new' (Kd.R_new' (Kd.R_new' (Kd.R_new' Gv (Kd.R_lt (by (with_reducible repeat (first | apply Kd.R_alloc | apply Kd.R_drewN | apply Kd.R_drew)); exact (Kd.R_mono (Kd.R_mono (Kd.R_far (p := ⟨Aj, 1, none⟩) (Kd.R_far (p := ⟨Aj, 0, none⟩) (Kd.R_far (p := ⟨Ah, 1, none⟩) (Kd.R_far (p := ⟨Ah, 0, none⟩) (Kd.R_types (Kd.R_types AA.out AU.out (by decide)) AV.out (by decide)) (fun _ hk => hk.1.2) (.int .i16 Bz)) (fun _ hk => hk.1.2) (.slice BS Br.length BV)) (fun _ hk => hk.2) (.int .i16 By)) (fun _ hk => hk.2) (.slice BU Bq.length BT)) (fun _ h_ => h_.1)) (fun _ h_ => h_.1))))) (Kd.R_lt (by (with_reducible repeat (first | apply Kd.R_alloc | apply Kd.R_drewN | apply Kd.R_drew)); exact (Kd.R_mono (Kd.R_mono (Kd.R_far (p := ⟨Aj, 1, none⟩) (Kd.R_far (p := ⟨Aj, 0, none⟩) (Kd.R_far (p := ⟨Ah, 1, none⟩) (Kd.R_far (p := ⟨Ah, 0, none⟩) (Kd.R_types (Kd.R_types AB.out AU.out (by decide)) AV.out (by decide)) (fun _ hk => hk.1.2) (.int .i16 Bz)) (fun _ hk => hk.1.2) (.slice BS Br.length BV)) (fun _ hk => hk.2) (.int .i16 By)) (fun _ hk => hk.2) (.slice BU Bq.length BT)) (fun _ h_ => h_.1)) (fun _ h_ => h_.1))))) (Kd.R_lt (by (with_reducible repeat (first | apply Kd.R_alloc | apply Kd.R_drewN | apply Kd.R_drew)); exact (Kd.R_mono (Kd.R_mono (Kd.R_far (p := ⟨Aj, 1, none⟩) (Kd.R_far (p := ⟨Aj, 0, none⟩) (Kd.R_far (p := ⟨Ah, 1, none⟩) (Kd.R_far (p := ⟨Ah, 0, none⟩) (Kd.R_types (Kd.R_types As.out AU.out (by decide)) AV.out (by decide)) (fun _ hk => hk.1.2) (.int .i16 Bz)) (fun _ hk => hk.1.2) (.slice BS Br.length BV)) (fun _ hk => hk.2) (.int .i16 By)) (fun _ hk => hk.2) (.slice BU Bq.length BT)) (fun _ h_ => h_.1)) (fun _ h_ => h_.1))))) (Kd.R_lt (by (with_reducible repeat (first | apply Kd.R_alloc | apply Kd.R_drewN | apply Kd.R_drew)); exact (Kd.R_mono (Kd.R_mono (Kd.R_far (p := ⟨Aj, 1, none⟩) (Kd.R_far (p := ⟨Aj, 0, none⟩) (Kd.R_far (p := ⟨Ah, 1, none⟩) (Kd.R_far (p := ⟨Ah, 0, none⟩) (Kd.R_types (Kd.R_types Ar.out AU.out (by decide)) AV.out (by decide)) (fun _ hk => hk.1.2) (.int .i16 Bz)) (fun _ hk => hk.1.2) (.slice BS Br.length BV)) (fun _ hk => hk.2) (.int .i16 By)) (fun _ hk => hk.2) (.slice BU Bq.length BT)) (fun _ h_ => h_.1)) (fun _ h_ => h_.1))))) (below_size (zH4 HB AG AH BA BQ))); replace AI := ak (Kd.R_below (by (with_reducible repeat (first | apply Kd.R_alloc | apply Kd.R_drewN | apply Kd.R_drew)); exact (Kd.R_mono (Kd.R_mono (Kd.R_far (p := ⟨Aj, 1, none⟩) (Kd.R_far (p := ⟨Aj, 0, none⟩) (Kd.R_far (p := ⟨Ah, 1, none⟩) (Kd.R_far (p := ⟨Ah, 0, none⟩) (Kd.R_types (Kd.R_types AI.out AU.out (by decide)) AV.out (by decide)) (fun _ hk => hk.1.2) (.int .i16 Bz)) (fun _ hk => hk.1.2) (.slice BS Br.length BV)) (fun _ hk => hk.2) (.int .i16 By)) (fun _ hk => hk.2) (.slice BU Bq.length BT)) (fun _ h_ => h_.1)) (fun _ h_ => h_.1))) hb); replace AY := ak (Kd.R_below (by (with_reducible repeat (first | apply Kd.R_alloc | apply Kd.R_drewN | apply Kd.R_drew)); exact (Kd.R_mono (Kd.R_mono (Kd.R_far (p := ⟨Aj, 1, none⟩) (Kd.R_far (p := ⟨Aj, 0, none⟩) (Kd.R_far (p := ⟨Ah, 1, none⟩) (Kd.R_far (p := ⟨Ah, 0, none⟩) (Kd.R_types (Kd.R_types AY.out AU.out (by decide)) AV.out (by decide)) (fun _ hk => hk.1.2) (.int .i16 Bz)) (fun _ hk => hk.1.2) (.slice BS Br.length BV)) (fun _ hk => hk.2) (.int .i16 By)) (fun _ hk => hk.2) (.slice BU Bq.length BT)) (fun _ h_ => h_.1)) (fun _ h_ => h_.1))) hb); replace AA := ak (Kd.R_mono (Kd.R_told (Kd.R_told (Kd.R_old (by (with_reducible repeat (first | apply Kd.R_alloc | apply Kd.R_drewN | apply Kd.R_drew)); exact (Kd.R_mono (Kd.R_mono (Kd.R_far (p := ⟨Aj, 1, none⟩) (Kd.R_far (p := ⟨Aj, 0, none⟩) (Kd.R_far (p := ⟨Ah, 1, none⟩) (Kd.R_far (p := ⟨Ah, 0, none⟩) (Kd.R_types (Kd.R_types AA.out AU.out (by decide)) AV.out (by decide)) (fun _ hk => hk.1.2) (.int .i16 Bz)) (fun _ hk => hk.1.2) (.slice BS Br.length BV)) (fun _ hk => hk.2) (.int .i16 By)) (fun _ hk => hk.2) (.slice BU Bq.length BT)) (fun _ h_ => h_.1)) (fun _ h_ => h_.1))) hb) (Kd.R_base Ay)) (Kd.R_base Gv)) (fun _ h_ => h_.1)); replace AB := ak (Kd.R_mono (Kd.R_told (Kd.R_told (Kd.R_old (by (with_reducible repeat (first | apply Kd.R_alloc | apply Kd.R_drewN | apply Kd.R_drew)); exact (Kd.R_mono (Kd.R_mono (Kd.R_far (p := ⟨Aj, 1, none⟩) (Kd.R_far (p := ⟨Aj, 0, none⟩) (Kd.R_far (p := ⟨Ah, 1, none⟩) (Kd.R_far (p := ⟨Ah, 0, none⟩) (Kd.R_types (Kd.R_types AB.out AU.out (by decide)) AV.out (by decide)) (fun _ hk => hk.1.2) (.int .i16 Bz)) (fun _ hk => hk.1.2) (.slice BS Br.length BV)) (fun _ hk => hk.2) (.int .i16 By)) (fun _ hk => hk.2) (.slice BU Bq.length BT)) (fun _ h_ => h_.1)) (fun _ h_ => h_.1))) hb) (Kd.R_base Ay)) (Kd.R_base Gv)) (fun _ h_ => h_.1)); replace As := ak (Kd.R_mono (Kd.R_told (Kd.R_told (Kd.R_old (by (with_reducible repeat (first | apply Kd.R_alloc | apply Kd.R_drewN | apply Kd.R_drew)); exact (Kd.R_mono (Kd.R_mono (Kd.R_far (p := ⟨Aj, 1, none⟩) (Kd.R_far (p := ⟨Aj, 0, none⟩) (Kd.R_far (p := ⟨Ah, 1, none⟩) (Kd.R_far (p := ⟨Ah, 0, none⟩) (Kd.R_types (Kd.R_types As.out AU.out (by decide)) AV.out (by decide)) (fun _ hk => hk.1.2) (.int .i16 Bz)) (fun _ hk => hk.1.2) (.slice BS Br.length BV)) (fun _ hk => hk.2) (.int .i16 By)) (fun _ hk => hk.2) (.slice BU Bq.length BT)) (fun _ h_ => h_.1)) (fun _ h_ => h_.1))) hb) (Kd.R_base Ay)) (Kd.R_base Gv)) (fun _ h_ => h_.1)); replace Ar := ak (Kd.R_mono (Kd.R_told (Kd.R_told (Kd.R_old (by (with_reducible repeat (first | apply Kd.R_alloc | apply Kd.R_drewN | apply Kd.R_drew)); exact (Kd.R_mono (Kd.R_mono (Kd.R_far (p := ⟨Aj, 1, none⟩) (Kd.R_far (p := ⟨Aj, 0, none⟩) (Kd.R_far (p := ⟨Ah, 1, none⟩) (Kd.R_far (p := ⟨Ah, 0, none⟩) (Kd.R_types (Kd.R_types Ar.out AU.out (by decide)) AV.out (by decide)) (fun _ hk => hk.1.2) (.int .i16 Bz)) (fun _ hk => hk.1.2) (.slice BS Br.length BV)) (fun _ hk => hk.2) (.int .i16 By)) (fun _ hk => hk.2) (.slice BU Bq.length BT)) (fun _ h_ => h_.1)) (fun _ h_ => h_.1))) hb) (Kd.R_base Ay)) (Kd.R_base Gv)) (fun _ h_ => h_.1)); replace AD := ak (blk_below (g := 0) (o := .cells #[.int .i64 Ag] 3 (0, 0)) (by (with_reducible repeat (first | refine blk_drewN ?_ _ | refine blk_drew ?_ | refine blk_alloc ?_ _)); refine blk_far ?_ Cz.out _; (with_reducible repeat (first | refine blk_drewN ?_ _ | refine blk_drew ?_ | refine blk_alloc ?_ _)); refine blk_far ?_ Cz.out _; (with_reducible repeat (first | refine blk_drewN ?_ _ | refine blk_drew ?_ | refine blk_alloc ?_ _)); refine blk_far ?_ C3.out _; (with_reducible repeat (first | refine blk_drewN ?_ _ | refine blk_drew ?_ | refine blk_alloc ?_ _)); refine blk_far ?_ C3.out _; (with_reducible repeat (first | refine blk_drewN ?_ _ | refine blk_drew ?_ | refine blk_alloc ?_ _)); exact AD.out) hb); replace AC := ak (blk_below (g := AQ) (o := .cells #[.int .i16 AN, .slice Bd AF.length AO] 27 (0, 0)) (by (with_reducible repeat (first | refine blk_drewN ?_ _ | refine blk_drew ?_ | refine blk_alloc ?_ _)); refine blk_far ?_ Cx.out _; (with_reducible repeat (first | refine blk_drewN ?_ _ | refine blk_drew ?_ | refine blk_alloc ?_ _)); refine blk_far ?_ Cx.out _; (with_reducible repeat (first | refine blk_drewN ?_ _ | refine blk_drew ?_ | refine blk_alloc ?_ _)); refine blk_far ?_ Cu.out _; (with_reducible repeat (first | refine blk_drewN ?_ _ | refine blk_drew ?_ | refine blk_alloc ?_ _)); refine blk_far ?_ Cu.out _; (with_reducible repeat (first | refine blk_drewN ?_ _ | refine blk_drew ?_ | refine blk_alloc ?_ _)); exact AC.out) hb); replace AE := ak (blk_below (g := Ai) (o := .cells #[.int .i16 BW, .slice AX AR.length AZ] 27 (0, 0)) (by (with_reducible repeat (first | refine blk_drewN ?_ _ | refine blk_drew ?_ | refine blk_alloc ?_ _)); refine blk_far ?_ DB.out _; (with_reducible repeat (first | refine blk_drewN ?_ _ | refine blk_drew ?_ | refine blk_alloc ?_ _)); refine blk_far ?_ DB.out _; (with_reducible repeat (first | refine blk_drewN ?_ _ | refine blk_drew ?_ | refine blk_alloc ?_ _)); refine blk_far ?_ Cv.out _; (with_reducible repeat (first | refine blk_drewN ?_ _ | refine blk_drew ?_ | refine blk_alloc ?_ _)); refine blk_far ?_ Cv.out _; (with_reducible repeat (first | refine blk_drewN ?_ _ | refine blk_drew ?_ | refine blk_alloc ?_ _)); exact AE.out) hb); replace AU := ak (blk_below (g := Ah) (o := .cells #[.int .i16 Bz, .slice BS Br.length BV] 27 (0, 0)) (by (with_reducible repeat (first | refine blk_drewN ?_ _ | refine blk_drew ?_ | refine blk_alloc ?_ _)); refine blk_far ?_ DD.out _; (with_reducible repeat (first | refine blk_drewN ?_ _ | refine blk_drew ?_ | refine blk_alloc ?_ _)); refine blk_far ?_ DD.out _; (with_reducible repeat (first | refine blk_drewN ?_ _ | refine blk_drew ?_ | refine blk_alloc ?_ _)); refine blk_put (cs := #[.int .i16 Bz, .slice none 0 0]) ?_ 1 _ rfl; (with_reducible repeat (first | refine blk_drewN ?_ _ | refine blk_drew ?_ | refine blk_alloc ?_ _)); refine blk_put (cs := #[.int .i16 0, .slice none 0 0]) ?_ 0 _ rfl; (with_reducible repeat (first | refine blk_drewN ?_ _ | refine blk_drew ?_ | refine blk_alloc ?_ _)); exact AU.out) hb); replace AV := ak (blk_below (g := Aj) (o := .cells #[.int .i16 By, .slice BU Bq.length BT] 27 (0, 0)) (by (with_reducible repeat (first | refine blk_drewN ?_ _ | refine blk_drew ?_ | refine blk_alloc ?_ _)); refine blk_put (cs := #[.int .i16 By, .slice none 0 0]) ?_ 1 _ rfl; (with_reducible repeat (first | refine blk_drewN ?_ _ | refine blk_drew ?_ | refine blk_alloc ?_ _)); refine blk_put (cs := #[.int .i16 0, .slice none 0 0]) ?_ 0 _ rfl; (with_reducible repeat (first | refine blk_drewN ?_ _ | refine blk_drew ?_ | refine blk_alloc ?_ _)); refine blk_far ?_ C0.out _; (with_reducible repeat (first | refine blk_drewN ?_ _ | refine blk_drew ?_ | refine blk_alloc ?_ _)); refine blk_far ?_ C0.out _; (with_reducible repeat (first | refine blk_drewN ?_ _ | refine blk_drew ?_ | refine blk_alloc ?_ _)); exact AV.out) hb); replace HB := ak (below_step (zH4 HB AG AH BA BQ) hb); (try clear hb); (try clear hk); (try clear Ay); (try clear Gv)) | ((with_reducible refine gate_dst (N := 17) rfl ?_); (try (refine gate_guard (by rfl) ?_; dsimp only)); refine box_event ?hg (N := 17) ?hd (cs := #[.int .i16 0, .slice none 0 0]) (t := 27) ?hr ?_; (case hd => rfl); (case hg => rfl); (case hr => first | (go_simp; done) | (go_simp; rfl)); intro A9 hg So hbox hb; have Am := ak (hbox); have SH := ak ((by rw [hg]; exact (below_size (zH4 HB AG AH BA BQ)) : w.heap.size ≤ A9)); have Bj := ak ((by rw [hg]; exact (below_size (zH4 HB AG AH BA BQ)) : w.heap.size ≤ A9)); have Ct := nL AD hg; have GG := nG AD hg; have DG := nL AC hg; have F6 := nG AC hg; have C8 := nL AE hg; have GT := nG AE hg; have DI := nL AU hg; have GE := nG AU hg; have C2 := nL AV hg; have F8 := nG AV hg; replace AI := kR AI hb; replace AY := kR AY hb; replace AA := kR AA hb; replace AB := kR AB hb; replace As := kR As hb; replace Ar := kR Ar hb; replace BH := kR BH hb; replace BF := kR BF hb; replace AD := kK AD hb; replace AC := kK AC hb; replace AE := kK AE hb; replace AU := kK AU hb; replace AV := kK AV hb; replace HB := ak (below_step (zH4 HB AG AH BA BQ) hb); clear hb hbox hg) | ((with_reducible refine gate_dst (N := 18) rfl ?_); (try (refine gate_guard (by rfl) ?_; dsimp only)); refine box_event ?hg (N := 18) ?hd (cs := #[.int .i16 0, .slice none 0 0]) (t := 27) ?hr ?_; (case hd => rfl); (case hg => rfl); (case hr => first | (go_simp; done) | (go_simp; rfl)); intro A7 hg KG hbox hb; have Ao := ak (hbox); have RI := ak ((by rw [hg]; exact (below_size (zH5 HB AG AH BA BQ Bj)) : w.heap.size ≤ A7)); have CA := ak ((by rw [hg]; exact (below_size (zH5 HB AG AH BA BQ Bj)) : w.heap.size ≤ A7)); have Cw := nL AD hg; have GM := nG AD hg; have C7 := nL AC hg; have GA := nG AC hg; have C9 := nL AE hg; have GJ := nG AE hg; have DF := nL AU hg; have GN := nG AU hg; have C4 := nL AV hg; have GR := nG AV hg; have DA := nL Am hg; have DE := nG Am hg; replace AI := kR AI hb; replace AY := kR AY hb; replace AA := kR AA hb; replace AB := kR AB hb; replace As := kR As hb; replace Ar := kR Ar hb; replace BH := kR BH hb; replace BF := kR BF hb; replace AD := kK AD hb; replace AC := kK AC hb; replace AE := kK AE hb; replace AU := kK AU hb; replace AV := kK AV hb; replace Am := kK Am hb; replace HB := ak (below_step (zH5 HB AG AH BA BQ Bj) hb); clear hb hbox hg; have QB := GG.out; have Qv := Ct.out; have PM := F6.out; have QX := DG.out; have NS := GT.out; have Op := C8.out; have Pq := GE.out; have OT := DI.out; have Ox := F8.out; have OS := C2.out; have QL := DA.out; have Qs := DE.out; obtain ⟨KF, J5, Jg, MZ⟩ := cz2 KG Am; obtain ⟨B0, Bo, Ld⟩ := Kd.R_slice BH.out; subst Ld; have Qy := GM.out; have N6 := Cw.out; have QQ := GA.out; have Oe := C7.out; have Q6 := GJ.out; have NY := C9.out; have Nz := GN.out; have Od := DF.out; have QD := GR.out; have O0 := C4.out; obtain ⟨K1, Lj, L9, Kg⟩ := cz2 KG Ao; obtain ⟨Bv, Bp, Mp⟩ := Kd.R_slice BF.out; subst Mp) | ((with_reducible refine gate_callee (f := 9) rfl ?_); refine goesL_ (some 158) rfl rfl Tryz.func9 (by kernel_rfl) rfl #[.agg #[.int .i16 Bs, .slice B0 CJ.length Bo]] rfl gl_ ?_; (with_reducible refine (impl_SpacingsOf.calls k3 Bs _ _ CJ DM GI _ ?side1 ?side2 NZ.out).mono ?_); (case side1 => refine (Kd.R_reads' (e := 24) (base := w.heap.size) (ok := fun k_ => ((((some k_ ≠ (.slice Bv CI.length Bp : Value).ownBlock ∧ some k_ ≠ (.slice Bd AF.length AO : Value).ownBlock) ∧ some k_ ≠ (.slice AX AR.length AZ : Value).ownBlock) ∧ some k_ ≠ (.slice BS Br.length BV : Value).ownBlock) ∧ some k_ ≠ (.slice BU Bq.length BT : Value).ownBlock)) (n := CJ.length) (c := Bo) ?_).2.2; exact (by (with_reducible repeat (first | apply Kd.R_alloc | apply Kd.R_drewN | apply Kd.R_drew)); exact (Kd.R_mono (Kd.R_mono (Kd.R_far (p := ⟨A7, 1, none⟩) (Kd.R_far (p := ⟨A7, 0, none⟩) (Kd.R_far (p := ⟨A9, 1, none⟩) (Kd.R_far (p := ⟨A9, 0, none⟩) (Kd.R_types (Kd.R_types BH.out Am.out (by decide)) Ao.out (by decide)) (fun _ hk => hk.1.2) (.int .i16 Bs)) (fun _ hk => hk.1.2) (.slice B0 CJ.length Bo)) (fun _ hk => hk.2) (.int .i16 Bu)) (fun _ hk => hk.2) (.slice Bv CI.length Bp)) (fun _ h_ => h_.1)) (fun _ h_ => h_.1)))); (case side2 => exact sL BH); rintro e O8 ⟨S3, rfl, Ay, hb⟩; refine ⟨_, rfl, ?_⟩; have Be := ak (Kd.R_lower (Kd.R_new' Ay (Kd.R_lt (by (with_reducible repeat (first | apply Kd.R_alloc | apply Kd.R_drewN | apply Kd.R_drew)); exact (Kd.R_mono (Kd.R_mono (Kd.R_far (p := ⟨A7, 1, none⟩) (Kd.R_far (p := ⟨A7, 0, none⟩) (Kd.R_far (p := ⟨A9, 1, none⟩) (Kd.R_far (p := ⟨A9, 0, none⟩) (Kd.R_types (Kd.R_types AY.out Am.out (by decide)) Ao.out (by decide)) (fun _ hk => hk.1.2) (.int .i16 Bs)) (fun _ hk => hk.1.2) (.slice B0 CJ.length Bo)) (fun _ hk => hk.2) (.int .i16 Bu)) (fun _ hk => hk.2) (.slice Bv CI.length Bp)) (fun _ h_ => h_.1)) (fun _ h_ => h_.1))))) (below_size (zH6 HB AG AH BA BQ Bj CA))); replace AI := ak (Kd.R_below (by (with_reducible repeat (first | apply Kd.R_alloc | apply Kd.R_drewN | apply Kd.R_drew)); exact (Kd.R_mono (Kd.R_mono (Kd.R_far (p := ⟨A7, 1, none⟩) (Kd.R_far (p := ⟨A7, 0, none⟩) (Kd.R_far (p := ⟨A9, 1, none⟩) (Kd.R_far (p := ⟨A9, 0, none⟩) (Kd.R_types (Kd.R_types AI.out Am.out (by decide)) Ao.out (by decide)) (fun _ hk => hk.1.2) (.int .i16 Bs)) (fun _ hk => hk.1.2) (.slice B0 CJ.length Bo)) (fun _ hk => hk.2) (.int .i16 Bu)) (fun _ hk => hk.2) (.slice Bv CI.length Bp)) (fun _ h_ => h_.1)) (fun _ h_ => h_.1))) hb); replace AY := ak (Kd.R_elder' (by (with_reducible repeat (first | apply Kd.R_alloc | apply Kd.R_drewN | apply Kd.R_drew)); exact (Kd.R_mono (Kd.R_mono (Kd.R_far (p := ⟨A7, 1, none⟩) (Kd.R_far (p := ⟨A7, 0, none⟩) (Kd.R_far (p := ⟨A9, 1, none⟩) (Kd.R_far (p := ⟨A9, 0, none⟩) (Kd.R_types (Kd.R_types AY.out Am.out (by decide)) Ao.out (by decide)) (fun _ hk => hk.1.2) (.int .i16 Bs)) (fun _ hk => hk.1.2) (.slice B0 CJ.length Bo)) (fun _ hk => hk.2) (.int .i16 Bu)) (fun _ hk => hk.2) (.slice Bv CI.length Bp)) (fun _ h_ => h_.1)) (fun _ h_ => h_.1))) (Kd.R_base Ay) hb); replace AA := ak (Kd.R_below (by (with_reducible repeat (first | apply Kd.R_alloc | apply Kd.R_drewN | apply Kd.R_drew)); exact (Kd.R_mono (Kd.R_mono (Kd.R_far (p := ⟨A7, 1, none⟩) (Kd.R_far (p := ⟨A7, 0, none⟩) (Kd.R_far (p := ⟨A9, 1, none⟩) (Kd.R_far (p := ⟨A9, 0, none⟩) (Kd.R_types (Kd.R_types AA.out Am.out (by decide)) Ao.out (by decide)) (fun _ hk => hk.1.2) (.int .i16 Bs)) (fun _ hk => hk.1.2) (.slice B0 CJ.length Bo)) (fun _ hk => hk.2) (.int .i16 Bu)) (fun _ hk => hk.2) (.slice Bv CI.length Bp)) (fun _ h_ => h_.1)) (fun _ h_ => h_.1))) hb); replace AB := ak (Kd.R_below (by (with_reducible repeat (first | apply Kd.R_alloc | apply Kd.R_drewN | apply Kd.R_drew)); exact (Kd.R_mono (Kd.R_mono (Kd.R_far (p := ⟨A7, 1, none⟩) (Kd.R_far (p := ⟨A7, 0, none⟩) (Kd.R_far (p := ⟨A9, 1, none⟩) (Kd.R_far (p := ⟨A9, 0, none⟩) (Kd.R_types (Kd.R_types AB.out Am.out (by decide)) Ao.out (by decide)) (fun _ hk => hk.1.2) (.int .i16 Bs)) (fun _ hk => hk.1.2) (.slice B0 CJ.length Bo)) (fun _ hk => hk.2) (.int .i16 Bu)) (fun _ hk => hk.2) (.slice Bv CI.length Bp)) (fun _ h_ => h_.1)) (fun _ h_ => h_.1))) hb); replace As := ak (Kd.R_below (by (with_reducible repeat (first | apply Kd.R_alloc | apply Kd.R_drewN | apply Kd.R_drew)); exact (Kd.R_mono (Kd.R_mono (Kd.R_far (p := ⟨A7, 1, none⟩) (Kd.R_far (p := ⟨A7, 0, none⟩) (Kd.R_far (p := ⟨A9, 1, none⟩) (Kd.R_far (p := ⟨A9, 0, none⟩) (Kd.R_types (Kd.R_types As.out Am.out (by decide)) Ao.out (by decide)) (fun _ hk => hk.1.2) (.int .i16 Bs)) (fun _ hk => hk.1.2) (.slice B0 CJ.length Bo)) (fun _ hk => hk.2) (.int .i16 Bu)) (fun _ hk => hk.2) (.slice Bv CI.length Bp)) (fun _ h_ => h_.1)) (fun _ h_ => h_.1))) hb); replace Ar := ak (Kd.R_below (by (with_reducible repeat (first | apply Kd.R_alloc | apply Kd.R_drewN | apply Kd.R_drew)); exact (Kd.R_mono (Kd.R_mono (Kd.R_far (p := ⟨A7, 1, none⟩) (Kd.R_far (p := ⟨A7, 0, none⟩) (Kd.R_far (p := ⟨A9, 1, none⟩) (Kd.R_far (p := ⟨A9, 0, none⟩) (Kd.R_types (Kd.R_types Ar.out Am.out (by decide)) Ao.out (by decide)) (fun _ hk => hk.1.2) (.int .i16 Bs)) (fun _ hk => hk.1.2) (.slice B0 CJ.length Bo)) (fun _ hk => hk.2) (.int .i16 Bu)) (fun _ hk => hk.2) (.slice Bv CI.length Bp)) (fun _ h_ => h_.1)) (fun _ h_ => h_.1))) hb); replace BH := ak (Kd.R_below (by (with_reducible repeat (first | apply Kd.R_alloc | apply Kd.R_drewN | apply Kd.R_drew)); exact (Kd.R_mono (Kd.R_mono (Kd.R_far (p := ⟨A7, 1, none⟩) (Kd.R_far (p := ⟨A7, 0, none⟩) (Kd.R_far (p := ⟨A9, 1, none⟩) (Kd.R_far (p := ⟨A9, 0, none⟩) (Kd.R_types (Kd.R_types BH.out Am.out (by decide)) Ao.out (by decide)) (fun _ hk => hk.1.2) (.int .i16 Bs)) (fun _ hk => hk.1.2) (.slice B0 CJ.length Bo)) (fun _ hk => hk.2) (.int .i16 Bu)) (fun _ hk => hk.2) (.slice Bv CI.length Bp)) (fun _ h_ => h_.1)) (fun _ h_ => h_.1))) hb); replace BF := ak (Kd.R_below (by (with_reducible repeat (first | apply Kd.R_alloc | apply Kd.R_drewN | apply Kd.R_drew)); exact (Kd.R_mono (Kd.R_mono (Kd.R_far (p := ⟨A7, 1, none⟩) (Kd.R_far (p := ⟨A7, 0, none⟩) (Kd.R_far (p := ⟨A9, 1, none⟩) (Kd.R_far (p := ⟨A9, 0, none⟩) (Kd.R_types (Kd.R_types BF.out Am.out (by decide)) Ao.out (by decide)) (fun _ hk => hk.1.2) (.int .i16 Bs)) (fun _ hk => hk.1.2) (.slice B0 CJ.length Bo)) (fun _ hk => hk.2) (.int .i16 Bu)) (fun _ hk => hk.2) (.slice Bv CI.length Bp)) (fun _ h_ => h_.1)) (fun _ h_ => h_.1))) hb); replace AD := ak (blk_below (g := 0) (o := .cells #[.int .i64 Ag] 3 (0, 0)) (by (with_reducible repeat (first | refine blk_drewN ?_ _ | refine blk_drew ?_ | refine blk_alloc ?_ _)); refine blk_far ?_ Cw.out _; (with_reducible repeat (first | refine blk_drewN ?_ _ | refine blk_drew ?_ | refine blk_alloc ?_ _)); refine blk_far ?_ Cw.out _; (with_reducible repeat (first | refine blk_drewN ?_ _ | refine blk_drew ?_ | refine blk_alloc ?_ _)); refine blk_far ?_ Ct.out _; (with_reducible repeat (first | refine blk_drewN ?_ _ | refine blk_drew ?_ | refine blk_alloc ?_ _)); refine blk_far ?_ Ct.out _; (with_reducible repeat (first | refine blk_drewN ?_ _ | refine blk_drew ?_ | refine blk_alloc ?_ _)); exact AD.out) hb); replace AC := ak (blk_below (g := AQ) (o := .cells #[.int .i16 AN, .slice Bd AF.length AO] 27 (0, 0)) (by (with_reducible repeat (first | refine blk_drewN ?_ _ | refine blk_drew ?_ | refine blk_alloc ?_ _)); refine blk_far ?_ C7.out _; (with_reducible repeat (first | refine blk_drewN ?_ _ | refine blk_drew ?_ | refine blk_alloc ?_ _)); refine blk_far ?_ C7.out _; (with_reducible repeat (first | refine blk_drewN ?_ _ | refine blk_drew ?_ | refine blk_alloc ?_ _)); refine blk_far ?_ DG.out _; (with_reducible repeat (first | refine blk_drewN ?_ _ | refine blk_drew ?_ | refine blk_alloc ?_ _)); refine blk_far ?_ DG.out _; (with_reducible repeat (first | refine blk_drewN ?_ _ | refine blk_drew ?_ | refine blk_alloc ?_ _)); exact AC.out) hb); replace AE := ak (blk_below (g := Ai) (o := .cells #[.int .i16 BW, .slice AX AR.length AZ] 27 (0, 0)) (by (with_reducible repeat (first | refine blk_drewN ?_ _ | refine blk_drew ?_ | refine blk_alloc ?_ _)); refine blk_far ?_ C9.out _; (with_reducible repeat (first | refine blk_drewN ?_ _ | refine blk_drew ?_ | refine blk_alloc ?_ _)); refine blk_far ?_ C9.out _; (with_reducible repeat (first | refine blk_drewN ?_ _ | refine blk_drew ?_ | refine blk_alloc ?_ _)); refine blk_far ?_ C8.out _; (with_reducible repeat (first | refine blk_drewN ?_ _ | refine blk_drew ?_ | refine blk_alloc ?_ _)); refine blk_far ?_ C8.out _; (with_reducible repeat (first | refine blk_drewN ?_ _ | refine blk_drew ?_ | refine blk_alloc ?_ _)); exact AE.out) hb); replace AU := ak (blk_below (g := Ah) (o := .cells #[.int .i16 Bz, .slice BS Br.length BV] 27 (0, 0)) (by (with_reducible repeat (first | refine blk_drewN ?_ _ | refine blk_drew ?_ | refine blk_alloc ?_ _)); refine blk_far ?_ DF.out _; (with_reducible repeat (first | refine blk_drewN ?_ _ | refine blk_drew ?_ | refine blk_alloc ?_ _)); refine blk_far ?_ DF.out _; (with_reducible repeat (first | refine blk_drewN ?_ _ | refine blk_drew ?_ | refine blk_alloc ?_ _)); refine blk_far ?_ DI.out _; (with_reducible repeat (first | refine blk_drewN ?_ _ | refine blk_drew ?_ | refine blk_alloc ?_ _)); refine blk_far ?_ DI.out _; (with_reducible repeat (first | refine blk_drewN ?_ _ | refine blk_drew ?_ | refine blk_alloc ?_ _)); exact AU.out) hb); replace AV := ak (blk_below (g := Aj) (o := .cells #[.int .i16 By, .slice BU Bq.length BT] 27 (0, 0)) (by (with_reducible repeat (first | refine blk_drewN ?_ _ | refine blk_drew ?_ | refine blk_alloc ?_ _)); refine blk_far ?_ C4.out _; (with_reducible repeat (first | refine blk_drewN ?_ _ | refine blk_drew ?_ | refine blk_alloc ?_ _)); refine blk_far ?_ C4.out _; (with_reducible repeat (first | refine blk_drewN ?_ _ | refine blk_drew ?_ | refine blk_alloc ?_ _)); refine blk_far ?_ C2.out _; (with_reducible repeat (first | refine blk_drewN ?_ _ | refine blk_drew ?_ | refine blk_alloc ?_ _)); refine blk_far ?_ C2.out _; (with_reducible repeat (first | refine blk_drewN ?_ _ | refine blk_drew ?_ | refine blk_alloc ?_ _)); exact AV.out) hb); replace Am := ak (blk_below (g := A9) (o := .cells #[.int .i16 Bs, .slice B0 CJ.length Bo] 27 (0, 0)) (by (with_reducible repeat (first | refine blk_drewN ?_ _ | refine blk_drew ?_ | refine blk_alloc ?_ _)); refine blk_far ?_ DA.out _; (with_reducible repeat (first | refine blk_drewN ?_ _ | refine blk_drew ?_ | refine blk_alloc ?_ _)); refine blk_far ?_ DA.out _; (with_reducible repeat (first | refine blk_drewN ?_ _ | refine blk_drew ?_ | refine blk_alloc ?_ _)); refine blk_put (cs := #[.int .i16 Bs, .slice none 0 0]) ?_ 1 _ rfl; (with_reducible repeat (first | refine blk_drewN ?_ _ | refine blk_drew ?_ | refine blk_alloc ?_ _)); refine blk_put (cs := #[.int .i16 0, .slice none 0 0]) ?_ 0 _ rfl; (with_reducible repeat (first | refine blk_drewN ?_ _ | refine blk_drew ?_ | refine blk_alloc ?_ _)); exact Am.out) hb); replace Ao := ak (blk_below (g := A7) (o := .cells #[.int .i16 Bu, .slice Bv CI.length Bp] 27 (0, 0)) (by (with_reducible repeat (first | refine blk_drewN ?_ _ | refine blk_drew ?_ | refine blk_alloc ?_ _)); refine blk_put (cs := #[.int .i16 Bu, .slice none 0 0]) ?_ 1 _ rfl; (with_reducible repeat (first | refine blk_drewN ?_ _ | refine blk_drew ?_ | refine blk_alloc ?_ _)); refine blk_put (cs := #[.int .i16 0, .slice none 0 0]) ?_ 0 _ rfl; (with_reducible repeat (first | refine blk_drewN ?_ _ | refine blk_drew ?_ | refine blk_alloc ?_ _)); refine blk_far ?_ DE.out _; (with_reducible repeat (first | refine blk_drewN ?_ _ | refine blk_drew ?_ | refine blk_alloc ?_ _)); refine blk_far ?_ DE.out _; (with_reducible repeat (first | refine blk_drewN ?_ _ | refine blk_drew ?_ | refine blk_alloc ?_ _)); exact Ao.out) hb); replace HB := ak (below_step (zH6 HB AG AH BA BQ Bj CA) hb); (try clear hb); (try clear hk); (try clear Ay); obtain ⟨L0, Lo, Lc, MO⟩ := cz2 O8 Ao) | ((with_reducible refine gate_callee (f := 9) rfl ?_); refine goesL_ (some 163) rfl rfl Tryz.func9 (by kernel_rfl) rfl #[.agg #[.int .i16 Bu, .slice Bv CI.length Bp]] rfl gl_ ?_; (with_reducible refine (impl_SpacingsOf.calls k3 Bu _ _ CI Dv GO _ ?side1 ?side2 Nd.out).mono ?_); (case side1 => exact sC BF); (case side2 => exact sL BF); rintro e KO ⟨IY, rfl, Ay, hb⟩; refine ⟨_, rfl, ?_⟩; have Bt := ak (Kd.R_lower (Kd.R_new' (Kd.R_new' Ay (Kd.R_lt (zR AY.out))) (Kd.R_lt (zR Be.out))) (below_size (zH6 HB AG AH BA BQ Bj CA))); replace AI := kR AI hb; replace AY := kE AY Ay hb; replace AA := kR AA hb; replace AB := kR AB hb; replace As := kR As hb; replace Ar := kR Ar hb; replace BH := kR BH hb; replace BF := kR BF hb; replace Be := kE Be Ay hb; replace AD := kK AD hb; replace AC := kK AC hb; replace AE := kK AE hb; replace AU := kK AU hb; replace AV := kK AV hb; replace Am := kK Am hb; replace Ao := kK Ao hb; replace HB := ak (below_step (zH6 HB AG AH BA BQ Bj CA) hb); (try clear hb); (try clear Ay); obtain ⟨Mk, Lv, KY, Lh⟩ := cz2 KO AU; obtain ⟨Jx, K7, LM, Jy⟩ := cz2 KO Am) | (go_at_call 11; (with_reducible refine (spec_SameRope.calls k3 Bz _ _ Br Bs _ _ CJ true _ ?side1 ?side2 ?side3 ?side4 OZ.out).mono ?_); (case side1 => exact sC As); (case side2 => exact sL As); (case side3 => exact sC BH); (case side4 => exact sL BH); rintro e Lr ⟨rfl, hb⟩; replace AI := kR AI hb; replace AY := kR AY hb; replace AA := kR AA hb; replace AB := kR AB hb; replace As := kR As hb; replace Ar := kR Ar hb; replace BH := kR BH hb; replace BF := kR BF hb; replace Be := kR Be hb; replace Bt := kR Bt hb; replace AD := kK AD hb; replace AC := kK AC hb; replace AE := kK AE hb; replace AU := kK AU hb; replace AV := kK AV hb; replace Am := kK Am hb; replace Ao := kK Ao hb; replace HB := ak (below_step (zH6 HB AG AH BA BQ Bj CA) hb); (try clear hb); obtain ⟨Lz, KM, K3, LH⟩ := cz2 Lr AV; obtain ⟨Jw, Kw, LL, K6⟩ := cz2 Lr Ao) | (go_at_call 11; (with_reducible refine (spec_SameRope.calls k3 By _ _ Bq Bu _ _ CI true _ ?side1 ?side2 ?side3 ?side4 Q0.out).mono ?_); (case side1 => exact sC Ar); (case side2 => exact sL Ar); (case side3 => exact sC BF); (case side4 => exact sL BF); rintro e JU ⟨rfl, hb⟩; replace AI := kR AI hb; replace AY := kR AY hb; replace AA := kR AA hb; replace AB := kR AB hb; replace As := kR As hb; replace Ar := kR Ar hb; replace BH := kR BH hb; replace BF := kR BF hb; replace Be := kR Be hb; replace Bt := kR Bt hb; replace AD := kK AD hb; replace AC := kK AC hb; replace AE := kK AE hb; replace AU := kK AU hb; replace AV := kK AV hb; replace Am := kK Am hb; replace Ao := kK Ao hb; replace HB := ak (below_step (zH6 HB AG AH BA BQ Bj CA) hb); (try clear hb); obtain ⟨Ku, L1, Ko, K4⟩ := cz2 JU Am; obtain ⟨Lk, Ks, Lg, L4⟩ := cz2 JU Ao; obtain ⟨LC, K5, LG, K8⟩ := cz2 JU AC) | ((with_reducible refine gate_dst (N := 204) rfl ?_); (try (refine gate_guard (by rfl) ?_; dsimp only)); refine Kd.R_lit (Kd.int .i64) _ 2 ?hg (N := 204) ?hd (xs := ([] : List Int)) (inner := []) (ok := fun _ => True) (okp := fun _ => True) ?hr ?hp (fun _ hk => hk) trivial (Below.refl _ _) (Nat.le_refl _) (by simp) ?_; (case hd => rfl); (case hg => rfl); (case hr => first | (go_simp; done) | (go_simp; rfl)); (case hp => exact (Reps.none _ _)); intro QH TK DJ hb S6 Mu; clear S6 Mu; (first | rw [← H8.out] at DJ | (simp only [Int.reduceToNat] at DJ; rw [← H8.out] at DJ)); have Bm := ak (Kd.R_lower (Kd.R_new' (Kd.R_new' (Kd.R_new' DJ (Kd.R_lt (zR AY.out))) (Kd.R_lt (zR Be.out))) (Kd.R_lt (zR Bt.out))) (below_size (zH6 HB AG AH BA BQ Bj CA))); replace AI := kR AI hb; replace AY := kE AY DJ hb; replace AA := kR AA hb; replace AB := kR AB hb; replace As := kR As hb; replace Ar := kR Ar hb; replace BH := kR BH hb; replace BF := kR BF hb; replace Be := kE Be DJ hb; replace Bt := kE Bt DJ hb; replace AD := kK AD hb; replace AC := kK AC hb; replace AE := kK AE hb; replace AU := kK AU hb; replace AV := kK AV hb; replace Am := kK Am hb; replace Ao := kK Ao hb; replace HB := ak (below_step (zH6 HB AG AH BA BQ Bj CA) hb); clear hb DJ; obtain ⟨D5, D6, Ju⟩ := Kd.R_slice Be.out; subst Ju) | ((with_reducible refine gate_builtin (b := .append) (xs := #[.tmp 204, .tmp 205]) rfl ?_); (try (refine gate_guard (by rfl) ?_; dsimp only)); at_builtin; refine Kd.R_append_rows (Kd.int .i64) (w0 := w) w.heap.size rfl (.tmp 204) (.tmp 205) 34 2 (.int .i64 0) 8 rfl Tryz.underlying34 info2 rfl (by decide) (by omega) QH Gb DM _ _ _ (fun k_ => some k_ ≠ (EJ : Value).ownBlock ∧ some k_ ≠ (.slice D5 DM.length D6 : Value).ownBlock ∧ some k_ ≠ (IY : Value).ownBlock) (fun _ => False) rfl rfl ?aO ?aR (fun _ _ h => h) (fun _ h => h.elim) ?aF ?aB ?aS ?aL ?_; (case aR => exact zC (Kd.R_reads' Be.out).2.2); (case aB => exact (zH6 HB AG AH BA BQ Bj CA)); (case aF => exact (fun k_ hk => ⟨Kd.fresh' (Kd.R_lt (zR AY.out)) k_ hk, Kd.fresh' (Kd.R_lt (zR Be.out)) k_ hk, Kd.fresh' (Kd.R_lt (zR Bt.out)) k_ hk⟩)); (case aO => exact (by (with_reducible repeat (first | apply Kd.R_alloc | apply Kd.R_drewN | apply Kd.R_drew)); exact Kd.R_mono Bm.out (fun _ hk => ⟨hk.1.1.2, ⟨hk.1.2, hk.2⟩⟩))); (case aS => exact (below_size (zH6 HB AG AH BA BQ Bj CA))); (case aL => have := JL.out; omega); intro Qr Ss ho hb hg hat; rw [← MH.out] at ho; have Bk := ak (ho); replace AI := ak (Kd.R_over' (zR AI.out) (Kd.R_typed (zR Bm.out)) (by decide) hg); replace AY := ak (Kd.R_after (ok := (fun k_ => some k_ ≠ (.slice D5 DM.length D6 : Value).ownBlock ∧ some k_ ≠ (IY : Value).ownBlock)) (by (with_reducible repeat (first | apply Kd.R_alloc | apply Kd.R_drewN | apply Kd.R_drew)); exact Kd.R_mono AY.out (fun _ hk => ⟨⟨hk.1.1.2, hk.1.2⟩, hk.2⟩)) hg hat); replace AA := ak (Kd.R_over' (zR AA.out) (Kd.R_typed (zR Bm.out)) (by decide) hg); replace AB := ak (Kd.R_over' (zR AB.out) (Kd.R_typed (zR Bm.out)) (by decide) hg); replace AD := ak (blk_grown (g := 0) (o := .cells #[.int .i64 Ag] 3 (0, 0)) (zK AD.out) hg (Kd.R_ne Bm.out AD.out (by decide))); replace AC := ak (blk_grown (g := AQ) (o := .cells #[.int .i16 AN, .slice Bd AF.length AO] 27 (0, 0)) (zK AC.out) hg (Kd.R_ne Bm.out AC.out (by decide))); replace AE := ak (blk_grown (g := Ai) (o := .cells #[.int .i16 BW, .slice AX AR.length AZ] 27 (0, 0)) (zK AE.out) hg (Kd.R_ne Bm.out AE.out (by decide))); replace As := ak (Kd.R_over' (zR As.out) (Kd.R_typed (zR Bm.out)) (by decide) hg); replace Ar := ak (Kd.R_over' (zR Ar.out) (Kd.R_typed (zR Bm.out)) (by decide) hg); replace AU := ak (blk_grown (g := Ah) (o := .cells #[.int .i16 Bz, .slice BS Br.length BV] 27 (0, 0)) (zK AU.out) hg (Kd.R_ne Bm.out AU.out (by decide))); replace AV := ak (blk_grown (g := Aj) (o := .cells #[.int .i16 By, .slice BU Bq.length BT] 27 (0, 0)) (zK AV.out) hg (Kd.R_ne Bm.out AV.out (by decide))); replace BH := ak (Kd.R_over' (zR BH.out) (Kd.R_typed (zR Bm.out)) (by decide) hg); replace BF := ak (Kd.R_over' (zR BF.out) (Kd.R_typed (zR Bm.out)) (by decide) hg); replace Am := ak (blk_grown (g := A9) (o := .cells #[.int .i16 Bs, .slice B0 CJ.length Bo] 27 (0, 0)) (zK Am.out) hg (Kd.R_ne Bm.out Am.out (by decide))); replace Ao := ak (blk_grown (g := A7) (o := .cells #[.int .i16 Bu, .slice Bv CI.length Bp] 27 (0, 0)) (zK Ao.out) hg (Kd.R_ne Bm.out Ao.out (by decide))); replace Be := ak (Kd.R_after (ok := (fun k_ => some k_ ≠ (EJ : Value).ownBlock ∧ some k_ ≠ (IY : Value).ownBlock)) (by (with_reducible repeat (first | apply Kd.R_alloc | apply Kd.R_drewN | apply Kd.R_drew)); exact Kd.R_mono Be.out (fun _ hk => ⟨⟨hk.1.1.2, hk.1.2⟩, hk.2⟩)) hg hat); replace Bt := ak (Kd.R_after (ok := (fun k_ => some k_ ≠ (EJ : Value).ownBlock ∧ some k_ ≠ (.slice D5 DM.length D6 : Value).ownBlock)) (by (with_reducible repeat (first | apply Kd.R_alloc | apply Kd.R_drewN | apply Kd.R_drew)); exact Kd.R_mono Bt.out (fun _ hk => ⟨⟨hk.1.1.2, hk.1.2⟩, hk.2⟩)) hg hat); replace HB := ak (hb); clear Bm ho hb hg hat; obtain ⟨G8, Gh, J8⟩ := Kd.R_slice Bt.out; subst J8) | ((with_reducible refine gate_builtin (b := .append) (xs := #[.tmp 206, .tmp 207]) rfl ?_); (try (refine gate_guard (by rfl) ?_; dsimp only)); at_builtin; refine Kd.R_append_rows (Kd.int .i64) (w0 := w) w.heap.size rfl (.tmp 206) (.tmp 207) 34 2 (.int .i64 0) 8 rfl Tryz.underlying34 info2 rfl (by decide) (by omega) Qr Ei Dv _ _ _ (fun k_ => some k_ ≠ (EJ : Value).ownBlock ∧ some k_ ≠ (.slice D5 DM.length D6 : Value).ownBlock ∧ some k_ ≠ (.slice G8 Dv.length Gh : Value).ownBlock) (fun _ => False) rfl rfl ?aO ?aR (fun _ _ h => h) (fun _ h => h.elim) ?aF ?aB ?aS ?aL ?_; (case aR => exact zC (Kd.R_reads' Bt.out).2.2); (case aB => exact (zH6 HB AG AH BA BQ Bj CA)); (case aF => exact (fun k_ hk => ⟨Kd.fresh' (Kd.R_lt (zR AY.out)) k_ hk, Kd.fresh' (Kd.R_lt (zR Be.out)) k_ hk, Kd.fresh' (Kd.R_lt (zR Bt.out)) k_ hk⟩)); (case aO => exact (zR Bk.out)); (case aS => exact (below_size (zH6 HB AG AH BA BQ Bj CA))); (case aL => have := If.out; omega); intro TM TQ ho hb hg hat; rw [← LJ.out] at ho; have G2 := ak (ho); replace AI := ak (Kd.R_over' (zR AI.out) (Kd.R_typed (zR Bk.out)) (by decide) hg); replace AY := ak (Kd.R_after (ok := (fun k_ => some k_ ≠ (.slice D5 DM.length D6 : Value).ownBlock ∧ some k_ ≠ (.slice G8 Dv.length Gh : Value).ownBlock)) (zR AY.out) hg hat); replace AA := ak (Kd.R_over' (zR AA.out) (Kd.R_typed (zR Bk.out)) (by decide) hg); replace AB := ak (Kd.R_over' (zR AB.out) (Kd.R_typed (zR Bk.out)) (by decide) hg); replace AD := ak (blk_grown (g := 0) (o := .cells #[.int .i64 Ag] 3 (0, 0)) (zK AD.out) hg (Kd.R_ne Bk.out AD.out (by decide))); replace AC := ak (blk_grown (g := AQ) (o := .cells #[.int .i16 AN, .slice Bd AF.length AO] 27 (0, 0)) (zK AC.out) hg (Kd.R_ne Bk.out AC.out (by decide))); replace AE := ak (blk_grown (g := Ai) (o := .cells #[.int .i16 BW, .slice AX AR.length AZ] 27 (0, 0)) (zK AE.out) hg (Kd.R_ne Bk.out AE.out (by decide))); replace As := ak (Kd.R_over' (zR As.out) (Kd.R_typed (zR Bk.out)) (by decide) hg); replace Ar := ak (Kd.R_over' (zR Ar.out) (Kd.R_typed (zR Bk.out)) (by decide) hg); replace AU := ak (blk_grown (g := Ah) (o := .cells #[.int .i16 Bz, .slice BS Br.length BV] 27 (0, 0)) (zK AU.out) hg (Kd.R_ne Bk.out AU.out (by decide))); replace AV := ak (blk_grown (g := Aj) (o := .cells #[.int .i16 By, .slice BU Bq.length BT] 27 (0, 0)) (zK AV.out) hg (Kd.R_ne Bk.out AV.out (by decide))); replace BH := ak (Kd.R_over' (zR BH.out) (Kd.R_typed (zR Bk.out)) (by decide) hg); replace BF := ak (Kd.R_over' (zR BF.out) (Kd.R_typed (zR Bk.out)) (by decide) hg); replace Am := ak (blk_grown (g := A9) (o := .cells #[.int .i16 Bs, .slice B0 CJ.length Bo] 27 (0, 0)) (zK Am.out) hg (Kd.R_ne Bk.out Am.out (by decide))); replace Ao := ak (blk_grown (g := A7) (o := .cells #[.int .i16 Bu, .slice Bv CI.length Bp] 27 (0, 0)) (zK Ao.out) hg (Kd.R_ne Bk.out Ao.out (by decide))); replace Be := ak (Kd.R_after (ok := (fun k_ => some k_ ≠ (EJ : Value).ownBlock ∧ some k_ ≠ (.slice G8 Dv.length Gh : Value).ownBlock)) (zR Be.out) hg hat); replace Bt := ak (Kd.R_after (ok := (fun k_ => some k_ ≠ (EJ : Value).ownBlock ∧ some k_ ≠ (.slice D5 DM.length D6 : Value).ownBlock)) (zR Bt.out) hg hat); replace HB := ak (hb); clear Bk ho hb hg hat; obtain ⟨SA, Rk, Ls⟩ := Kd.R_slice G2.out; subst Ls; obtain ⟨R4, RB, L8⟩ := Kd.R_slice AY.out; subst L8) | (go_at_call 14; (with_reducible refine (spec_SameNumbers.calls k3 _ _ Ji _ _ C6 true _ ?side1 ?side2 ?side3 ?side4 HH.out).mono ?_); (case side1 => exact sC G2); (case side2 => exact sL G2); (case side3 => exact sC AY); (case side4 => exact sL AY); rintro e w' ⟨rfl, ⟨nd, rfl⟩⟩))
 refine handM k3 Ob ?measure (by kernel_rfl) ?rel
 case measure => have := DO.out; have := Bx.out; have := Du.out; omega
 case rel => dsimp only [List.getD_cons_succ, List.getD_cons_zero]; exact ⟨(wrap64 (BX + 1)), (by first | rfl | (simp; done) | (simp [*]; done)), H', ⟨by have := DO.out; have := Bx.out; have := Du.out; omega⟩, ⟨(zR AI.out)⟩, ⟨by (with_reducible repeat (first | apply Kd.R_alloc | apply Kd.R_drewN | apply Kd.R_drew)); exact Kd.R_mono AY.out (fun _ hk => trivial)⟩, ⟨by (with_reducible repeat (first | apply Kd.R_alloc | apply Kd.R_drewN | apply Kd.R_drew)); exact Kd.R_mono AA.out (fun _ hk => hk.1.1.1.1)⟩, ⟨by (with_reducible repeat (first | apply Kd.R_alloc | apply Kd.R_drewN | apply Kd.R_drew)); exact Kd.R_mono AB.out (fun _ hk => hk.1.1.1.1)⟩, ⟨(zK AD.out)⟩, ⟨(zK AC.out)⟩, ⟨(zK AE.out)⟩, ⟨zH6 HB AG AH BA BQ Bj CA⟩⟩
 }
 {
 replace HK := Bool.eq_false_iff.mpr HK
 subst HK
 rw [if_neg (show ¬ (false = true) by decide)] at H
 exact absurd ((Option.some.inj H).trans HT.out) (by decide)
 }
 }
 · rw [if_neg HI] at H; exact absurd H (by simp)
 }
 · rw [if_neg HZ] at H; exact absurd H (by simp)
 }
 · rw [if_neg Fe] at H; have IR : (GO == 0) = false := beq_eq_false_iff_ne.mpr Fe; have JN : (GO != 0) = true := bne_iff_ne.mpr Fe; exact absurd ((Option.some.inj H).trans HT.out) (by decide)
 }
 · rw [if_neg Fa] at H; have JD : (GI == 0) = false := beq_eq_false_iff_ne.mpr Fa; have ID : (GI != 0) = true := bne_iff_ne.mpr Fa; exact absurd ((Option.some.inj H).trans HT.out) (by decide)
 }
 · rw [if_neg FH] at H; have Iy : ((IntKind.i16.wrap (Bs + Bu)) == AN) = false := beq_eq_false_iff_ne.mpr FH; have JZ : ((IntKind.i16.wrap (Bs + Bu)) != AN) = true := bne_iff_ne.mpr FH; exact absurd ((Option.some.inj H).trans HT.out) (by decide)
 }
 {
 replace HV := Bool.eq_false_iff.mpr HV
 subst HV
 rw [if_neg (show ¬ (false = true) by decide)] at H
 exact absurd ((Option.some.inj H).trans HT.out) (by decide)
 }
 }
 {
 replace HP := Bool.eq_false_iff.mpr HP
 subst HP
 rw [if_neg (show ¬ (false = true) by decide)] at H
 exact absurd ((Option.some.inj H).trans HT.out) (by decide)
 }
 }
 · rw [if_neg FV] at H; have Iv : (Dn == 0) = false := beq_eq_false_iff_ne.mpr FV; have IF : (Dn != 0) = true := bne_iff_ne.mpr FV; exact absurd ((Option.some.inj H).trans HT.out) (by decide)
 }
 · rw [if_neg FT] at H; have Ia : (Dn == GY) = false := beq_eq_false_iff_ne.mpr FT; have JO : (Dn != GY) = true := bne_iff_ne.mpr FT; exact absurd ((Option.some.inj H).trans HT.out) (by decide)
 }
 {
 rw [if_neg DL] at H
 have FF : decide ((wrap64 (BX + 1)) < (AF.length : Int)) = false := decide_eq_false DL
 (try (have FR : decide ((IntKind.i64.wrap (BX + 1)) < (AF.length : Int)) = false := by first | simpa only [i64_w, i32_w] using (show decide ((wrap64 (BX + 1)) < (AF.length : Int)) = false from decide_eq_false DL) | simpa only [i64_w] using (show decide ((wrap64 (BX + 1)) < (AF.length : Int)) = false from decide_eq_false DL)))
 clear DL
 replace H := Option.bind_eq_some_iff.mp H
 obtain ⟨CD, IC, H⟩ := H
 have N9 := ak IC
 clear IC
 replace H := Option.bind_eq_some_iff.mp H
 obtain ⟨⟨La, Dt⟩, IB, H⟩ := H
 have QU := ak IB
 clear IB
 replace H := Option.bind_eq_some_iff.mp H
 obtain ⟨⟨Bi, GU⟩, H0, H⟩ := H
 have QW := ak H0
 clear H0
 have Gx := ak H
 clear H
 have QN := BC.out
 have P9 := Aq.out
 have P8 := Ap.out
 have Ps := BB.out
 have Ew : wr.cell? ⟨AQ, 0, none⟩ = some (.int .i16 AN) := (blk_cell AC.out 0).trans rfl
 have EI : wr.cell? ⟨AQ, 1, none⟩ = some (.slice Bd AF.length AO) := (blk_cell AC.out 1).trans rfl
 have Ez := blk_frozen AC.out 0
 have E4 := blk_frozen AC.out 1
 go_upto_region 22 with (first | ((with_reducible refine gate_callee (f := 18) rfl ?_); refine goesL_ (some 218) rfl rfl Tryz.func18 (by kernel_rfl) rfl #[.slice A1 l1.length c1, .int .i64 (wrap64 ((wrap64 (AN)) + 1))] rfl gl_ ?_; (with_reducible refine (spec_P6Pick.calls _ _ l1 (wrap64 ((wrap64 (AN)) + 1)) CD _ ?side1 ?side2 N9.out).mono ?_); (case side1 => exact sQ (Kd.C_below JW.out HB.out)); (case side2 => exact JS.out); rintro e Ny ⟨rfl, hb⟩; refine ⟨_, rfl, ?_⟩; replace AI := kR AI hb; replace AY := kR AY hb; replace AA := kR AA hb; replace AB := kR AB hb; replace AD := kK AD hb; replace AC := kK AC hb; replace AE := kK AE hb; replace HB := kB2 HB AG AH hb; (try clear hb); obtain ⟨E7, E3, Eo, Eu⟩ := cz2 Ny AC) | ((with_reducible refine gate_callee (f := 19) rfl ?_); refine goesL_ (some 222) rfl rfl Tryz.func19 (by kernel_rfl) rfl #[.agg #[.int .i16 AN, .slice Bd AF.length AO], .int .i64 CD] rfl gl_ ?_; (with_reducible refine (impl_NearestKnot.calls k3 AN _ _ AF CD La Dt _ ?side1 ?side2 QU.out).mono ?_); (case side1 => exact sC AA); (case side2 => exact sL AA); rintro e On ⟨rfl, hb⟩; refine ⟨_, rfl, ?_⟩; replace AI := kR AI hb; replace AY := kR AY hb; replace AA := kR AA hb; replace AB := kR AB hb; replace AD := kK AD hb; replace AC := kK AC hb; replace AE := kK AE hb; replace HB := kB2 HB AG AH hb; (try clear hb); obtain ⟨Em, En, Ep, FB⟩ := cz2 On AC) | ((with_reducible refine gate_callee (f := 20) rfl ?_); refine goesL_ (some 228) rfl rfl Tryz.func20 (by kernel_rfl) rfl #[.agg #[.int .i16 AN, .slice Bd AF.length AO], .int .i64 CD] rfl gl_ ?_; (with_reducible refine (spec_NearestKnot.calls k3 AN _ _ AF CD Bi GU _ ?side1 ?side2 QW.out).mono ?_); (case side1 => exact sC AA); (case side2 => exact sL AA); rintro e Sr ⟨rfl, hb⟩; refine ⟨_, rfl, ?_⟩; replace AI := kR AI hb; replace AY := kR AY hb; replace AA := kR AA hb; replace AB := kR AB hb; replace AD := kK AD hb; replace AC := kK AC hb; replace AE := kK AE hb; replace HB := kB2 HB AG AH hb; (try clear hb)))
 (try simp only [Act.put, zs, zz, zk])
 refine wp_cutM 3773962424821541352241554580988268890916921220416440428376206300245624162392148852086126725177658767541468375030763844899770584629924792632561434251432407813273243615232 (fun (u : Nat → Value) wc => ∃ (kq : Nat) (Co : Bool), u 242 = .bool Co ∧ Aside0 (laws_FnRopes.j3 kq l0 l1 AP CD Bi Co AN AF = some r) ∧ Aside0 (kq ≤ k3) ∧ Aside0 (Kd.R k52 52 wc w.heap.size (fun _ => True) HC AP) ∧ Aside0 (Kd.R (Kd.int .i16) 24 wc w.heap.size (fun k_ => some k_ ≠ ((.slice AX AR.length AZ) : Value).ownBlock) (.slice Bd AF.length AO) AF) ∧ Aside0 (Kd.R (Kd.int .i16) 24 wc w.heap.size (fun k_ => some k_ ≠ ((.slice Bd AF.length AO) : Value).ownBlock) (.slice AX AR.length AZ) AR) ∧ Aside0 (wc.heap[0]? = some (.cells #[.int .i64 Ag] 3 (0, 0))) ∧ Aside0 (wc.heap[AQ]? = some (.cells #[.int .i16 AN, (.slice Bd AF.length AO)] 27 (0, 0))) ∧ Aside0 (wc.heap[Ai]? = some (.cells #[.int .i16 BW, (.slice AX AR.length AZ)] 27 (0, 0))) ∧ Aside0 (Below w.heap.size w wc)) ?first ?rest
 case first => (
 intro J_ K_ Nq hK_
 have H := Gx.out
 clear Gx
 by_cases Fb : Dt = GU
 {
 rw [if_pos Fb] at H
 have Do : (Dt == GU) = true := beq_iff_eq.mpr Fb
 have JB : (Dt != GU) = false := bne_eq_false_iff_eq.mpr Fb
 clear Fb
 (first | rw [Do] | (simp only [i64_w, i32_w]; rw [Do]) | skip)
 by_cases Fc : Dt = 0
 {
 rw [if_pos Fc] at H
 have I9 : (Dt == 0) = true := beq_iff_eq.mpr Fc
 have JH : (Dt != 0) = false := bne_eq_false_iff_eq.mpr Fc
 clear Fc
 have H' := ak H
 clear H
 go_wp2
 refine meetM Nq (by kernel_rfl) ?rel
 case rel => dsimp only [List.getD_cons_succ, List.getD_cons_zero]; exact ⟨_, ((La != Bi)), (by first | rfl | (simp; done) | (simp [*]; done)), H', ⟨by have := DO.out; have := Bx.out; have := Du.out; first | omega | exact Nat.le_refl _⟩, ⟨(zR AI.out)⟩, ⟨(zR AA.out)⟩, ⟨(zR AB.out)⟩, ⟨(zK AD.out)⟩, ⟨(zK AC.out)⟩, ⟨(zK AE.out)⟩, ⟨zH2 HB AG AH⟩⟩
 }
 {
 rw [if_neg Fc] at H
 have I9 : (Dt == 0) = false := beq_eq_false_iff_ne.mpr Fc
 have JH : (Dt != 0) = true := bne_iff_ne.mpr Fc
 exact (laws_FnRopes.n3 H HT).elim
 }
 }
 {
 rw [if_neg Fb] at H
 have Do : (Dt == GU) = false := beq_eq_false_iff_ne.mpr Fb
 have JB : (Dt != GU) = true := bne_iff_ne.mpr Fb
 (first | rw [Do] | (simp only [i64_w, i32_w]; rw [Do]) | skip)
 exact (laws_FnRopes.n3 H HT).elim
 }
 )
 case rest => (
 as_aux_lemma =>
 intro Ti wc hcut
 dsimp only [frU, cond, Nat.reduceMod, Nat.reduceDiv, Nat.reduceAdd, Nat.reduceBEq, Nat.reduceEqDiff, beq_self_eq_true]
 clear Gx
 try clear c1
 try clear c9
 try clear Fj
 try clear DL
 try clear FF
 try clear FR
 try clear Dh
 try clear Dd
 try clear Ew
 try clear EI
 try clear E7
 try clear E3
 try clear Em
 try clear En
 try clear Dg
 try clear DY
 try clear DR
 try clear Dc
 try clear DN
 try clear DX
 try clear De
 try clear DW
 try clear Di
 try clear Da
 try clear Ez
 try clear E4
 try clear Eo
 try clear Eu
 try clear Ep
 try clear FB
 try clear DV
 try clear DP
 try clear Df
 try clear Db
 try clear DZ
 try clear DT
 try clear DS
 try clear DU
 obtain ⟨kq, Co, Fq, HA, BY, AI, AA, AB, AD, AC, AE, HB⟩ := hcut
 rw [Fq]
 clear Fq
 cases kq with
 | zero => exact absurd HA.out (by simp [laws_FnRopes.j3])
 | succ Hs => (
 have H := HA.out
 clear HA
 simp only [laws_FnRopes.j3] at H
 by_cases Gj : Co = true
 {
 subst Gj
 rw [if_pos rfl] at H
 exact absurd ((Option.some.inj H).trans HT.out) (by decide)
 }
 {
 replace Gj := Bool.eq_false_iff.mpr Gj
 subst Gj
 rw [if_neg (show ¬ (false = true) by decide)] at H
 by_cases G6 : 0 ≤ Bi
 {
 rw [if_pos G6] at H
 have IZ : decide (0 ≤ Bi) = true := decide_eq_true G6
 clear G6
 by_cases Ga : Bi < (AF.length : Int)
 {
 rw [if_pos Ga] at H
 have IL : decide (Bi < (AF.length : Int)) = true := decide_eq_true Ga
 clear Ga
 obtain ⟨Cf, Dy⟩ : ∃ j_ : Int, (mx (wrap64 ((wrap64 (rd AF Bi)) - CD)) (wrap64 (CD - (wrap64 (rd AF Bi))))) = j_ := ⟨_, rfl⟩
 first | rw [Dy] at H | simp only [Dy] at H
 have M7 : (if (wrap64 ((wrap64 (rd AF Bi)) - CD)) < (wrap64 (CD - (wrap64 (rd AF Bi)))) then (wrap64 (CD - (wrap64 (rd AF Bi)))) else (wrap64 ((wrap64 (rd AF Bi)) - CD))) = Cf := Dy
 have H' := ak H
 clear H
 try go_wp2
 replace AI := ak (Kd.R_drew AI.out)
 replace AA := ak (Kd.R_drew AA.out)
 replace AB := ak (Kd.R_drew AB.out)
 replace AD := ak (blk_drew AD.out)
 replace AC := ak (blk_drew AC.out)
 replace AE := ak (blk_drew AE.out)
 replace HB := ak (below_drew1 HB.out)
 have HR : 0 ≤ (Bi : Int) := of_decide_eq_true (by first | (with_reducible assumption) | assumption)
 have G9 : Bi < (AF.length : Int) := of_decide_eq_true (by first | (with_reducible assumption) | assumption)
 obtain ⟨AM, QA, EA⟩ := Kd.at_int (Kd.R_reads' AA.out).2.2 Bi HR G9
 cases QA
 replace HR := eq_true HR
 replace G9 := eq_true G9
 have HJ : 0 ≤ (Bi : Int) := of_decide_eq_true (by first | (with_reducible assumption) | assumption)
 have HO : Bi < (AF.length : Int) := of_decide_eq_true (by first | (with_reducible assumption) | assumption)
 obtain ⟨MX, OY, EC⟩ := Kd.at_int (Kd.R_reads' AA.out).2.2 Bi HJ HO
 obtain rfl : AM = MX := (by injection OY)
 replace HJ := eq_true HJ
 replace HO := eq_true HO
 refine start_ (n := 18) (S := fun w' => w'.cell? ⟨AQ, 0, none⟩ = some (.int .i16 AN) ∧ w'.cell? ⟨AQ, 1, none⟩ = some (.slice (some AM) AF.length AO) ∧ w'.cell? (AM.add (Bi).toNat) = some (.int .i16 (rd AF Bi)) ∧ w'.cell? (AM.add (Bi).toNat) = some (.int .i16 (rd AF Bi))) (ds := []) (bA 18 0) (by kernel_rfl) rfl rfl ⟨(blk_cell AC.out 0).trans rfl, (blk_cell AC.out 1).trans rfl, EA, EC⟩ (fun hHeld => ?_); refine with_tabW laws_FnRopes.tab24 laws_FnRopes.bits24 (fun HT_ HW_ => ?_)
 generalize wc.drew = S0 at AI AA AB AD AC AE HB EA EC hHeld ⊢
 refine pU 0 243 (bA 18 1) HT_ ?_
 refine pU 2 245 (bA 18 5) HT_ ?_
 refine pU 6 249 (bA 18 69) HT_ ?_
 refine pU 8 251 (bA 18 325) HT_ ?_
 refine pU 9 252 (bA 18 837) HT_ ?_
 refine pU 11 254 (bA 18 2885) HT_ ?_
 refine tK 1 244 (bA 18 2887) HT_ HW_ hHeld ?_
 refine pU 3 246 (bA 18 2895) HT_ ?_
 refine tK 4 247 (bA 18 2911) HT_ HW_ hHeld ?_
 refine pU 5 248 (bA 18 2943) HT_ ?_
 refine pU 7 250 (bA 18 3071) HT_ ?_
 refine tK 10 253 (bA 18 4095) HT_ HW_ hHeld ?_
 refine pU 12 255 (bA 18 8191) HT_ ?_
 refine tK 13 256 (bA 18 16383) HT_ HW_ hHeld ?_
 refine pU 14 257 (bA 18 32767) HT_ ?_
 refine pU 15 258 (bA 18 65535) HT_ ?_
 refine pU 16 259 (bA 18 131071) HT_ ?_
 refine pU 17 29 (bA 18 262143) HT_ ?_
 refine done_ (done_of HT_.out (by kernel_rfl)) ?_
 try go_wp2
 refine wp_loopM 254629497039958087355758651924395134371294542682589711574867307144666341126290481419911184 Hs (fun kq (u : Nat → Value) w' => ∃ (Ae : Int), u 30 = .int .i64 Ae ∧ Aside0 (laws_FnRopes.l1 kq l0 l1 AP CD Bi Cf Ae AN AF = some r) ∧ Aside0 (kq ≤ Hs) ∧ Aside0 (Kd.R k52 52 w' w.heap.size (fun _ => True) HC AP) ∧ Aside0 (Kd.R (Kd.int .i16) 24 w' w.heap.size (fun k_ => some k_ ≠ ((.slice AX AR.length AZ) : Value).ownBlock) (.slice (some AM) AF.length AO) AF) ∧ Aside0 (Kd.R (Kd.int .i16) 24 w' w.heap.size (fun k_ => some k_ ≠ ((.slice (some AM) AF.length AO) : Value).ownBlock) (.slice AX AR.length AZ) AR) ∧ Aside0 (w'.heap[0]? = some (.cells #[.int .i64 Ag] 3 (0, 0))) ∧ Aside0 (w'.heap[AQ]? = some (.cells #[.int .i16 AN, (.slice (some AM) AF.length AO)] 27 (0, 0))) ∧ Aside0 (w'.heap[Ai]? = some (.cells #[.int .i16 BW, (.slice AX AR.length AZ)] 27 (0, 0))) ∧ Aside0 (Below w.heap.size w w')) ?atStart ?round
 case atStart => dsimp only [List.getD_cons_succ, List.getD_cons_zero]; exact ⟨(0), (by first | rfl | (simp; done) | (simp [*]; done)), H', ⟨Nat.le_refl _⟩, ⟨(zR AI.out)⟩, ⟨(zR AA.out)⟩, ⟨(zR AB.out)⟩, ⟨(zK AD.out)⟩, ⟨(zK AC.out)⟩, ⟨(zK AE.out)⟩, ⟨zH2 HB AG AH⟩⟩
 case round => (
 intro gk Tg wr hrel J_ K_ LX hK_
 dsimp only [frU, cond, Nat.reduceMod, Nat.reduceDiv, Nat.reduceAdd, Nat.reduceBEq, Nat.reduceEqDiff, beq_self_eq_true]
 clear H'
 try clear c1
 try clear c9
 try clear Fj
 try clear DL
 try clear FF
 try clear FR
 try clear Gj
 try clear G6
 try clear IZ
 try clear Ga
 try clear IL
 try clear Dh
 try clear Dd
 try clear Ew
 try clear EI
 try clear E7
 try clear E3
 try clear Em
 try clear En
 try clear Dg
 try clear DY
 try clear DR
 try clear Dc
 try clear DN
 try clear DX
 try clear De
 try clear DW
 try clear Di
 try clear Da
 try clear Ez
 try clear E4
 try clear Eo
 try clear Eu
 try clear Ep
 try clear FB
 try clear DV
 try clear DP
 try clear Df
 try clear Db
 try clear DZ
 try clear DT
 try clear DS
 try clear DU
 try clear EA
 try clear EC
 try clear HR
 try clear HJ
 try clear G9
 try clear HO
 obtain ⟨Ae, Gf, HA, D4, AI, AA, AB, AD, AC, AE, HB⟩ := hrel
 rw [Gf]
 clear Gf
 cases gk with
 | zero => exact absurd HA.out (by simp [laws_FnRopes.l1])
 | succ k5 => (
 have H := HA.out
 clear HA
 simp only [laws_FnRopes.l1] at H
 by_cases Ej : Ae < (AF.length : Int)
 {
 rw [if_pos Ej] at H
 have FZ : decide (Ae < (AF.length : Int)) = true := decide_eq_true Ej
 clear Ej
 by_cases HX : 0 ≤ Ae
 {
 rw [if_pos HX] at H
 have No : decide (0 ≤ Ae) = true := decide_eq_true HX
 clear HX
 obtain ⟨Cj, Ff⟩ : ∃ j_ : Int, (mx (wrap64 ((wrap64 (rd AF Ae)) - CD)) (wrap64 (CD - (wrap64 (rd AF Ae))))) = j_ := ⟨_, rfl⟩
 first | rw [Ff] at H | simp only [Ff] at H
 have NG : (if (wrap64 ((wrap64 (rd AF Ae)) - CD)) < (wrap64 (CD - (wrap64 (rd AF Ae)))) then (wrap64 (CD - (wrap64 (rd AF Ae)))) else (wrap64 ((wrap64 (rd AF Ae)) - CD))) = Cj := Ff
 by_cases F9 : (Cj) < Cf
 · rw [if_pos F9] at H; have Io : decide ((Cj) < Cf) = true := decide_eq_true F9; clear F9; exact absurd ((Option.some.inj H).trans HT.out) (by decide)
 {
 rw [if_neg F9] at H
 have Io : decide ((Cj) < Cf) = false := decide_eq_false F9
 clear F9
 by_cases FI : (Cj) = Cf
 {
 rw [if_pos FI] at H
 have II : ((Cj) == Cf) = true := beq_iff_eq.mpr FI
 have Jc : ((Cj) != Cf) = false := bne_eq_false_iff_eq.mpr FI
 clear FI
 by_cases GH : Ae < Bi
 · rw [if_pos GH] at H; have I8 : decide (Ae < Bi) = true := decide_eq_true GH; clear GH; exact absurd ((Option.some.inj H).trans HT.out) (by decide)
 {
 rw [if_neg GH] at H
 have I8 : decide (Ae < Bi) = false := decide_eq_false GH
 clear GH
 have H' := ak H
 clear H
 have O6 := BC.out
 have Qj := Aq.out
 have Pv := Ap.out
 have Q5 := BB.out
 have MM : wr.cell? ⟨AQ, 0, none⟩ = some (.int .i16 AN) := (blk_cell AC.out 0).trans rfl
 have Kl : wr.cell? ⟨AQ, 1, none⟩ = some (.slice (some AM) AF.length AO) := (blk_cell AC.out 1).trans rfl
 have Ms := blk_frozen AC.out 0
 have LR := blk_frozen AC.out 1
 try go_wp2
 replace AI := ak (Kd.R_drew AI.out)
 replace AA := ak (Kd.R_drew AA.out)
 replace AB := ak (Kd.R_drew AB.out)
 replace AD := ak (blk_drew AD.out)
 replace AC := ak (blk_drew AC.out)
 replace AE := ak (blk_drew AE.out)
 replace HB := ak (below_drew1 HB.out)
 have FM : 0 ≤ (Ae : Int) := of_decide_eq_true (by first | (with_reducible assumption) | assumption)
 have FP : Ae < (AF.length : Int) := of_decide_eq_true (by first | (with_reducible assumption) | assumption)
 obtain ⟨Gy, JK, Cn⟩ := Kd.at_int (Kd.R_reads' AA.out).2.2 Ae FM FP
 obtain rfl : AM = Gy := (by injection JK)
 replace FM := eq_true FM
 replace FP := eq_true FP
 have FL : 0 ≤ (Ae : Int) := of_decide_eq_true (by first | (with_reducible assumption) | assumption)
 have FW : Ae < (AF.length : Int) := of_decide_eq_true (by first | (with_reducible assumption) | assumption)
 obtain ⟨Gd, IM, Cr⟩ := Kd.at_int (Kd.R_reads' AA.out).2.2 Ae FL FW
 obtain rfl : AM = Gd := (by injection IM)
 replace FL := eq_true FL
 replace FW := eq_true FW
 refine start_ (n := 18) (S := fun w' => w'.cell? ⟨AQ, 0, none⟩ = some (.int .i16 AN) ∧ w'.cell? ⟨AQ, 1, none⟩ = some (.slice (some AM) AF.length AO) ∧ w'.cell? (AM.add (Ae).toNat) = some (.int .i16 (rd AF Ae)) ∧ w'.cell? (AM.add (Ae).toNat) = some (.int .i16 (rd AF Ae))) (ds := []) (bA 18 0) (by kernel_rfl) rfl rfl ⟨(blk_cell AC.out 0).trans rfl, (blk_cell AC.out 1).trans rfl, Cn, Cr⟩ (fun hHeld => ?_); refine with_tabW laws_FnRopes.tab28 laws_FnRopes.bits28 (fun HT_ HW_ => ?_)
 generalize wr.drew = TN at AI AA AB AD AC AE HB Cn Cr hHeld ⊢
 refine pU 0 267 (bA 18 1) HT_ ?_
 refine pU 2 269 (bA 18 5) HT_ ?_
 refine pU 6 273 (bA 18 69) HT_ ?_
 refine pU 8 275 (bA 18 325) HT_ ?_
 refine pU 9 276 (bA 18 837) HT_ ?_
 refine pU 11 278 (bA 18 2885) HT_ ?_
 refine tK 1 268 (bA 18 2887) HT_ HW_ hHeld ?_
 refine pU 3 270 (bA 18 2895) HT_ ?_
 refine tK 4 271 (bA 18 2911) HT_ HW_ hHeld ?_
 refine pU 5 272 (bA 18 2943) HT_ ?_
 refine pU 7 274 (bA 18 3071) HT_ ?_
 refine tK 10 277 (bA 18 4095) HT_ HW_ hHeld ?_
 refine pU 12 279 (bA 18 8191) HT_ ?_
 refine tK 13 280 (bA 18 16383) HT_ HW_ hHeld ?_
 refine pU 14 281 (bA 18 32767) HT_ ?_
 refine pU 15 282 (bA 18 65535) HT_ ?_
 refine pU 16 283 (bA 18 131071) HT_ ?_
 refine pU 17 31 (bA 18 262143) HT_ ?_
 refine done_ (done_of HT_.out (by kernel_rfl)) ?_
 try go_wp2
 refine handM k5 LX ?measure (by kernel_rfl) ?rel
 case measure => have := DO.out; have := Bx.out; have := Du.out; have := BY.out; have := D4.out; omega
 case rel => dsimp only [List.getD_cons_succ, List.getD_cons_zero]; exact ⟨(wrap64 (Ae + 1)), (by first | rfl | (simp; done) | (simp [*]; done)), H', ⟨by have := DO.out; have := Bx.out; have := Du.out; have := BY.out; have := D4.out; omega⟩, ⟨(zR AI.out)⟩, ⟨(zR AA.out)⟩, ⟨(zR AB.out)⟩, ⟨(zK AD.out)⟩, ⟨(zK AC.out)⟩, ⟨(zK AE.out)⟩, ⟨zH2 HB AG AH⟩⟩
 }
 }
 {
 rw [if_neg FI] at H
 have II : ((Cj) == Cf) = false := beq_eq_false_iff_ne.mpr FI
 have Jc : ((Cj) != Cf) = true := bne_iff_ne.mpr FI
 have H' := ak H
 clear H
 have OB := BC.out
 have Q8 := Aq.out
 have P4 := Ap.out
 have PK := BB.out
 have L5 : wr.cell? ⟨AQ, 0, none⟩ = some (.int .i16 AN) := (blk_cell AC.out 0).trans rfl
 have KC : wr.cell? ⟨AQ, 1, none⟩ = some (.slice (some AM) AF.length AO) := (blk_cell AC.out 1).trans rfl
 have Lw := blk_frozen AC.out 0
 have L3 := blk_frozen AC.out 1
 try go_wp2
 replace AI := ak (Kd.R_drew AI.out)
 replace AA := ak (Kd.R_drew AA.out)
 replace AB := ak (Kd.R_drew AB.out)
 replace AD := ak (blk_drew AD.out)
 replace AC := ak (blk_drew AC.out)
 replace AE := ak (blk_drew AE.out)
 replace HB := ak (below_drew1 HB.out)
 have FM : 0 ≤ (Ae : Int) := of_decide_eq_true (by first | (with_reducible assumption) | assumption)
 have FP : Ae < (AF.length : Int) := of_decide_eq_true (by first | (with_reducible assumption) | assumption)
 obtain ⟨Gy, JK, Cn⟩ := Kd.at_int (Kd.R_reads' AA.out).2.2 Ae FM FP
 obtain rfl : AM = Gy := (by injection JK)
 replace FM := eq_true FM
 replace FP := eq_true FP
 have FL : 0 ≤ (Ae : Int) := of_decide_eq_true (by first | (with_reducible assumption) | assumption)
 have FW : Ae < (AF.length : Int) := of_decide_eq_true (by first | (with_reducible assumption) | assumption)
 obtain ⟨Gd, IM, Cr⟩ := Kd.at_int (Kd.R_reads' AA.out).2.2 Ae FL FW
 obtain rfl : AM = Gd := (by injection IM)
 replace FL := eq_true FL
 replace FW := eq_true FW
 refine start_ (n := 18) (S := fun w' => w'.cell? ⟨AQ, 0, none⟩ = some (.int .i16 AN) ∧ w'.cell? ⟨AQ, 1, none⟩ = some (.slice (some AM) AF.length AO) ∧ w'.cell? (AM.add (Ae).toNat) = some (.int .i16 (rd AF Ae)) ∧ w'.cell? (AM.add (Ae).toNat) = some (.int .i16 (rd AF Ae))) (ds := []) (bA 18 0) (by kernel_rfl) rfl rfl ⟨(blk_cell AC.out 0).trans rfl, (blk_cell AC.out 1).trans rfl, Cn, Cr⟩ (fun hHeld => ?_); refine with_tabW laws_FnRopes.tab28 laws_FnRopes.bits28 (fun HT_ HW_ => ?_)
 generalize wr.drew = TD at AI AA AB AD AC AE HB Cn Cr hHeld ⊢
 refine pU 0 267 (bA 18 1) HT_ ?_
 refine pU 2 269 (bA 18 5) HT_ ?_
 refine pU 6 273 (bA 18 69) HT_ ?_
 refine pU 8 275 (bA 18 325) HT_ ?_
 refine pU 9 276 (bA 18 837) HT_ ?_
 refine pU 11 278 (bA 18 2885) HT_ ?_
 refine tK 1 268 (bA 18 2887) HT_ HW_ hHeld ?_
 refine pU 3 270 (bA 18 2895) HT_ ?_
 refine tK 4 271 (bA 18 2911) HT_ HW_ hHeld ?_
 refine pU 5 272 (bA 18 2943) HT_ ?_
 refine pU 7 274 (bA 18 3071) HT_ ?_
 refine tK 10 277 (bA 18 4095) HT_ HW_ hHeld ?_
 refine pU 12 279 (bA 18 8191) HT_ ?_
 refine tK 13 280 (bA 18 16383) HT_ HW_ hHeld ?_
 refine pU 14 281 (bA 18 32767) HT_ ?_
 refine pU 15 282 (bA 18 65535) HT_ ?_
 refine pU 16 283 (bA 18 131071) HT_ ?_
 refine pU 17 31 (bA 18 262143) HT_ ?_
 refine done_ (done_of HT_.out (by kernel_rfl)) ?_
 try go_wp2
 refine handM k5 LX ?measure (by kernel_rfl) ?rel
 case measure => have := DO.out; have := Bx.out; have := Du.out; have := BY.out; have := D4.out; omega
 case rel => dsimp only [List.getD_cons_succ, List.getD_cons_zero]; exact ⟨(wrap64 (Ae + 1)), (by first | rfl | (simp; done) | (simp [*]; done)), H', ⟨by have := DO.out; have := Bx.out; have := Du.out; have := BY.out; have := D4.out; omega⟩, ⟨(zR AI.out)⟩, ⟨(zR AA.out)⟩, ⟨(zR AB.out)⟩, ⟨(zK AD.out)⟩, ⟨(zK AC.out)⟩, ⟨(zK AE.out)⟩, ⟨zH2 HB AG AH⟩⟩
 }
 }
 }
 · rw [if_neg HX] at H; exact absurd H (by simp)
 }
 {
 rw [if_neg Ej] at H
 have FZ : decide (Ae < (AF.length : Int)) = false := decide_eq_false Ej
 clear Ej
 replace H := Option.bind_eq_some_iff.mp H
 obtain ⟨⟨Mi, Dz⟩, H7, H⟩ := H
 have Pw := ak H7
 clear H7
 replace H := Option.bind_eq_some_iff.mp H
 obtain ⟨⟨Ax, F3⟩, Hr, H⟩ := H
 have Pc := ak Hr
 clear Hr
 replace H := Option.bind_eq_some_iff.mp H
 obtain ⟨⟨Mr, Dx⟩, H4, H⟩ := H
 have Qf := ak H4
 clear H4
 replace H := Option.bind_eq_some_iff.mp H
 obtain ⟨⟨Jk, GD⟩, Hw, H⟩ := H
 have Qm := ak Hw
 clear Hw
 have G5 := ak H
 clear H
 have N7 := BC.out
 have OF := Aq.out
 have OD := Ap.out
 have PH := BB.out
 have FA : wr.cell? ⟨AQ, 0, none⟩ = some (.int .i16 AN) := (blk_cell AC.out 0).trans rfl
 have Ef : wr.cell? ⟨AQ, 1, none⟩ = some (.slice (some AM) AF.length AO) := (blk_cell AC.out 1).trans rfl
 have Ea := blk_frozen AC.out 0
 have Ed := blk_frozen AC.out 1
 obtain ⟨Bg, Bc, Kk⟩ := Kd.R_slice AI.out
 subst Kk
 go_upto_region 35 with (first | ((with_reducible refine gate_callee (f := 21) rfl ?_); refine goesL_ (some 300) rfl rfl Tryz.func21 (by kernel_rfl) rfl #[.agg #[.int .i16 AN, .slice (some AM) AF.length AO], .slice Bg AP.length Bc] rfl gl_ ?_; (with_reducible refine (impl_CloseUp.calls k5 AN _ _ AF _ _ AP Mi Dz _ ?side1 ?side2 ?side3 ?side4 Pw.out).mono ?_); (case side1 => exact sC AA); (case side2 => exact sL AA); (case side3 => exact sC AI); (case side4 => exact sL AI); rintro e PR ⟨Sd, rfl, Ay, hb⟩; refine ⟨_, rfl, ?_⟩; have Cg := ak (Kd.R_lower (Kd.R_new' Ay (Kd.R_lt (zR AI.out))) (below_size (zH2 HB AG AH))); replace AI := kE AI Ay hb; replace AA := kR AA hb; replace AB := kR AB hb; replace AD := kK AD hb; replace AC := kK AC hb; replace AE := kK AE hb; replace HB := kB2 HB AG AH hb; (try clear hb); (try clear Ay); obtain ⟨El, EV, EU, EY⟩ := cz2 PR AC) | ((with_reducible refine gate_callee (f := 22) rfl ?_); refine goesL_ (some 306) rfl rfl Tryz.func22 (by kernel_rfl) rfl #[.agg #[.int .i16 AN, .slice (some AM) AF.length AO], .slice Bg AP.length Bc] rfl gl_ ?_; (with_reducible refine (spec_CloseUp.calls k5 AN _ _ AF _ _ AP Ax F3 _ ?side1 ?side2 ?side3 ?side4 Pc.out).mono ?_); (case side1 => exact sC AA); (case side2 => exact sL AA); (case side3 => exact sC AI); (case side4 => exact sL AI); rintro e Qh ⟨HY, rfl, Ay, hb⟩; refine ⟨_, rfl, ?_⟩; have CG := ak (Kd.R_lower (Kd.R_new' (Kd.R_new' Ay (Kd.R_lt (zR AI.out))) (Kd.R_lt (zR Cg.out))) (below_size (zH2 HB AG AH))); replace AI := kE AI Ay hb; replace AA := kR AA hb; replace AB := kR AB hb; replace Cg := kE Cg Ay hb; replace AD := kK AD hb; replace AC := kK AC hb; replace AE := kK AE hb; replace HB := kB2 HB AG AH hb; (try clear hb); (try clear Ay); obtain ⟨EF, EK, ES, Eb⟩ := cz2 Qh AC) | ((with_reducible refine gate_callee (f := 23) rfl ?_); refine goesL_ (some 312) rfl rfl Tryz.func23 (by kernel_rfl) rfl #[.agg #[.int .i16 AN, .slice (some AM) AF.length AO], .slice Bg AP.length Bc] rfl gl_ ?_; (with_reducible refine (impl_GapsOf.calls k5 AN _ _ AF _ _ AP Mr Dx _ ?side1 ?side2 ?side3 ?side4 Qf.out).mono ?_); (case side1 => exact sC AA); (case side2 => exact sL AA); (case side3 => exact sC AI); (case side4 => exact sL AI); rintro e Qe ⟨SV, rfl, Ay, hb⟩; refine ⟨_, rfl, ?_⟩; have D8 := ak (Kd.R_lower Ay (below_size (zH2 HB AG AH))); replace AI := kR AI hb; replace AA := kR AA hb; replace AB := kR AB hb; replace Cg := kR Cg hb; replace CG := kR CG hb; replace AD := kK AD hb; replace AC := kK AC hb; replace AE := kK AE hb; replace HB := kB2 HB AG AH hb; (try clear hb); (try clear Ay); obtain ⟨Ev, EP, EX, EM⟩ := cz2 Qe AC) | ((with_reducible refine gate_callee (f := 24) rfl ?_); refine goesL_ (some 318) rfl rfl Tryz.func24 (by kernel_rfl) rfl #[.agg #[.int .i16 AN, .slice (some AM) AF.length AO], .slice Bg AP.length Bc] rfl gl_ ?_; (with_reducible refine (spec_GapsOf.calls k5 AN _ _ AF _ _ AP Jk GD _ ?side1 ?side2 ?side3 ?side4 Qm.out).mono ?_); (case side1 => exact sC AA); (case side2 => exact sL AA); (case side3 => exact sC AI); (case side4 => exact sL AI); rintro e S2 ⟨SW, rfl, Ay, hb⟩; refine ⟨_, rfl, ?_⟩; have Gl := ak (Kd.R_lower (Kd.R_new' Ay (Kd.R_lt (zR D8.out))) (below_size (zH2 HB AG AH))); replace AI := kR AI hb; replace AA := kR AA hb; replace AB := kR AB hb; replace Cg := kR Cg hb; replace CG := kR CG hb; replace D8 := kE D8 Ay hb; replace AD := kK AD hb; replace AC := kK AC hb; replace AE := kK AE hb; replace HB := kB2 HB AG AH hb; (try clear hb); (try clear Ay)))
 (try simp only [Act.put, zs, zz, zk])
 refine wp_cutM 3773962424821541352241554580988268890916921220416440428376206300245624162392148852086126725177658767541468375030763844899770584629924792632561434251432407813273243615232 (fun (u : Nat → Value) wc => ∃ (kq : Nat) (Cm : Bool), u 361 = .bool Cm ∧ Aside0 (laws_FnRopes.j5 kq l0 l1 AP Ax Cm AN AF = some r) ∧ Aside0 (kq ≤ k5) ∧ Aside0 (Kd.R k52 52 wc w.heap.size (fun k_ => some k_ ≠ (HY : Value).ownBlock) (.slice Bg AP.length Bc) AP) ∧ Aside0 (Kd.R k52 52 wc w.heap.size (fun k_ => some k_ ≠ ((.slice Bg AP.length Bc) : Value).ownBlock) HY Ax) ∧ Aside0 (Kd.R (Kd.int .i16) 24 wc w.heap.size (fun k_ => some k_ ≠ ((.slice AX AR.length AZ) : Value).ownBlock) (.slice (some AM) AF.length AO) AF) ∧ Aside0 (Kd.R (Kd.int .i16) 24 wc w.heap.size (fun k_ => some k_ ≠ ((.slice (some AM) AF.length AO) : Value).ownBlock) (.slice AX AR.length AZ) AR) ∧ Aside0 (wc.heap[0]? = some (.cells #[.int .i64 Ag] 3 (0, 0))) ∧ Aside0 (wc.heap[AQ]? = some (.cells #[.int .i16 AN, (.slice (some AM) AF.length AO)] 27 (0, 0))) ∧ Aside0 (wc.heap[Ai]? = some (.cells #[.int .i16 BW, (.slice AX AR.length AZ)] 27 (0, 0))) ∧ Aside0 (Below w.heap.size w wc)) ?first ?rest
 case first => (
 intro J_ K_ QR hK_
 have H := G5.out
 clear G5
 by_cases FC : Dz = F3
 {
 rw [if_pos FC] at H
 have Dj : (Dz == F3) = true := beq_iff_eq.mpr FC
 have I6 : (Dz != F3) = false := bne_eq_false_iff_eq.mpr FC
 clear FC
 (first | rw [Dj] | (simp only [i64_w, i32_w]; rw [Dj]) | skip)
 by_cases FE : Dz = 0
 {
 rw [if_pos FE] at H
 have Ig : (Dz == 0) = true := beq_iff_eq.mpr FE
 have I1 : (Dz != 0) = false := bne_eq_false_iff_eq.mpr FE
 clear FE
 replace H := Option.bind_eq_some_iff.mp H
 obtain ⟨O9, H5, H⟩ := H
 have N2 := ak H5
 clear H5
 by_cases HL : O9 = true
 {
 subst HL
 rw [if_pos rfl] at H
 replace H := Option.bind_eq_some_iff.mp H
 obtain ⟨PQ, H2, H⟩ := H
 have PU := ak H2
 clear H2
 by_cases HF : PQ = true
 {
 subst HF
 rw [if_pos rfl] at H
 by_cases Ds : (Ax.length : Int) = (AP.length : Int)
 {
 rw [if_pos Ds] at H
 have I7 : ((Ax.length : Int) == (AP.length : Int)) = true := beq_iff_eq.mpr Ds
 have JI : ((Ax.length : Int) != (AP.length : Int)) = false := bne_eq_false_iff_eq.mpr Ds
 have I2 : (Ax.length == AP.length) = true := by first | simpa using Ds | (simp at Ds ⊢; omega)
 clear Ds
 by_cases FG : Dx = GD
 {
 rw [if_pos FG] at H
 have JY : (Dx == GD) = true := beq_iff_eq.mpr FG
 have I0 : (Dx != GD) = false := bne_eq_false_iff_eq.mpr FG
 clear FG
 by_cases FD : Dx = 0
 {
 rw [if_pos FD] at H
 have JV : (Dx == 0) = true := beq_iff_eq.mpr FD
 have JJ : (Dx != 0) = false := bne_eq_false_iff_eq.mpr FD
 clear FD
 replace H := Option.bind_eq_some_iff.mp H
 obtain ⟨Me, Hj, H⟩ := H
 have QK := ak Hj
 clear Hj
 have H' := ak H
 clear H
 obtain ⟨Rv, ST, KV⟩ := Kd.R_slice Cg.out
 subst KV
 obtain ⟨Rj, R3, LO⟩ := Kd.R_slice CG.out
 subst LO
 go_wp2_with (first | (go_at_call 25; (with_reducible refine (spec_SameHolds.calls k5 _ _ Mi _ _ Ax true _ ?side1 ?side2 ?side3 ?side4 N2.out).mono ?_); (case side1 => exact sC Cg); (case side2 => exact sL Cg); (case side3 => exact sC CG); (case side4 => exact sL CG); rintro e w' ⟨rfl, ⟨nd, rfl⟩⟩) | (go_at_call 26; (with_reducible refine (impl_SameHolds.calls k5 _ _ Ax _ _ Ax true _ ?side1 ?side2 ?side3 ?side4 PU.out).mono ?_); (case side1 => exact sC CG); (case side2 => exact sL CG); (case side3 => exact sC CG); (case side4 => exact sL CG); rintro e w' ⟨rfl, ⟨nd, rfl⟩⟩; obtain ⟨Ru, RJ, KW⟩ := Kd.R_slice D8.out; subst KW; obtain ⟨SN, Rz, K9⟩ := Kd.R_slice Gl.out; subst K9) | (go_at_call 14; (with_reducible refine (spec_SameNumbers.calls k5 _ _ Mr _ _ Jk Me _ ?side1 ?side2 ?side3 ?side4 QK.out).mono ?_); (case side1 => exact sC D8); (case side2 => exact sL D8); (case side3 => exact sC Gl); (case side4 => exact sL Gl); rintro e w' ⟨rfl, ⟨nd, rfl⟩⟩))
 refine meetM QR (by kernel_rfl) ?rel
 case rel => dsimp only [List.getD_cons_succ, List.getD_cons_zero]; exact ⟨_, (!Me), (by first | rfl | (simp; done) | (simp [*]; done)), H', ⟨by have := DO.out; have := Bx.out; have := Du.out; have := BY.out; have := D4.out; first | omega | exact Nat.le_refl _⟩, ⟨by (with_reducible repeat (first | apply Kd.R_alloc | apply Kd.R_drewN | apply Kd.R_drew)); exact Kd.R_mono AI.out (fun _ hk => hk.2)⟩, ⟨by (with_reducible repeat (first | apply Kd.R_alloc | apply Kd.R_drewN | apply Kd.R_drew)); exact Kd.R_mono CG.out (fun _ hk => hk.1.2)⟩, ⟨(zR AA.out)⟩, ⟨(zR AB.out)⟩, ⟨(zK AD.out)⟩, ⟨(zK AC.out)⟩, ⟨(zK AE.out)⟩, ⟨zH2 HB AG AH⟩⟩
 }
 {
 rw [if_neg FD] at H
 have JV : (Dx == 0) = false := beq_eq_false_iff_ne.mpr FD
 have JJ : (Dx != 0) = true := bne_iff_ne.mpr FD
 exact (laws_FnRopes.n5 H HT).elim
 }
 }
 {
 rw [if_neg FG] at H
 have JY : (Dx == GD) = false := beq_eq_false_iff_ne.mpr FG
 have I0 : (Dx != GD) = true := bne_iff_ne.mpr FG
 exact (laws_FnRopes.n5 H HT).elim
 }
 }
 {
 rw [if_neg Ds] at H
 have I7 : ((Ax.length : Int) == (AP.length : Int)) = false := beq_eq_false_iff_ne.mpr Ds
 have JI : ((Ax.length : Int) != (AP.length : Int)) = true := bne_iff_ne.mpr Ds
 have I2 : (Ax.length == AP.length) = false := by first | simpa using Ds | (simp at Ds ⊢; omega)
 exact (laws_FnRopes.n5 H HT).elim
 }
 }
 {
 replace HF := Bool.eq_false_iff.mpr HF
 subst HF
 rw [if_neg (show ¬ (false = true) by decide)] at H
 exact (laws_FnRopes.n5 H HT).elim
 }
 }
 {
 replace HL := Bool.eq_false_iff.mpr HL
 subst HL
 rw [if_neg (show ¬ (false = true) by decide)] at H
 exact (laws_FnRopes.n5 H HT).elim
 }
 }
 {
 rw [if_neg FE] at H
 have Ig : (Dz == 0) = false := beq_eq_false_iff_ne.mpr FE
 have I1 : (Dz != 0) = true := bne_iff_ne.mpr FE
 exact (laws_FnRopes.n5 H HT).elim
 }
 }
 {
 rw [if_neg FC] at H
 have Dj : (Dz == F3) = false := beq_eq_false_iff_ne.mpr FC
 have I6 : (Dz != F3) = true := bne_iff_ne.mpr FC
 (first | rw [Dj] | (simp only [i64_w, i32_w]; rw [Dj]) | skip)
 exact (laws_FnRopes.n5 H HT).elim
 }
 )
 case rest => (
 as_aux_lemma =>
 intro Tm wc hcut
 dsimp only [frU, cond, Nat.reduceMod, Nat.reduceDiv, Nat.reduceAdd, Nat.reduceBEq, Nat.reduceEqDiff, beq_self_eq_true]
 clear G5
 try clear Ej
 try clear FZ
 try clear FA
 try clear Ef
 try clear El
 try clear EV
 try clear EF
 try clear EK
 try clear Ev
 try clear EP
 try clear Ea
 try clear Ed
 try clear EU
 try clear EY
 try clear ES
 try clear Eb
 try clear EX
 try clear EM
 obtain ⟨kq, Cm, Fm, HA, Bw, AI, Ad, AA, AB, AD, AC, AE, HB⟩ := hcut
 rw [Fm]
 clear Fm
 cases kq with
 | zero => exact absurd HA.out (by simp [laws_FnRopes.j5])
 | succ Hz => (
 have H := HA.out
 clear HA
 simp only [laws_FnRopes.j5] at H
 by_cases Gz : Cm = true
 {
 subst Gz
 rw [if_pos rfl] at H
 exact absurd ((Option.some.inj H).trans HT.out) (by decide)
 }
 {
 replace Gz := Bool.eq_false_iff.mpr Gz
 subst Gz
 rw [if_neg (show ¬ (false = true) by decide)] at H
 have H' := ak H
 clear H
 go_wp2
 refine wp_loopM 1260864188890453003697596371646673254605203547152164097741065906106699210559074639106822746301521306966738383073706000 Hz (fun kq (u : Nat → Value) w' => ∃ (AS : Int), u 40 = .int .i64 AS ∧ Aside0 (laws_FnRopes.l2 kq l0 l1 AP Ax AS AN AF = some r) ∧ Aside0 (kq ≤ Hz) ∧ Aside0 (Kd.R k52 52 w' w.heap.size (fun k_ => some k_ ≠ (HY : Value).ownBlock) (.slice Bg AP.length Bc) AP) ∧ Aside0 (Kd.R k52 52 w' w.heap.size (fun k_ => some k_ ≠ ((.slice Bg AP.length Bc) : Value).ownBlock) HY Ax) ∧ Aside0 (Kd.R (Kd.int .i16) 24 w' w.heap.size (fun k_ => some k_ ≠ ((.slice AX AR.length AZ) : Value).ownBlock) (.slice (some AM) AF.length AO) AF) ∧ Aside0 (Kd.R (Kd.int .i16) 24 w' w.heap.size (fun k_ => some k_ ≠ ((.slice (some AM) AF.length AO) : Value).ownBlock) (.slice AX AR.length AZ) AR) ∧ Aside0 (w'.heap[0]? = some (.cells #[.int .i64 Ag] 3 (0, 0))) ∧ Aside0 (w'.heap[AQ]? = some (.cells #[.int .i16 AN, (.slice (some AM) AF.length AO)] 27 (0, 0))) ∧ Aside0 (w'.heap[Ai]? = some (.cells #[.int .i16 BW, (.slice AX AR.length AZ)] 27 (0, 0))) ∧ Aside0 (Below w.heap.size w w')) ?atStart ?round
 case atStart => dsimp only [List.getD_cons_succ, List.getD_cons_zero]; exact ⟨(0), (by first | rfl | (simp; done) | (simp [*]; done)), H', ⟨Nat.le_refl _⟩, ⟨(zR AI.out)⟩, ⟨(zR Ad.out)⟩, ⟨(zR AA.out)⟩, ⟨(zR AB.out)⟩, ⟨(zK AD.out)⟩, ⟨(zK AC.out)⟩, ⟨(zK AE.out)⟩, ⟨zH2 HB AG AH⟩⟩
 case round => (
 intro gk Tl wr hrel J_ K_ PW hK_
 dsimp only [frU, cond, Nat.reduceMod, Nat.reduceDiv, Nat.reduceAdd, Nat.reduceBEq, Nat.reduceEqDiff, beq_self_eq_true]
 clear H'
 try clear Ej
 try clear FZ
 try clear Gz
 try clear FA
 try clear Ef
 try clear El
 try clear EV
 try clear EF
 try clear EK
 try clear Ev
 try clear EP
 try clear Ea
 try clear Ed
 try clear EU
 try clear EY
 try clear ES
 try clear Eb
 try clear EX
 try clear EM
 obtain ⟨AS, Gc, HA, FK, AI, Ad, AA, AB, AD, AC, AE, HB⟩ := hrel
 rw [Gc]
 clear Gc
 cases gk with
 | zero => exact absurd HA.out (by simp [laws_FnRopes.l2])
 | succ k7 => (
 have H := HA.out
 clear HA
 simp only [laws_FnRopes.l2] at H
 by_cases GB : AS < (Ax.length : Int)
 {
 rw [if_pos GB] at H
 have Im : decide (AS < (Ax.length : Int)) = true := decide_eq_true GB
 clear GB
 by_cases HE : 0 ≤ AS
 {
 rw [if_pos HE] at H
 have Q1 : decide (0 ≤ AS) = true := decide_eq_true HE
 clear HE
 by_cases FU : ((rd_T52 Ax AS).f1) = (IntKind.i8.wrap (AS))
 {
 rw [if_pos FU] at H
 have IG : (((rd_T52 Ax AS).f1) == (IntKind.i8.wrap (AS))) = true := beq_iff_eq.mpr FU
 have IT : (((rd_T52 Ax AS).f1) != (IntKind.i8.wrap (AS))) = false := bne_eq_false_iff_eq.mpr FU
 clear FU
 by_cases HD : AS < (AP.length : Int)
 {
 rw [if_pos HD] at H
 have Ol : decide (AS < (AP.length : Int)) = true := decide_eq_true HD
 clear HD
 by_cases FY : ((rd_T52 Ax AS).f0) = ((rd_T52 AP AS).f0)
 {
 rw [if_pos FY] at H
 have Iz : (((rd_T52 Ax AS).f0) == ((rd_T52 AP AS).f0)) = true := beq_iff_eq.mpr FY
 have JX : (((rd_T52 Ax AS).f0) != ((rd_T52 AP AS).f0)) = false := bne_eq_false_iff_eq.mpr FY
 clear FY
 have H' := ak H
 clear H
 obtain ⟨Rp, SD, MJ⟩ := Kd.R_slice Ad.out
 subst MJ
 try go_wp2
 replace AI := ak (Kd.R_drew AI.out)
 replace Ad := ak (Kd.R_drew Ad.out)
 replace AA := ak (Kd.R_drew AA.out)
 replace AB := ak (Kd.R_drew AB.out)
 replace AD := ak (blk_drew AD.out)
 replace AC := ak (blk_drew AC.out)
 replace AE := ak (blk_drew AE.out)
 replace HB := ak (below_drew1 HB.out)
 have JM : 0 ≤ (AS : Int) := of_decide_eq_true (by first | (with_reducible assumption) | assumption)
 have Ip : AS < (Ax.length : Int) := of_decide_eq_true (by first | (with_reducible assumption) | assumption)
 obtain ⟨Dk, O1, Fp, F0⟩ := at_T52 (Kd.R_reads' Ad.out).2.2 AS JM Ip
 cases O1
 replace JM := eq_true JM
 replace Ip := eq_true Ip
 have Ij : 0 ≤ (AS : Int) := of_decide_eq_true (by first | (with_reducible assumption) | assumption)
 have JC : AS < (Ax.length : Int) := of_decide_eq_true (by first | (with_reducible assumption) | assumption)
 obtain ⟨Li, Q3, Fw, Fz⟩ := at_T52 (Kd.R_reads' Ad.out).2.2 AS Ij JC
 obtain rfl : Dk = Li := (by injection Q3)
 replace Ij := eq_true Ij
 replace JC := eq_true JC
 have In : 0 ≤ (AS : Int) := of_decide_eq_true (by first | (with_reducible assumption) | assumption)
 have JE : AS < (AP.length : Int) := of_decide_eq_true (by first | (with_reducible assumption) | assumption)
 obtain ⟨Gt, Nn, Fo, Fx⟩ := at_T52 (Kd.R_reads' AI.out).2.2 AS In JE
 cases Nn
 replace In := eq_true In
 replace JE := eq_true JE
 refine start_ (n := 21) (S := fun w' => w'.cell? (Dk.add ((AS).toNat * 2)) = some (.int .i16 ((rd_T52 Ax AS).f0)) ∧ w'.cell? ⟨(Dk.add ((AS).toNat * 2)).block, (Dk.add ((AS).toNat * 2)).off + 1, none⟩ = some (.int .i8 ((rd_T52 Ax AS).f1)) ∧ w'.cell? (Dk.add ((AS).toNat * 2)) = some (.int .i16 ((rd_T52 Ax AS).f0)) ∧ w'.cell? ⟨(Dk.add ((AS).toNat * 2)).block, (Dk.add ((AS).toNat * 2)).off + 1, none⟩ = some (.int .i8 ((rd_T52 Ax AS).f1)) ∧ w'.cell? (Gt.add ((AS).toNat * 2)) = some (.int .i16 ((rd_T52 AP AS).f0)) ∧ w'.cell? ⟨(Gt.add ((AS).toNat * 2)).block, (Gt.add ((AS).toNat * 2)).off + 1, none⟩ = some (.int .i8 ((rd_T52 AP AS).f1))) (ds := []) (bA 21 0) (by kernel_rfl) rfl rfl ⟨Fp, F0, Fw, Fz, Fo, Fx⟩ (fun hHeld => ?_); refine with_tabW laws_FnRopes.tab40 laws_FnRopes.bits40 (fun HT_ HW_ => ?_)
 generalize wr.drew = Sj at AI Ad AA AB AD AC AE HB Fp F0 Fw Fz Fo Fx hHeld ⊢
 refine pU 0 368 (bA 21 1) HT_ ?_
 refine pU 1 369 (bA 21 3) HT_ ?_
 refine pU 2 370 (bA 21 7) HT_ ?_
 refine pU 3 371 (bA 21 15) HT_ ?_
 refine pU 5 373 (bA 21 47) HT_ ?_
 refine pU 6 374 (bA 21 111) HT_ ?_
 refine tK 4 372 (bA 21 127) HT_ HW_ hHeld ?_
 refine pU 7 375 (bA 21 255) HT_ ?_
 refine pU 8 376 (bA 21 511) HT_ ?_
 refine pU 9 377 (bA 21 1023) HT_ ?_
 refine pU 10 378 (bA 21 2047) HT_ ?_
 refine pU 11 379 (bA 21 4095) HT_ ?_
 refine pU 12 380 (bA 21 8191) HT_ ?_
 refine pU 14 382 (bA 21 24575) HT_ ?_
 refine pU 15 383 (bA 21 57343) HT_ ?_
 refine pU 16 384 (bA 21 122879) HT_ ?_
 refine pU 17 385 (bA 21 253951) HT_ ?_
 refine tK 13 381 (bA 21 262143) HT_ HW_ hHeld ?_
 refine tK 18 386 (bA 21 524287) HT_ HW_ hHeld ?_
 refine pU 19 387 (bA 21 1048575) HT_ ?_
 refine pU 20 388 (bA 21 2097151) HT_ ?_
 refine done_ (done_of HT_.out (by kernel_rfl)) ?_
 try go_wp2
 refine handM k7 PW ?measure (by kernel_rfl) ?rel
 case measure => have := DO.out; have := Bx.out; have := Du.out; have := BY.out; have := D4.out; have := Bw.out; have := FK.out; omega
 case rel => dsimp only [List.getD_cons_succ, List.getD_cons_zero]; exact ⟨(wrap64 (AS + 1)), (by first | rfl | (simp; done) | (simp [*]; done)), H', ⟨by have := DO.out; have := Bx.out; have := Du.out; have := BY.out; have := D4.out; have := Bw.out; have := FK.out; omega⟩, ⟨(zR AI.out)⟩, ⟨(zR Ad.out)⟩, ⟨(zR AA.out)⟩, ⟨(zR AB.out)⟩, ⟨(zK AD.out)⟩, ⟨(zK AC.out)⟩, ⟨(zK AE.out)⟩, ⟨zH2 HB AG AH⟩⟩
 }
 · rw [if_neg FY] at H; have Iz : (((rd_T52 Ax AS).f0) == ((rd_T52 AP AS).f0)) = false := beq_eq_false_iff_ne.mpr FY; have JX : (((rd_T52 Ax AS).f0) != ((rd_T52 AP AS).f0)) = true := bne_iff_ne.mpr FY; exact absurd ((Option.some.inj H).trans HT.out) (by decide)
 }
 · rw [if_neg HD] at H; exact absurd H (by simp)
 }
 · rw [if_neg FU] at H; have IG : (((rd_T52 Ax AS).f1) == (IntKind.i8.wrap (AS))) = false := beq_eq_false_iff_ne.mpr FU; have IT : (((rd_T52 Ax AS).f1) != (IntKind.i8.wrap (AS))) = true := bne_iff_ne.mpr FU; exact absurd ((Option.some.inj H).trans HT.out) (by decide)
 }
 · rw [if_neg HE] at H; exact absurd H (by simp)
 }
 {
 rw [if_neg GB] at H
 have Im : decide (AS < (Ax.length : Int)) = false := decide_eq_false GB
 clear GB
 replace H := Option.bind_eq_some_iff.mp H
 obtain ⟨Av, Hf, H⟩ := H
 have MR := ak Hf
 clear Hf
 replace H := Option.bind_eq_some_iff.mp H
 obtain ⟨Aw, Hd, H⟩ := H
 have JA := ak Hd
 clear Hd
 replace H := Option.bind_eq_some_iff.mp H
 obtain ⟨⟨L7, CZ⟩, Hc, H⟩ := H
 have Nl := ak Hc
 clear Hc
 replace H := Option.bind_eq_some_iff.mp H
 obtain ⟨⟨Al, GC⟩, H3, H⟩ := H
 have P5 := ak H3
 clear H3
 have Ge := ak H
 clear H
 obtain ⟨EN, EH, Ky⟩ := Kd.R_slice Ad.out
 subst Ky
 try go_wp2
 replace AI := ak (Kd.R_drew AI.out)
 replace Ad := ak (Kd.R_drew Ad.out)
 replace AA := ak (Kd.R_drew AA.out)
 replace AB := ak (Kd.R_drew AB.out)
 replace AD := ak (blk_drew AD.out)
 replace AC := ak (blk_drew AC.out)
 replace AE := ak (blk_drew AE.out)
 replace HB := ak (below_drew1 HB.out)
 refine start_ (n := 12) (S := fun w' => w'.cell? ⟨AQ, 0, none⟩ = some (.int .i16 AN) ∧ w'.cell? ⟨AQ, 1, none⟩ = some (.slice (some AM) AF.length AO)) (ds := []) (bA 12 0) (by kernel_rfl) rfl rfl ⟨(blk_cell AC.out 0).trans rfl, (blk_cell AC.out 1).trans rfl⟩ (fun hHeld => ?_); refine with_tabW laws_FnRopes.tab42 laws_FnRopes.bits42 (fun HT_ HW_ => ?_)
 generalize wr.drew = S4 at AI Ad AA AB AD AC AE HB hHeld ⊢
 refine pU 0 389 (bA 12 1) HT_ ?_
 refine pU 3 392 (bA 12 9) HT_ ?_
 refine pU 4 393 (bA 12 25) HT_ ?_
 refine tK 5 394 (bA 12 57) HT_ HW_ hHeld ?_
 refine pU 6 395 (bA 12 121) HT_ ?_
 refine join_ (σ := Nat) 1 #[true, true, true, true, true, true, true, true, true, true, true, false] (fun s_ => [(390, .int .i64 Av), (396, .int .i64 Aw), (41, .pointer (some ⟨s_, 0, none⟩)), (391, .int .i16 (IntKind.i16.wrap (Av))), (397, .int .i8 (IntKind.i8.wrap (Aw))), (398, .agg #[.int .i16 (IntKind.i16.wrap (Av)), .int .i8 (IntKind.i8.wrap (Aw))])]) (fun s_ w' => (w'.cell? ⟨AQ, 0, none⟩ = some (.int .i16 AN) ∧ w'.cell? ⟨AQ, 1, none⟩ = some (.slice (some AM) AF.length AO)) ∧ (Kd.R k52 52 w' w.heap.size (fun k_ => some k_ ≠ (.slice Bg AP.length Bc : Value).ownBlock ∧ k_ ≠ s_) (.slice EN Ax.length EH) Ax) ∧ (Kd.R (Kd.int .i16) 24 w' w.heap.size (fun k_ => some k_ ≠ (.slice AX AR.length AZ : Value).ownBlock) (.slice (some AM) AF.length AO) AF) ∧ (Kd.R (Kd.int .i16) 24 w' w.heap.size (fun k_ => some k_ ≠ (.slice (some AM) AF.length AO : Value).ownBlock) (.slice AX AR.length AZ) AR) ∧ (Kd.R k52 52 w' w.heap.size (fun k_ => some k_ ≠ (.slice EN Ax.length EH : Value).ownBlock ∧ k_ ≠ s_) (.slice Bg AP.length Bc) AP) ∧ (w'.heap[AQ]? = some (.cells #[.int .i16 AN, .slice (some AM) AF.length AO] 27 (0, 0))) ∧ (w'.heap[Ai]? = some (.cells #[.int .i16 BW, .slice AX AR.length AZ] 27 (0, 0))) ∧ (w'.heap[s_]? = some (.cells #[.int .i16 0, .int .i8 0] 52 (0, 0))) ∧ (w'.heap[0]? = some (.cells #[.int .i64 Ag] 3 (0, 0))) ∧ (w.heap.size ≤ s_) ∧ (w.heap.size ≤ s_) ∧ (AQ ≠ s_) ∧ (s_ ≠ AQ) ∧ (Ai ≠ s_) ∧ (s_ ≠ Ai) ∧ (0 ≠ s_) ∧ (s_ ≠ 0) ∧ (Below w.heap.size w w')) ?_ ?_
 rotate_left
 {
 intro hCont
 refine two_ (i := 1) (j := 10) (Ni := some 390) (Nj := some 41) #[true, true, false, true, true, true, true, false, false, false, false, false] #[true, false, false, true, true, true, true, false, false, false, true, false] rfl rfl rfl rfl (two_of HT_.out (by kernel_rfl)) (by decide) (by decide) (fun K hK => ?_) (fun K hK => ?_)
 {
 skip
 refine goes_ Tryz.func18 (by kernel_rfl) rfl #[.slice A0 l0.length c0, .int .i64 1000] (by rfl) rfl rfl gl_ ?_
 with_reducible refine (spec_P6Pick.calls _ _ l0 1000 Av _ ?side1 ?side2 MR.out).mono ?_
 (case side1 => exact sQ (Kd.C_below Mf.out HB.out))
 (case side2 => exact Mt.out)
 rintro e OC ⟨rfl, hb⟩
 refine ⟨_, rfl, ?_⟩
 replace AI := kR AI hb
 replace Ad := kR Ad hb
 replace AA := kR AA hb
 replace AB := kR AB hb
 replace AD := kK AD hb
 replace AC := kK AC hb
 replace AE := kK AE hb
 replace HB := kB2 HB AG AH hb
 (try clear hb)
 refine hK.out _ _ ⟨(blk_cell AC.out 0).trans rfl, (blk_cell AC.out 1).trans rfl⟩ (fun hHeld => ?_)
 clear hK K
 refine norm_ (a' := ?_) ?_ ?_
 rotate_left
 {
 show Act.put _ (some 390) _ = _
 simp only [Act.put, zs, zz, zk, i64_w, i32_w]
 rfl
 }
 refine pU 2 391 (bA 12 127) HT_ ?_
 refine two_ (i := 7) (j := 10) (Ni := some 396) (Nj := some 41) #[true, true, true, true, true, true, true, true, false, false, false, false] #[true, true, true, true, true, true, true, false, false, false, true, false] rfl rfl rfl rfl (two_of HT_.out (by kernel_rfl)) (by decide) (by decide) (fun K hK => ?_) (fun K hK => ?_)
 {
 skip
 refine goes_ Tryz.func18 (by kernel_rfl) rfl #[.slice A1 l1.length c1, .int .i64 (AF.length : Int)] (by rfl) rfl rfl gl_ ?_
 with_reducible refine (spec_P6Pick.calls _ _ l1 (AF.length : Int) Aw _ ?side1 ?side2 JA.out).mono ?_
 (case side1 => exact sQ (Kd.C_below JW.out HB.out))
 (case side2 => exact JS.out)
 rintro e Mg ⟨rfl, hb⟩
 refine ⟨_, rfl, ?_⟩
 replace AI := kR AI hb
 replace Ad := kR Ad hb
 replace AA := kR AA hb
 replace AB := kR AB hb
 replace AD := kK AD hb
 replace AC := kK AC hb
 replace AE := kK AE hb
 replace HB := kB2 HB AG AH hb
 (try clear hb)
 refine hK.out _ _ ⟨(blk_cell AC.out 0).trans rfl, (blk_cell AC.out 1).trans rfl⟩ (fun hHeld => ?_)
 clear hK K
 refine norm_ (a' := ?_) ?_ ?_
 rotate_left
 {
 show Act.put _ (some 396) _ = _
 simp only [Act.put, zs, zz, zk, i64_w, i32_w]
 rfl
 }
 refine pU 8 397 (bA 12 511) HT_ ?_
 refine pU 9 398 (bA 12 1023) HT_ ?_
 refine one_ (i := 10) (N := some 41) (bA 12 2047) rfl rfl (one_of HT_.out (by kernel_rfl)) (by decide) (fun K hK => ?_)
 refine box_step ?hg (N := 41) ?hd (cs := #[.int .i16 0, .int .i8 0]) (t := 52) ?hr ?_; (case hd => rfl); (case hg => rfl); (case hr => first | (go_simp; done) | (go_simp; rfl))
 intro AK hg Mc hbox hb
 have AJ := ak (hbox)
 have D2 := ak ((by rw [hg]; exact (below_size (zH2 HB AG AH)) : w.heap.size ≤ AK))
 have AT := ak ((by rw [hg]; exact (below_size (zH2 HB AG AH)) : w.heap.size ≤ AK))
 have A2 := nL AD hg
 have BK := nG AD hg
 have Ab := nL AC hg
 have Az := nG AC hg
 have A3 := nL AE hg
 have BO := nG AE hg
 replace AI := ak (Kd.R_below (Kd.R_elderB (zR AI.out) AK (Nat.le_of_eq hg.symm)) hb)
 replace Ad := ak (Kd.R_below (Kd.R_elderB (zR Ad.out) AK (Nat.le_of_eq hg.symm)) hb)
 replace AA := kR AA hb
 replace AB := kR AB hb
 replace AD := kK AD hb
 replace AC := kK AC hb
 replace AE := kK AE hb
 replace HB := kB2 HB AG AH hb
 refine hK.out _ _ ⟨(blk_cell AC.out 0).trans rfl, (blk_cell AC.out 1).trans rfl⟩ (fun hHeld => ?_)
 clear hK K
 refine norm_ (a' := ?_) ?_ ?_
 rotate_left
 {
 show Act.put _ (some 41) _ = _
 simp only [Act.put, zs, zz, zk, i64_w, i32_w]
 rfl
 }
 exact norm_ (by simp only [putAll, Act.put, zs, zz, zk]) (hCont (AK) _ ⟨hHeld, (zR Ad.out), (zR AA.out), (zR AB.out), (zR AI.out), (zK AC.out), (zK AE.out), (zK AJ.out), (zK AD.out), D2.out, AT.out, Ab.out, Az.out, A3.out, BO.out, A2.out, BK.out, (zH3 HB AG AH AT)⟩)
 }
 {
 skip
 refine box_step ?hg (N := 41) ?hd (cs := #[.int .i16 0, .int .i8 0]) (t := 52) ?hr ?_; (case hd => rfl); (case hg => rfl); (case hr => first | (go_simp; done) | (go_simp; rfl))
 intro AK hg Mg hbox hb
 have AJ := ak (hbox)
 have D2 := ak ((by rw [hg]; exact (below_size (zH2 HB AG AH)) : w.heap.size ≤ AK))
 have AT := ak ((by rw [hg]; exact (below_size (zH2 HB AG AH)) : w.heap.size ≤ AK))
 have A2 := nL AD hg
 have BK := nG AD hg
 have Ab := nL AC hg
 have Az := nG AC hg
 have A3 := nL AE hg
 have BO := nG AE hg
 replace AI := ak (Kd.R_below (Kd.R_elderB (zR AI.out) AK (Nat.le_of_eq hg.symm)) hb)
 replace Ad := ak (Kd.R_below (Kd.R_elderB (zR Ad.out) AK (Nat.le_of_eq hg.symm)) hb)
 replace AA := kR AA hb
 replace AB := kR AB hb
 replace AD := kK AD hb
 replace AC := kK AC hb
 replace AE := kK AE hb
 replace HB := kB2 HB AG AH hb
 refine hK.out _ _ ⟨(blk_cell AC.out 0).trans rfl, (blk_cell AC.out 1).trans rfl⟩ (fun hHeld => ?_)
 clear hK K
 refine norm_ (a' := ?_) ?_ ?_
 rotate_left
 {
 show Act.put _ (some 41) _ = _
 simp only [Act.put, zs, zz, zk, i64_w, i32_w]
 rfl
 }
 refine one_ (i := 7) (N := some 396) (bA 12 1279) rfl rfl (one_of HT_.out (by kernel_rfl)) (by decide) (fun K hK => ?_)
 refine goes_ Tryz.func18 (by kernel_rfl) rfl #[.slice A1 l1.length c1, .int .i64 (AF.length : Int)] (by rfl) rfl rfl gl_ ?_
 with_reducible refine (spec_P6Pick.calls _ _ l1 (AF.length : Int) Aw _ ?side1 ?side2 JA.out).mono ?_
 (case side1 => exact sQ (Kd.C_below JW.out HB.out))
 (case side2 => exact JS.out)
 rintro e Mc ⟨rfl, hb⟩
 refine ⟨_, rfl, ?_⟩
 replace AI := kR AI hb
 replace Ad := kR Ad hb
 replace AA := kR AA hb
 replace AB := kR AB hb
 replace AD := kK AD hb
 replace AC := kK AC hb
 replace AE := kK AE hb
 replace AJ := kK AJ hb
 replace HB := kB3 HB AG AH AT hb
 (try clear hb)
 refine hK.out _ _ ⟨(blk_cell AC.out 0).trans rfl, (blk_cell AC.out 1).trans rfl⟩ (fun hHeld => ?_)
 clear hK K
 refine norm_ (a' := ?_) ?_ ?_
 rotate_left
 {
 show Act.put _ (some 396) _ = _
 simp only [Act.put, zs, zz, zk, i64_w, i32_w]
 rfl
 }
 refine pU 8 397 (bA 12 1535) HT_ ?_
 refine pU 9 398 (bA 12 2047) HT_ ?_
 exact norm_ (by simp only [putAll, Act.put, zs, zz, zk]) (hCont (AK) _ ⟨hHeld, (zR Ad.out), (zR AA.out), (zR AB.out), (zR AI.out), (zK AC.out), (zK AE.out), (zK AJ.out), (zK AD.out), D2.out, AT.out, Ab.out, Az.out, A3.out, BO.out, A2.out, BK.out, (zH3 HB AG AH AT)⟩)
 }
 }
 {
 skip
 refine box_step ?hg (N := 41) ?hd (cs := #[.int .i16 0, .int .i8 0]) (t := 52) ?hr ?_; (case hd => rfl); (case hg => rfl); (case hr => first | (go_simp; done) | (go_simp; rfl))
 intro AK hg OC hbox hb
 have AJ := ak (hbox)
 have D2 := ak ((by rw [hg]; exact (below_size (zH2 HB AG AH)) : w.heap.size ≤ AK))
 have AT := ak ((by rw [hg]; exact (below_size (zH2 HB AG AH)) : w.heap.size ≤ AK))
 have A2 := nL AD hg
 have BK := nG AD hg
 have Ab := nL AC hg
 have Az := nG AC hg
 have A3 := nL AE hg
 have BO := nG AE hg
 replace AI := ak (Kd.R_below (Kd.R_elderB (zR AI.out) AK (Nat.le_of_eq hg.symm)) hb)
 replace Ad := ak (Kd.R_below (Kd.R_elderB (zR Ad.out) AK (Nat.le_of_eq hg.symm)) hb)
 replace AA := kR AA hb
 replace AB := kR AB hb
 replace AD := kK AD hb
 replace AC := kK AC hb
 replace AE := kK AE hb
 replace HB := kB2 HB AG AH hb
 refine hK.out _ _ ⟨(blk_cell AC.out 0).trans rfl, (blk_cell AC.out 1).trans rfl⟩ (fun hHeld => ?_)
 clear hK K
 refine norm_ (a' := ?_) ?_ ?_
 rotate_left
 {
 show Act.put _ (some 41) _ = _
 simp only [Act.put, zs, zz, zk, i64_w, i32_w]
 rfl
 }
 refine one_ (i := 1) (N := some 390) (bA 12 1147) rfl rfl (one_of HT_.out (by kernel_rfl)) (by decide) (fun K hK => ?_)
 refine goes_ Tryz.func18 (by kernel_rfl) rfl #[.slice A0 l0.length c0, .int .i64 1000] (by rfl) rfl rfl gl_ ?_
 with_reducible refine (spec_P6Pick.calls _ _ l0 1000 Av _ ?side1 ?side2 MR.out).mono ?_
 (case side1 => exact sQ (Kd.C_below Mf.out HB.out))
 (case side2 => exact Mt.out)
 rintro e Mg ⟨rfl, hb⟩
 refine ⟨_, rfl, ?_⟩
 replace AI := kR AI hb
 replace Ad := kR Ad hb
 replace AA := kR AA hb
 replace AB := kR AB hb
 replace AD := kK AD hb
 replace AC := kK AC hb
 replace AE := kK AE hb
 replace AJ := kK AJ hb
 replace HB := kB3 HB AG AH AT hb
 (try clear hb)
 refine hK.out _ _ ⟨(blk_cell AC.out 0).trans rfl, (blk_cell AC.out 1).trans rfl⟩ (fun hHeld => ?_)
 clear hK K
 refine norm_ (a' := ?_) ?_ ?_
 rotate_left
 {
 show Act.put _ (some 390) _ = _
 simp only [Act.put, zs, zz, zk, i64_w, i32_w]
 rfl
 }
 refine pU 2 391 (bA 12 1151) HT_ ?_
 refine one_ (i := 7) (N := some 396) (bA 12 1279) rfl rfl (one_of HT_.out (by kernel_rfl)) (by decide) (fun K hK => ?_)
 refine goes_ Tryz.func18 (by kernel_rfl) rfl #[.slice A1 l1.length c1, .int .i64 (AF.length : Int)] (by rfl) rfl rfl gl_ ?_
 with_reducible refine (spec_P6Pick.calls _ _ l1 (AF.length : Int) Aw _ ?side1 ?side2 JA.out).mono ?_
 (case side1 => exact sQ (Kd.C_below JW.out HB.out))
 (case side2 => exact JS.out)
 rintro e Mc ⟨rfl, hb⟩
 refine ⟨_, rfl, ?_⟩
 replace AI := kR AI hb
 replace Ad := kR Ad hb
 replace AA := kR AA hb
 replace AB := kR AB hb
 replace AD := kK AD hb
 replace AC := kK AC hb
 replace AE := kK AE hb
 replace AJ := kK AJ hb
 replace HB := kB3 HB AG AH AT hb
 (try clear hb)
 refine hK.out _ _ ⟨(blk_cell AC.out 0).trans rfl, (blk_cell AC.out 1).trans rfl⟩ (fun hHeld => ?_)
 clear hK K
 refine norm_ (a' := ?_) ?_ ?_
 rotate_left
 {
 show Act.put _ (some 396) _ = _
 simp only [Act.put, zs, zz, zk, i64_w, i32_w]
 rfl
 }
 refine pU 8 397 (bA 12 1535) HT_ ?_
 refine pU 9 398 (bA 12 2047) HT_ ?_
 exact norm_ (by simp only [putAll, Act.put, zs, zz, zk]) (hCont (AK) _ ⟨hHeld, (zR Ad.out), (zR AA.out), (zR AB.out), (zR AI.out), (zK AC.out), (zK AE.out), (zK AJ.out), (zK AD.out), D2.out, AT.out, Ab.out, Az.out, A3.out, BO.out, A2.out, BK.out, (zH3 HB AG AH AT)⟩)
 }
 }
 rintro AK Cb ⟨hS_, R0, RE, R2, RT, R1, RZ, SL, RD, Ro, Rx, Lf, LN, KT, Jz, KN, Mb, Jo⟩
 have RN : Aside0 (Kd.R k52 52 Cb w.heap.size (fun k_ => some k_ ≠ (.slice Bg AP.length Bc : Value).ownBlock ∧ k_ ≠ AK) (.slice EN Ax.length EH) Ax) := ⟨R0⟩
 have Rd : Aside0 (Kd.R (Kd.int .i16) 24 Cb w.heap.size (fun k_ => some k_ ≠ (.slice AX AR.length AZ : Value).ownBlock) (.slice (some AM) AF.length AO) AF) := ⟨RE⟩
 have SU : Aside0 (Kd.R (Kd.int .i16) 24 Cb w.heap.size (fun k_ => some k_ ≠ (.slice (some AM) AF.length AO : Value).ownBlock) (.slice AX AR.length AZ) AR) := ⟨R2⟩
 have Rw : Aside0 (Kd.R k52 52 Cb w.heap.size (fun k_ => some k_ ≠ (.slice EN Ax.length EH : Value).ownBlock ∧ k_ ≠ AK) (.slice Bg AP.length Bc) AP) := ⟨RT⟩
 have SE : Aside0 (Cb.heap[AQ]? = some (.cells #[.int .i16 AN, .slice (some AM) AF.length AO] 27 (0, 0))) := ⟨R1⟩
 have RC : Aside0 (Cb.heap[Ai]? = some (.cells #[.int .i16 BW, .slice AX AR.length AZ] 27 (0, 0))) := ⟨RZ⟩
 have SP : Aside0 (Cb.heap[AK]? = some (.cells #[.int .i16 0, .int .i8 0] 52 (0, 0))) := ⟨SL⟩
 have RL : Aside0 (Cb.heap[0]? = some (.cells #[.int .i64 Ag] 3 (0, 0))) := ⟨RD⟩
 have RO : Aside0 (w.heap.size ≤ AK) := ⟨Ro⟩
 have Re : Aside0 (w.heap.size ≤ AK) := ⟨Rx⟩
 have Kp : Aside0 (AQ ≠ AK) := ⟨Lf⟩
 have MP : Aside0 (AK ≠ AQ) := ⟨LN⟩
 have Lb : Aside0 (Ai ≠ AK) := ⟨KT⟩
 have LW : Aside0 (AK ≠ Ai) := ⟨Jz⟩
 have Ki : Aside0 (0 ≠ AK) := ⟨KN⟩
 have KA : Aside0 (AK ≠ 0) := ⟨Mb⟩
 have Mj : Aside0 (Below w.heap.size w Cb) := ⟨Jo⟩
 clear AI Ad AA AB AD AC AE HB R0 RE R2 RT R1 RZ SL RD Ro Rx Lf LN KT Jz KN Mb Jo
 have Ad := RN
 have AA := Rd
 have AB := SU
 have AI := Rw
 have AC := SE
 have AE := RC
 have AJ := SP
 have AD := RL
 have D2 := RO
 have AT := Re
 have Ab := Kp
 have Az := MP
 have A3 := Lb
 have BO := LW
 have A2 := Ki
 have BK := KA
 have HB := Mj
 clear RN Rd SU Rw SE RC SP RL RO Re Kp MP Lb LW Ki KA Mj
 have hHeld : Cb.cell? ⟨AQ, 0, none⟩ = some (.int .i16 AN) ∧ Cb.cell? ⟨AQ, 1, none⟩ = some (.slice (some AM) AF.length AO) := hS_
 refine norm_ (a' := ?_) ?_ ?_
 rotate_left
 · simp only [putAll, Act.put, zs, zz, zk]; rfl
 refine one_ (i := 11) (N := none) (bA 12 4095) rfl rfl (one_of HT_.out (by kernel_rfl)) (by decide) (fun K hK => ?_)
 have SF : Cb.cell? ⟨AK, 0, none⟩ = some (.int .i16 0) := (blk_cell AJ.out 0).trans rfl
 have OR := blk_frozen AJ.out 0
 have Kx := A2.out
 have Mh := Ab.out
 have LA := A3.out
 have Ml := BK.out
 have J4 := Az.out
 have MF := BO.out
 have R9 : Cb.cell? ⟨AK, 1, none⟩ = some (.int .i8 0) := (blk_cell AJ.out 1).trans rfl
 have OK := blk_frozen AJ.out 1
 have MQ := A2.out
 have Kv := Ab.out
 have LB := A3.out
 have MS := BK.out
 have KH := Az.out
 have Kh := BO.out
 refine skip_ (w1 := ?_) (by rfl) rfl ?_ ?_
 rotate_left
 · go_simp; rfl
 refine hK.out _ _ ⟨((cell_far (p := ⟨AK, _, none⟩) Ab.out _).trans (((cell_far (p := ⟨AK, _, none⟩) Ab.out _).trans (hHeld.1)))), ((cell_far (p := ⟨AK, _, none⟩) Ab.out _).trans (((cell_far (p := ⟨AK, _, none⟩) Ab.out _).trans (hHeld.2))))⟩ (fun hHeld => ?_)
 clear hK K
 refine done_ (done_of HT_.out (by kernel_rfl)) ?_
 have OA := BC.out
 have Qo := Aq.out
 have Na := Ap.out
 have Qi := BB.out
 have N3 := Ab.out
 have NU := Az.out
 have CP : Cb.cell? ⟨AQ, 0, none⟩ = some (.int .i16 AN) := (blk_cell AC.out 0).trans rfl
 have CL : Cb.cell? ⟨AQ, 1, none⟩ = some (.slice (some AM) AF.length AO) := (blk_cell AC.out 1).trans rfl
 have CY := blk_frozen AC.out 0
 have CS := blk_frozen AC.out 1
 have PB := BK.out
 have NT := A2.out
 have Pu := BO.out
 have Ph := A3.out
 have CM : Cb.cell? ⟨AK, 0, none⟩ = some (.int .i16 0) := (blk_cell AJ.out 0).trans rfl
 have Ca : Cb.cell? ⟨AK, 1, none⟩ = some (.int .i8 0) := (blk_cell AJ.out 1).trans rfl
 have CO := blk_frozen AJ.out 0
 have CU := blk_frozen AJ.out 1
 go_upto_region 45 with (first | ((with_reducible refine gate_callee (f := 27) rfl ?_); refine goesL_ (some 403) rfl rfl Tryz.func27 (by kernel_rfl) rfl #[.agg #[.int .i16 AN, .slice (some AM) AF.length AO], .slice Bg AP.length Bc, .agg #[.int .i16 (IntKind.i16.wrap (Av)), .int .i8 (IntKind.i8.wrap (Aw))]] rfl gl_ ?_; (with_reducible refine (impl_TakeHold.calls k7 AN _ _ AF _ _ AP (IntKind.i16.wrap (Av)) (IntKind.i8.wrap (Aw)) L7 CZ _ ?side1 ?side2 ?side3 ?side4 Nl.out).mono ?_); (case side1 => refine (Kd.R_reads' (e := 24) (base := w.heap.size) (ok := fun k_ => some k_ ≠ (.slice AX AR.length AZ : Value).ownBlock) (n := AF.length) (c := AO) ?_).2.2; exact (by (with_reducible repeat (first | apply Kd.R_alloc | apply Kd.R_drewN | apply Kd.R_drew)); exact (Kd.R_mono (Kd.R_far (p := ⟨AK, 1, none⟩) (Kd.R_far (p := ⟨AK, 0, none⟩) (Kd.R_types AA.out AJ.out (by decide)) (fun _ hk => hk.2) (.int .i16 (IntKind.i16.wrap (Av)))) (fun _ hk => hk.2) (.int .i8 (IntKind.i8.wrap (Aw)))) (fun _ h_ => h_.1)))); (case side2 => exact sL AA); (case side3 => refine (Kd.R_reads' (e := 52) (base := w.heap.size) (ok := fun k_ => (some k_ ≠ (.slice EN Ax.length EH : Value).ownBlock ∧ k_ ≠ AK)) (n := AP.length) (c := Bc) ?_).2.2; exact (by (with_reducible repeat (first | apply Kd.R_alloc | apply Kd.R_drewN | apply Kd.R_drew)); exact (Kd.R_mono (Kd.R_far (p := ⟨AK, 1, none⟩) (Kd.R_far (p := ⟨AK, 0, none⟩) (Kd.R_mono AI.out (fun k_ hk => (⟨hk, hk.2⟩ : _ ∧ k_ ≠ AK))) (fun _ hk => hk.2) (.int .i16 (IntKind.i16.wrap (Av)))) (fun _ hk => hk.2) (.int .i8 (IntKind.i8.wrap (Aw)))) (fun _ h_ => h_.1)))); (case side4 => exact sL AI); rintro e KE ⟨Sm, rfl, Ay, hb⟩; refine ⟨_, rfl, ?_⟩; have D3 := ak (Kd.R_lower (Kd.R_newB (Kd.R_new' (Kd.R_new' Ay (Kd.R_lt (by (with_reducible repeat (first | apply Kd.R_alloc | apply Kd.R_drewN | apply Kd.R_drew)); exact (Kd.R_mono (Kd.R_far (p := ⟨AK, 1, none⟩) (Kd.R_far (p := ⟨AK, 0, none⟩) (Kd.R_mono AI.out (fun k_ hk => (⟨hk, hk.2⟩ : _ ∧ k_ ≠ AK))) (fun _ hk => hk.2) (.int .i16 (IntKind.i16.wrap (Av)))) (fun _ hk => hk.2) (.int .i8 (IntKind.i8.wrap (Aw)))) (fun _ h_ => h_.1))))) (Kd.R_lt (by (with_reducible repeat (first | apply Kd.R_alloc | apply Kd.R_drewN | apply Kd.R_drew)); exact (Kd.R_mono (Kd.R_far (p := ⟨AK, 1, none⟩) (Kd.R_far (p := ⟨AK, 0, none⟩) (Kd.R_mono Ad.out (fun k_ hk => (⟨hk, hk.2⟩ : _ ∧ k_ ≠ AK))) (fun _ hk => hk.2) (.int .i16 (IntKind.i16.wrap (Av)))) (fun _ hk => hk.2) (.int .i8 (IntKind.i8.wrap (Aw)))) (fun _ h_ => h_.1))))) (g := AK) (o := .cells #[.int .i16 (IntKind.i16.wrap (Av)), .int .i8 (IntKind.i8.wrap (Aw))] 52 (0, 0)) (by (with_reducible repeat (first | refine blk_drewN ?_ _ | refine blk_drew ?_ | refine blk_alloc ?_ _)); refine blk_put (cs := #[.int .i16 (IntKind.i16.wrap (Av)), .int .i8 0]) ?_ 1 _ rfl; (with_reducible repeat (first | refine blk_drewN ?_ _ | refine blk_drew ?_ | refine blk_alloc ?_ _)); refine blk_put (cs := #[.int .i16 0, .int .i8 0]) ?_ 0 _ rfl; (with_reducible repeat (first | refine blk_drewN ?_ _ | refine blk_drew ?_ | refine blk_alloc ?_ _)); exact AJ.out)) (below_size (zH3 HB AG AH AT))); replace AI := ak (Kd.R_elder' (by (with_reducible repeat (first | apply Kd.R_alloc | apply Kd.R_drewN | apply Kd.R_drew)); exact (Kd.R_mono (Kd.R_far (p := ⟨AK, 1, none⟩) (Kd.R_far (p := ⟨AK, 0, none⟩) (Kd.R_mono AI.out (fun k_ hk => (⟨hk, hk.2⟩ : _ ∧ k_ ≠ AK))) (fun _ hk => hk.2) (.int .i16 (IntKind.i16.wrap (Av)))) (fun _ hk => hk.2) (.int .i8 (IntKind.i8.wrap (Aw)))) (fun _ h_ => h_.1))) (Kd.R_base Ay) hb); replace Ad := ak (Kd.R_elder' (by (with_reducible repeat (first | apply Kd.R_alloc | apply Kd.R_drewN | apply Kd.R_drew)); exact (Kd.R_mono (Kd.R_far (p := ⟨AK, 1, none⟩) (Kd.R_far (p := ⟨AK, 0, none⟩) (Kd.R_mono Ad.out (fun k_ hk => (⟨hk, hk.2⟩ : _ ∧ k_ ≠ AK))) (fun _ hk => hk.2) (.int .i16 (IntKind.i16.wrap (Av)))) (fun _ hk => hk.2) (.int .i8 (IntKind.i8.wrap (Aw)))) (fun _ h_ => h_.1))) (Kd.R_base Ay) hb); replace AA := ak (Kd.R_below (by (with_reducible repeat (first | apply Kd.R_alloc | apply Kd.R_drewN | apply Kd.R_drew)); exact (Kd.R_mono (Kd.R_far (p := ⟨AK, 1, none⟩) (Kd.R_far (p := ⟨AK, 0, none⟩) (Kd.R_types AA.out AJ.out (by decide)) (fun _ hk => hk.2) (.int .i16 (IntKind.i16.wrap (Av)))) (fun _ hk => hk.2) (.int .i8 (IntKind.i8.wrap (Aw)))) (fun _ h_ => h_.1))) hb); replace AB := ak (Kd.R_below (by (with_reducible repeat (first | apply Kd.R_alloc | apply Kd.R_drewN | apply Kd.R_drew)); exact (Kd.R_mono (Kd.R_far (p := ⟨AK, 1, none⟩) (Kd.R_far (p := ⟨AK, 0, none⟩) (Kd.R_types AB.out AJ.out (by decide)) (fun _ hk => hk.2) (.int .i16 (IntKind.i16.wrap (Av)))) (fun _ hk => hk.2) (.int .i8 (IntKind.i8.wrap (Aw)))) (fun _ h_ => h_.1))) hb); replace AD := ak (blk_below (g := 0) (o := .cells #[.int .i64 Ag] 3 (0, 0)) (by (with_reducible repeat (first | refine blk_drewN ?_ _ | refine blk_drew ?_ | refine blk_alloc ?_ _)); refine blk_far ?_ A2.out _; (with_reducible repeat (first | refine blk_drewN ?_ _ | refine blk_drew ?_ | refine blk_alloc ?_ _)); refine blk_far ?_ A2.out _; (with_reducible repeat (first | refine blk_drewN ?_ _ | refine blk_drew ?_ | refine blk_alloc ?_ _)); exact AD.out) hb); replace AC := ak (blk_below (g := AQ) (o := .cells #[.int .i16 AN, .slice (some AM) AF.length AO] 27 (0, 0)) (by (with_reducible repeat (first | refine blk_drewN ?_ _ | refine blk_drew ?_ | refine blk_alloc ?_ _)); refine blk_far ?_ Ab.out _; (with_reducible repeat (first | refine blk_drewN ?_ _ | refine blk_drew ?_ | refine blk_alloc ?_ _)); refine blk_far ?_ Ab.out _; (with_reducible repeat (first | refine blk_drewN ?_ _ | refine blk_drew ?_ | refine blk_alloc ?_ _)); exact AC.out) hb); replace AE := ak (blk_below (g := Ai) (o := .cells #[.int .i16 BW, .slice AX AR.length AZ] 27 (0, 0)) (by (with_reducible repeat (first | refine blk_drewN ?_ _ | refine blk_drew ?_ | refine blk_alloc ?_ _)); refine blk_far ?_ A3.out _; (with_reducible repeat (first | refine blk_drewN ?_ _ | refine blk_drew ?_ | refine blk_alloc ?_ _)); refine blk_far ?_ A3.out _; (with_reducible repeat (first | refine blk_drewN ?_ _ | refine blk_drew ?_ | refine blk_alloc ?_ _)); exact AE.out) hb); replace AJ := ak (blk_below (g := AK) (o := .cells #[.int .i16 (IntKind.i16.wrap (Av)), .int .i8 (IntKind.i8.wrap (Aw))] 52 (0, 0)) (by (with_reducible repeat (first | refine blk_drewN ?_ _ | refine blk_drew ?_ | refine blk_alloc ?_ _)); refine blk_put (cs := #[.int .i16 (IntKind.i16.wrap (Av)), .int .i8 0]) ?_ 1 _ rfl; (with_reducible repeat (first | refine blk_drewN ?_ _ | refine blk_drew ?_ | refine blk_alloc ?_ _)); refine blk_put (cs := #[.int .i16 0, .int .i8 0]) ?_ 0 _ rfl; (with_reducible repeat (first | refine blk_drewN ?_ _ | refine blk_drew ?_ | refine blk_alloc ?_ _)); exact AJ.out) hb); replace HB := kB3 HB AG AH AT hb; (try clear hb); (try clear hk); (try clear Ay); obtain ⟨CV, CT, Cc, CR⟩ := cz2 KE AC; obtain ⟨CK, CN, Cd, CX⟩ := cz2 KE AJ) | ((with_reducible refine gate_callee (f := 28) rfl ?_); refine goesL_ (some 410) rfl rfl Tryz.func28 (by kernel_rfl) rfl #[.agg #[.int .i16 AN, .slice (some AM) AF.length AO], .slice Bg AP.length Bc, .agg #[.int .i16 (IntKind.i16.wrap (Av)), .int .i8 (IntKind.i8.wrap (Aw))]] rfl gl_ ?_; (with_reducible refine (spec_TakeHold.calls k7 AN _ _ AF _ _ AP (IntKind.i16.wrap (Av)) (IntKind.i8.wrap (Aw)) Al GC _ ?side1 ?side2 ?side3 ?side4 P5.out).mono ?_); (case side1 => exact sC AA); (case side2 => exact sL AA); (case side3 => exact sC AI); (case side4 => exact sL AI); rintro e Sg ⟨HU, rfl, Ay, hb⟩; refine ⟨_, rfl, ?_⟩; have Fr := ak (Kd.R_lower (Kd.R_newB (Kd.R_new' (Kd.R_new' (Kd.R_new' Ay (Kd.R_lt (zR AI.out))) (Kd.R_lt (zR Ad.out))) (Kd.R_lt (zR D3.out))) (g := AK) (o := .cells #[.int .i16 (IntKind.i16.wrap (Av)), .int .i8 (IntKind.i8.wrap (Aw))] 52 (0, 0)) (zK AJ.out)) (below_size (zH3 HB AG AH AT))); replace AI := kE AI Ay hb; replace Ad := kE Ad Ay hb; replace AA := kR AA hb; replace AB := kR AB hb; replace D3 := kE D3 Ay hb; replace AD := kK AD hb; replace AC := kK AC hb; replace AE := kK AE hb; replace AJ := kK AJ hb; replace HB := kB3 HB AG AH AT hb; (try clear hb); (try clear Ay)))
 (try simp only [Act.put, zs, zz, zk])
 refine wp_cutM 3773962424821541352241554580988268890916921220416440428376206300245624162392148852086126725177658767541468375030763844899770584629924792632561434251432407813273243615232 (fun (u : Nat → Value) wc => ∃ (kq : Nat) (Ck : Bool), u 421 = .bool Ck ∧ Aside0 (laws_FnRopes.j7 kq l1 AP CZ Al Ck AN AF (IntKind.i16.wrap (Av)) (IntKind.i8.wrap (Aw)) = some r) ∧ Aside0 (kq ≤ k7) ∧ Aside0 (Kd.R k52 52 wc w.heap.size (fun k_ => some k_ ≠ (HU : Value).ownBlock ∧ k_ ≠ AK) (.slice Bg AP.length Bc) AP) ∧ Aside0 (Kd.R k52 52 wc w.heap.size (fun k_ => some k_ ≠ ((.slice Bg AP.length Bc) : Value).ownBlock ∧ k_ ≠ AK) HU Al) ∧ Aside0 (Kd.R (Kd.int .i16) 24 wc w.heap.size (fun k_ => some k_ ≠ ((.slice AX AR.length AZ) : Value).ownBlock) (.slice (some AM) AF.length AO) AF) ∧ Aside0 (Kd.R (Kd.int .i16) 24 wc w.heap.size (fun k_ => some k_ ≠ ((.slice (some AM) AF.length AO) : Value).ownBlock) (.slice AX AR.length AZ) AR) ∧ Aside0 (wc.heap[0]? = some (.cells #[.int .i64 Ag] 3 (0, 0))) ∧ Aside0 (wc.heap[AQ]? = some (.cells #[.int .i16 AN, (.slice (some AM) AF.length AO)] 27 (0, 0))) ∧ Aside0 (wc.heap[Ai]? = some (.cells #[.int .i16 BW, (.slice AX AR.length AZ)] 27 (0, 0))) ∧ Aside0 (wc.heap[AK]? = some (.cells #[.int .i16 (IntKind.i16.wrap (Av)), .int .i8 (IntKind.i8.wrap (Aw))] 52 (0, 0))) ∧ Aside0 (Below w.heap.size w wc)) ?first ?rest
 case first => (
 intro J_ K_ PJ hK_
 have H := Ge.out
 clear Ge
 by_cases FJ : CZ = GC
 {
 rw [if_pos FJ] at H
 have Dr : (CZ == GC) = true := beq_iff_eq.mpr FJ
 have IK : (CZ != GC) = false := bne_eq_false_iff_eq.mpr FJ
 clear FJ
 (first | rw [Dr] | (simp only [i64_w, i32_w]; rw [Dr]) | skip)
 replace H := Option.bind_eq_some_iff.mp H
 obtain ⟨LY, Hp, H⟩ := H
 have OV := ak Hp
 clear Hp
 have H' := ak H
 clear H
 obtain ⟨SR, RR, Jv⟩ := Kd.R_slice D3.out
 subst Jv
 obtain ⟨Rq, RX, LU⟩ := Kd.R_slice Fr.out
 subst LU
 go_wp2_with (first | (go_at_call 25; (with_reducible refine (spec_SameHolds.calls k7 _ _ L7 _ _ Al LY _ ?side1 ?side2 ?side3 ?side4 OV.out).mono ?_); (case side1 => exact sC D3); (case side2 => exact sL D3); (case side3 => exact sC Fr); (case side4 => exact sL Fr); rintro e w' ⟨rfl, ⟨nd, rfl⟩⟩))
 refine meetM PJ (by kernel_rfl) ?rel
 case rel => dsimp only [List.getD_cons_succ, List.getD_cons_zero]; exact ⟨_, (!LY), (by first | rfl | (simp; done) | (simp [*]; done)), H', ⟨by have := DO.out; have := Bx.out; have := Du.out; have := BY.out; have := D4.out; have := Bw.out; have := FK.out; first | omega | exact Nat.le_refl _⟩, ⟨by (with_reducible repeat (first | apply Kd.R_alloc | apply Kd.R_drewN | apply Kd.R_drew)); exact Kd.R_mono AI.out (fun _ hk => ⟨hk.2, hk.1.1.2⟩)⟩, ⟨by (with_reducible repeat (first | apply Kd.R_alloc | apply Kd.R_drewN | apply Kd.R_drew)); exact Kd.R_mono Fr.out (fun _ hk => ⟨hk.1.1.1.2, hk.2⟩)⟩, ⟨(zR AA.out)⟩, ⟨(zR AB.out)⟩, ⟨(zK AD.out)⟩, ⟨(zK AC.out)⟩, ⟨(zK AE.out)⟩, ⟨(zK AJ.out)⟩, ⟨zH3 HB AG AH AT⟩⟩
 }
 {
 rw [if_neg FJ] at H
 have Dr : (CZ == GC) = false := beq_eq_false_iff_ne.mpr FJ
 have IK : (CZ != GC) = true := bne_iff_ne.mpr FJ
 (first | rw [Dr] | (simp only [i64_w, i32_w]; rw [Dr]) | skip)
 exact (laws_FnRopes.n7 H HT).elim
 }
 )
 case rest => (
 as_aux_lemma =>
 intro Ta wc hcut
 dsimp only [frU, cond, Nat.reduceMod, Nat.reduceDiv, Nat.reduceAdd, Nat.reduceBEq, Nat.reduceEqDiff, beq_self_eq_true]
 clear Ge
 try clear c1
 try clear CP
 try clear CL
 try clear CM
 try clear Ca
 try clear CV
 try clear CT
 try clear CK
 try clear CN
 try clear CY
 try clear CS
 try clear CO
 try clear CU
 try clear Cc
 try clear CR
 try clear Cd
 try clear CX
 obtain ⟨kq, Ck, Fn, HA, CF, AI, BD, AA, AB, AD, AC, AE, AJ, HB⟩ := hcut
 rw [Fn]
 clear Fn
 cases kq with
 | zero => exact absurd HA.out (by simp [laws_FnRopes.j7])
 | succ Gw => (
 have H := HA.out
 clear HA
 simp only [laws_FnRopes.j7] at H
 by_cases E0 : Ck = true
 {
 subst E0
 rw [if_pos rfl] at H
 exact absurd ((Option.some.inj H).trans HT.out) (by decide)
 }
 {
 replace E0 := Bool.eq_false_iff.mpr E0
 subst E0
 rw [if_neg (show ¬ (false = true) by decide)] at H
 have Gg := ak H
 clear H
 go_upto_if 423 with (fail)
 refine wp_cutM 3773962424821541352241554580988268890916921220416440428376206300245624162392148852086126725177658767541468375030763844899770584629924792632561434251432408868804406280208 (fun (u : Nat → Value) wc => ∃ (kq : Nat), Aside0 (laws_FnRopes.j9 kq l1 AN AF = some r) ∧ Aside0 (kq ≤ Gw) ∧ Aside0 (Kd.R (Kd.int .i16) 24 wc w.heap.size (fun k_ => some k_ ≠ ((.slice AX AR.length AZ) : Value).ownBlock) (.slice (some AM) AF.length AO) AF) ∧ Aside0 (Kd.R (Kd.int .i16) 24 wc w.heap.size (fun k_ => some k_ ≠ ((.slice (some AM) AF.length AO) : Value).ownBlock) (.slice AX AR.length AZ) AR) ∧ Aside0 (wc.heap[0]? = some (.cells #[.int .i64 Ag] 3 (0, 0))) ∧ Aside0 (wc.heap[AQ]? = some (.cells #[.int .i16 AN, (.slice (some AM) AF.length AO)] 27 (0, 0))) ∧ Aside0 (wc.heap[Ai]? = some (.cells #[.int .i16 BW, (.slice AX AR.length AZ)] 27 (0, 0))) ∧ Aside0 (wc.heap[AK]? = some (.cells #[.int .i16 (IntKind.i16.wrap (Av)), .int .i8 (IntKind.i8.wrap (Aw))] 52 (0, 0))) ∧ Aside0 (Below w.heap.size w wc)) ?first ?rest
 case first => (
 intro J_ K_ LK hK_
 have H := Gg.out
 clear Gg
 by_cases E2 : CZ = 0
 {
 rw [if_pos E2] at H
 have C5 : (CZ == 0) = true := beq_iff_eq.mpr E2
 have Gr : (CZ != 0) = false := bne_eq_false_iff_eq.mpr E2
 clear E2
 (first | rw [C5] | (simp only [i64_w, i32_w]; rw [C5]) | skip)
 have H' := ak H
 clear H
 go_wp2
 refine wp_loopM 354858397883493664293856102848687478356997751318801774487834347575224423941185616848756724381234488815558303265388385474405097013248 Gw (fun kq (u : Nat → Value) w' => ∃ (Cl : Int) (AW : Int), u 46 = .int .i64 Cl ∧ u 47 = .int .i64 AW ∧ Aside0 (laws_FnRopes.l3 kq l1 AP Al Cl AW AN AF (IntKind.i16.wrap (Av)) (IntKind.i8.wrap (Aw)) = some r) ∧ Aside0 (kq ≤ Gw) ∧ Aside0 (Kd.R k52 52 w' w.heap.size (fun k_ => some k_ ≠ (HU : Value).ownBlock ∧ k_ ≠ AK) (.slice Bg AP.length Bc) AP) ∧ Aside0 (Kd.R k52 52 w' w.heap.size (fun k_ => some k_ ≠ ((.slice Bg AP.length Bc) : Value).ownBlock ∧ k_ ≠ AK) HU Al) ∧ Aside0 (Kd.R (Kd.int .i16) 24 w' w.heap.size (fun k_ => some k_ ≠ ((.slice AX AR.length AZ) : Value).ownBlock) (.slice (some AM) AF.length AO) AF) ∧ Aside0 (Kd.R (Kd.int .i16) 24 w' w.heap.size (fun k_ => some k_ ≠ ((.slice (some AM) AF.length AO) : Value).ownBlock) (.slice AX AR.length AZ) AR) ∧ Aside0 (w'.heap[0]? = some (.cells #[.int .i64 Ag] 3 (0, 0))) ∧ Aside0 (w'.heap[AQ]? = some (.cells #[.int .i16 AN, (.slice (some AM) AF.length AO)] 27 (0, 0))) ∧ Aside0 (w'.heap[Ai]? = some (.cells #[.int .i16 BW, (.slice AX AR.length AZ)] 27 (0, 0))) ∧ Aside0 (w'.heap[AK]? = some (.cells #[.int .i16 (IntKind.i16.wrap (Av)), .int .i8 (IntKind.i8.wrap (Aw))] 52 (0, 0))) ∧ Aside0 (Below w.heap.size w w')) ?atStart ?round
 case atStart => dsimp only [List.getD_cons_succ, List.getD_cons_zero]; exact ⟨((-1)), (0), (by first | rfl | (simp; done) | (simp [*]; done)), (by first | rfl | (simp; done) | (simp [*]; done)), H', ⟨Nat.le_refl _⟩, ⟨(zR AI.out)⟩, ⟨(zR BD.out)⟩, ⟨(zR AA.out)⟩, ⟨(zR AB.out)⟩, ⟨(zK AD.out)⟩, ⟨(zK AC.out)⟩, ⟨(zK AE.out)⟩, ⟨(zK AJ.out)⟩, ⟨zH3 HB AG AH AT⟩⟩
 case round => (
 intro gk Sn wr hrel J_ K_ Hv hK_
 dsimp only [frU, cond, Nat.reduceMod, Nat.reduceDiv, Nat.reduceAdd, Nat.reduceBEq, Nat.reduceEqDiff, beq_self_eq_true]
 clear H'
 try clear c1
 try clear E0
 try clear E2
 try clear C5
 try clear Gr
 try clear CP
 try clear CL
 try clear CM
 try clear Ca
 try clear CV
 try clear CT
 try clear CK
 try clear CN
 try clear CY
 try clear CS
 try clear CO
 try clear CU
 try clear Cc
 try clear CR
 try clear Cd
 try clear CX
 obtain ⟨Cl, AW, Fy, Fv, HA, KD, AI, BD, AA, AB, AD, AC, AE, AJ, HB⟩ := hrel
 rw [Fy]
 clear Fy
 rw [Fv]
 clear Fv
 cases gk with
 | zero => exact absurd HA.out (by simp [laws_FnRopes.l3])
 | succ k9 => (
 have H := HA.out
 clear HA
 simp only [laws_FnRopes.l3] at H
 by_cases GS : AW < (Al.length : Int)
 {
 rw [if_pos GS] at H
 have Iq : decide (AW < (Al.length : Int)) = true := decide_eq_true GS
 clear GS
 by_cases HQ : 0 ≤ AW
 {
 rw [if_pos HQ] at H
 have Ou : decide (0 ≤ AW) = true := decide_eq_true HQ
 clear HQ
 by_cases Dw : (((rd_T52 Al AW).f0) == (IntKind.i16.wrap (Av)) && (((rd_T52 Al AW).f1) == (IntKind.i8.wrap (Aw)))) = true
 {
 rw [if_pos Dw] at H
 have JT : (((rd_T52 Al AW).f0) == (IntKind.i16.wrap (Av)) && (((rd_T52 Al AW).f1) == (IntKind.i8.wrap (Aw)))) = true := Dw
 (try (have IU : decide (((rd_T52 Al AW).f0) = (IntKind.i16.wrap (Av)) && (((rd_T52 Al AW).f1) == (IntKind.i8.wrap (Aw)))) = true := by simpa using Dw))
 (try (have JQ : (((rd_T52 Al AW).f0) == (IntKind.i16.wrap (Av)) && (((rd_T52 Al AW).f1) == (IntKind.i8.wrap (Aw)))) = true := by simpa using Dw))
 clear Dw
 have H' := ak H
 clear H
 obtain ⟨RP, RM, MA⟩ := Kd.R_slice BD.out
 subst MA
 try go_wp2
 replace AI := ak (Kd.R_drew AI.out)
 replace BD := ak (Kd.R_drew BD.out)
 replace AA := ak (Kd.R_drew AA.out)
 replace AB := ak (Kd.R_drew AB.out)
 replace AD := ak (blk_drew AD.out)
 replace AC := ak (blk_drew AC.out)
 replace AE := ak (blk_drew AE.out)
 replace AJ := ak (blk_drew AJ.out)
 replace HB := ak (below_drew1 HB.out)
 have FX : 0 ≤ (AW : Int) := of_decide_eq_true (by first | (with_reducible assumption) | assumption)
 have Fl : AW < (Al.length : Int) := of_decide_eq_true (by first | (with_reducible assumption) | assumption)
 obtain ⟨Dm, IJ, Cp, Cq⟩ := at_T52 (Kd.R_reads' BD.out).2.2 AW FX Fl
 cases IJ
 replace FX := eq_true FX
 replace Fl := eq_true Fl
 refine start_ (n := 6) (S := fun w' => w'.cell? ⟨AK, 0, none⟩ = some (.int .i16 (IntKind.i16.wrap (Av))) ∧ w'.cell? ⟨AK, 1, none⟩ = some (.int .i8 (IntKind.i8.wrap (Aw))) ∧ w'.cell? (Dm.add ((AW).toNat * 2)) = some (.int .i16 ((rd_T52 Al AW).f0)) ∧ w'.cell? ⟨(Dm.add ((AW).toNat * 2)).block, (Dm.add ((AW).toNat * 2)).off + 1, none⟩ = some (.int .i8 ((rd_T52 Al AW).f1))) (ds := []) (bA 6 0) (by kernel_rfl) rfl rfl ⟨(blk_cell AJ.out 0).trans rfl, (blk_cell AJ.out 1).trans rfl, Cp, Cq⟩ (fun hHeld => ?_)
 generalize wr.drew = Sc at AI BD AA AB AD AC AE AJ HB Cp Cq hHeld ⊢
 refine pure_ (i := 0) (N := some 430) (v := ?_) (a' := ?_) (bA 6 1) rfl rfl (by kernel_rfl) (fun _ _ _ h => h) (Or.inl ⟨by rfl, ?_⟩) ?_ ?_
 rotate_left
 {
 intro w'
 go_simp
 with_reducible rfl
 }
 rotate_left
 · simp only [Act.put, zs, zz, zk, i64_w, i32_w]; rfl
 refine pure_ (i := 1) (N := some 431) (v := ?_) (a' := ?_) (bA 6 3) rfl rfl (by kernel_rfl) (fun _ _ _ h => h) (Or.inl ⟨by rfl, ?_⟩) ?_ ?_
 rotate_left
 {
 intro w'
 go_simp
 with_reducible rfl
 }
 rotate_left
 · simp only [Act.put, zs, zz, zk, i64_w, i32_w]; rfl
 refine pure_ (i := 2) (N := some 432) (v := ?_) (a' := ?_) (bA 6 7) rfl rfl (by kernel_rfl) (fun _ _ _ h => h) (Or.inl ⟨by rfl, ?_⟩) ?_ ?_
 rotate_left
 {
 intro w'
 go_simp
 with_reducible rfl
 }
 rotate_left
 · simp only [Act.put, zs, zz, zk, i64_w, i32_w]; rfl
 refine take_ (i := 3) (N := some 433) (v := ?_) (a' := ?_) (bA 6 15) rfl rfl (by kernel_rfl) (fun _ _ _ h => h) (Or.inl ⟨by rfl, ?_⟩) hHeld ?_ ?_
 rotate_left
 {
 rintro w' ⟨s0, s1, s2, s3⟩
 go_simp
 with_reducible rfl
 }
 rotate_left
 · simp only [Act.put, zs, zz, zk, i64_w, i32_w]; rfl
 refine take_ (i := 4) (N := some 434) (v := ?_) (a' := ?_) (bA 6 31) rfl rfl (by kernel_rfl) (fun _ _ _ h => h) (Or.inl ⟨by rfl, ?_⟩) hHeld ?_ ?_
 rotate_left
 {
 rintro w' ⟨s0, s1, s2, s3⟩
 go_simp
 with_reducible rfl
 }
 rotate_left
 · simp only [Act.put, zs, zz, zk, i64_w, i32_w]; rfl
 refine pure_ (i := 5) (N := some 435) (v := ?_) (a' := ?_) (bA 6 63) rfl rfl (by kernel_rfl) (fun _ _ _ h => h) (Or.inl ⟨by rfl, ?_⟩) ?_ ?_
 rotate_left
 {
 intro w'
 go_simp
 with_reducible rfl
 }
 rotate_left
 · simp only [Act.put, zs, zz, zk, i64_w, i32_w]; rfl
 refine done_ (by kernel_rfl) ?_
 try go_wp2
 refine handM k9 Hv ?measure (by kernel_rfl) ?rel
 case measure => have := DO.out; have := Bx.out; have := Du.out; have := BY.out; have := D4.out; have := Bw.out; have := FK.out; have := CF.out; have := KD.out; omega
 case rel => dsimp only [List.getD_cons_succ, List.getD_cons_zero]; exact ⟨(AW), (wrap64 (AW + 1)), (by first | rfl | (simp; done) | (simp [*]; done)), (by first | rfl | (simp; done) | (simp [*]; done)), H', ⟨by have := DO.out; have := Bx.out; have := Du.out; have := BY.out; have := D4.out; have := Bw.out; have := FK.out; have := CF.out; have := KD.out; omega⟩, ⟨(zR AI.out)⟩, ⟨(zR BD.out)⟩, ⟨(zR AA.out)⟩, ⟨(zR AB.out)⟩, ⟨(zK AD.out)⟩, ⟨(zK AC.out)⟩, ⟨(zK AE.out)⟩, ⟨(zK AJ.out)⟩, ⟨zH3 HB AG AH AT⟩⟩
 }
 {
 rw [if_neg Dw] at H
 have JT : (((rd_T52 Al AW).f0) == (IntKind.i16.wrap (Av)) && (((rd_T52 Al AW).f1) == (IntKind.i8.wrap (Aw)))) = false := by simpa using Dw
 (try (have IU : decide (((rd_T52 Al AW).f0) = (IntKind.i16.wrap (Av)) && (((rd_T52 Al AW).f1) == (IntKind.i8.wrap (Aw)))) = false := by simpa using Dw))
 (try (have JQ : (((rd_T52 Al AW).f0) == (IntKind.i16.wrap (Av)) && (((rd_T52 Al AW).f1) == (IntKind.i8.wrap (Aw)))) = false := by simpa using Dw))
 (try (have N4 : ¬ (((rd_T52 Al AW).f0) = (IntKind.i16.wrap (Av)) && (((rd_T52 Al AW).f1) == (IntKind.i8.wrap (Aw)))) := by simpa using Dw))
 clear Dw
 have H' := ak H
 clear H
 obtain ⟨R5, SO, KL⟩ := Kd.R_slice BD.out
 subst KL
 try go_wp2
 replace AI := ak (Kd.R_drew AI.out)
 replace BD := ak (Kd.R_drew BD.out)
 replace AA := ak (Kd.R_drew AA.out)
 replace AB := ak (Kd.R_drew AB.out)
 replace AD := ak (blk_drew AD.out)
 replace AC := ak (blk_drew AC.out)
 replace AE := ak (blk_drew AE.out)
 replace AJ := ak (blk_drew AJ.out)
 replace HB := ak (below_drew1 HB.out)
 have FX : 0 ≤ (AW : Int) := of_decide_eq_true (by first | (with_reducible assumption) | assumption)
 have Fl : AW < (Al.length : Int) := of_decide_eq_true (by first | (with_reducible assumption) | assumption)
 obtain ⟨Dm, IJ, Cp, Cq⟩ := at_T52 (Kd.R_reads' BD.out).2.2 AW FX Fl
 cases IJ
 replace FX := eq_true FX
 replace Fl := eq_true Fl
 refine start_ (n := 6) (S := fun w' => w'.cell? ⟨AK, 0, none⟩ = some (.int .i16 (IntKind.i16.wrap (Av))) ∧ w'.cell? ⟨AK, 1, none⟩ = some (.int .i8 (IntKind.i8.wrap (Aw))) ∧ w'.cell? (Dm.add ((AW).toNat * 2)) = some (.int .i16 ((rd_T52 Al AW).f0)) ∧ w'.cell? ⟨(Dm.add ((AW).toNat * 2)).block, (Dm.add ((AW).toNat * 2)).off + 1, none⟩ = some (.int .i8 ((rd_T52 Al AW).f1))) (ds := []) (bA 6 0) (by kernel_rfl) rfl rfl ⟨(blk_cell AJ.out 0).trans rfl, (blk_cell AJ.out 1).trans rfl, Cp, Cq⟩ (fun hHeld => ?_)
 generalize wr.drew = TP at AI BD AA AB AD AC AE AJ HB Cp Cq hHeld ⊢
 refine pure_ (i := 0) (N := some 430) (v := ?_) (a' := ?_) (bA 6 1) rfl rfl (by kernel_rfl) (fun _ _ _ h => h) (Or.inl ⟨by rfl, ?_⟩) ?_ ?_
 rotate_left
 {
 intro w'
 go_simp
 with_reducible rfl
 }
 rotate_left
 · simp only [Act.put, zs, zz, zk, i64_w, i32_w]; rfl
 refine pure_ (i := 1) (N := some 431) (v := ?_) (a' := ?_) (bA 6 3) rfl rfl (by kernel_rfl) (fun _ _ _ h => h) (Or.inl ⟨by rfl, ?_⟩) ?_ ?_
 rotate_left
 {
 intro w'
 go_simp
 with_reducible rfl
 }
 rotate_left
 · simp only [Act.put, zs, zz, zk, i64_w, i32_w]; rfl
 refine pure_ (i := 2) (N := some 432) (v := ?_) (a' := ?_) (bA 6 7) rfl rfl (by kernel_rfl) (fun _ _ _ h => h) (Or.inl ⟨by rfl, ?_⟩) ?_ ?_
 rotate_left
 {
 intro w'
 go_simp
 with_reducible rfl
 }
 rotate_left
 · simp only [Act.put, zs, zz, zk, i64_w, i32_w]; rfl
 refine take_ (i := 3) (N := some 433) (v := ?_) (a' := ?_) (bA 6 15) rfl rfl (by kernel_rfl) (fun _ _ _ h => h) (Or.inl ⟨by rfl, ?_⟩) hHeld ?_ ?_
 rotate_left
 {
 rintro w' ⟨s0, s1, s2, s3⟩
 go_simp
 with_reducible rfl
 }
 rotate_left
 · simp only [Act.put, zs, zz, zk, i64_w, i32_w]; rfl
 refine take_ (i := 4) (N := some 434) (v := ?_) (a' := ?_) (bA 6 31) rfl rfl (by kernel_rfl) (fun _ _ _ h => h) (Or.inl ⟨by rfl, ?_⟩) hHeld ?_ ?_
 rotate_left
 {
 rintro w' ⟨s0, s1, s2, s3⟩
 go_simp
 with_reducible rfl
 }
 rotate_left
 · simp only [Act.put, zs, zz, zk, i64_w, i32_w]; rfl
 refine pure_ (i := 5) (N := some 435) (v := ?_) (a' := ?_) (bA 6 63) rfl rfl (by kernel_rfl) (fun _ _ _ h => h) (Or.inl ⟨by rfl, ?_⟩) ?_ ?_
 rotate_left
 {
 intro w'
 go_simp
 with_reducible rfl
 }
 rotate_left
 · simp only [Act.put, zs, zz, zk, i64_w, i32_w]; rfl
 refine done_ (by kernel_rfl) ?_
 try go_wp2
 refine handM k9 Hv ?measure (by kernel_rfl) ?rel
 case measure => have := DO.out; have := Bx.out; have := Du.out; have := BY.out; have := D4.out; have := Bw.out; have := FK.out; have := CF.out; have := KD.out; omega
 case rel => dsimp only [List.getD_cons_succ, List.getD_cons_zero]; exact ⟨(Cl), (wrap64 (AW + 1)), (by first | rfl | (simp; done) | (simp [*]; done)), (by first | rfl | (simp; done) | (simp [*]; done)), H', ⟨by have := DO.out; have := Bx.out; have := Du.out; have := BY.out; have := D4.out; have := Bw.out; have := FK.out; have := CF.out; have := KD.out; omega⟩, ⟨(zR AI.out)⟩, ⟨(zR BD.out)⟩, ⟨(zR AA.out)⟩, ⟨(zR AB.out)⟩, ⟨(zK AD.out)⟩, ⟨(zK AC.out)⟩, ⟨(zK AE.out)⟩, ⟨(zK AJ.out)⟩, ⟨zH3 HB AG AH AT⟩⟩
 }
 }
 · rw [if_neg HQ] at H; exact absurd H (by simp)
 }
 {
 rw [if_neg GS] at H
 have Iq : decide (AW < (Al.length : Int)) = false := decide_eq_false GS
 clear GS
 replace H := Option.bind_eq_some_iff.mp H
 obtain ⟨⟨EB, GL⟩, Hl, H⟩ := H
 have N0 := ak Hl
 clear Hl
 by_cases F7 : Cl < 0
 · rw [if_pos F7] at H; have Ic : decide (Cl < 0) = true := decide_eq_true F7; clear F7; exact absurd ((Option.some.inj H).trans HT.out) (by decide)
 {
 rw [if_neg F7] at H
 have Ic : decide (Cl < 0) = false := decide_eq_false F7
 clear F7
 replace H := Option.bind_eq_some_iff.mp H
 obtain ⟨Qd, Ht, H⟩ := H
 have Nb := ak Ht
 clear Ht
 by_cases HN : Qd = true
 {
 subst HN
 rw [if_pos rfl] at H
 by_cases Ci : (Al.length : Int) = (wrap64 ((AP.length : Int) + 1))
 {
 rw [if_pos Ci] at H
 have IS : ((Al.length : Int) == (wrap64 ((AP.length : Int) + 1))) = true := beq_iff_eq.mpr Ci
 have IX : ((Al.length : Int) != (wrap64 ((AP.length : Int) + 1))) = false := bne_eq_false_iff_eq.mpr Ci
 (try (have Jf : ((Al.length : Int) == (IntKind.i64.wrap ((AP.length : Int) + 1))) = true := by first | simpa only [i64_w, i32_w] using (show ((Al.length : Int) == (wrap64 ((AP.length : Int) + 1))) = true from beq_iff_eq.mpr Ci) | simpa only [i64_w] using (show ((Al.length : Int) == (wrap64 ((AP.length : Int) + 1))) = true from beq_iff_eq.mpr Ci)))
 (try (have JR : ((Al.length : Int) != (IntKind.i64.wrap ((AP.length : Int) + 1))) = false := by first | simpa only [i64_w, i32_w] using (show ((Al.length : Int) != (wrap64 ((AP.length : Int) + 1))) = false from bne_eq_false_iff_eq.mpr Ci) | simpa only [i64_w] using (show ((Al.length : Int) != (wrap64 ((AP.length : Int) + 1))) = false from bne_eq_false_iff_eq.mpr Ci)))
 clear Ci
 by_cases FQ : GL = 0
 {
 rw [if_pos FQ] at H
 have Ih : (GL == 0) = true := beq_iff_eq.mpr FQ
 have Ie : (GL != 0) = false := bne_eq_false_iff_eq.mpr FQ
 clear FQ
 by_cases Dl : (EB.length : Int) = (AP.length : Int)
 {
 rw [if_pos Dl] at H
 have IH : ((EB.length : Int) == (AP.length : Int)) = true := beq_iff_eq.mpr Dl
 have Ja : ((EB.length : Int) != (AP.length : Int)) = false := bne_eq_false_iff_eq.mpr Dl
 have IQ : (EB.length == AP.length) = true := by first | simpa using Dl | (simp at Dl ⊢; omega)
 clear Dl
 replace H := Option.bind_eq_some_iff.mp H
 obtain ⟨Pn, IA, H⟩ := H
 have Qx := ak IA
 clear IA
 by_cases HG : Pn = true
 {
 subst HG
 rw [if_pos rfl] at H
 have H' := ak H
 clear H
 obtain ⟨ML, ME, Ll⟩ := Kd.R_slice BD.out
 subst Ll
 have Qp := BC.out
 have Ov := Aq.out
 have NX := Ap.out
 have QP := BB.out
 have PO := Ab.out
 have Q2 := Az.out
 have K0 : wr.cell? ⟨AQ, 0, none⟩ = some (.int .i16 AN) := (blk_cell AC.out 0).trans rfl
 have LD : wr.cell? ⟨AQ, 1, none⟩ = some (.slice (some AM) AF.length AO) := (blk_cell AC.out 1).trans rfl
 have MG := blk_frozen AC.out 0
 have Kz := blk_frozen AC.out 1
 go_wp2_with (first | ((with_reducible refine gate_callee (f := 29) rfl ?_); refine goesL_ (some 441) rfl rfl Tryz.func29 (by kernel_rfl) rfl #[.agg #[.int .i16 AN, .slice (some AM) AF.length AO], .slice ML Al.length ME, .int .i64 Cl] rfl gl_ ?_; (with_reducible refine (impl_LetGo.calls k9 AN _ _ AF _ _ Al Cl EB GL _ ?side1 ?side2 ?side3 ?side4 N0.out).mono ?_); (case side1 => exact sC AA); (case side2 => exact sL AA); (case side3 => exact sC BD); (case side4 => exact sL BD); rintro e NR ⟨TB, rfl, Ay, hb⟩; refine ⟨_, rfl, ?_⟩; have E1 := ak (Kd.R_lower (Kd.R_newB (Kd.R_new' (Kd.R_new' Ay (Kd.R_lt (zR AI.out))) (Kd.R_lt (zR BD.out))) (g := AK) (o := .cells #[.int .i16 (IntKind.i16.wrap (Av)), .int .i8 (IntKind.i8.wrap (Aw))] 52 (0, 0)) (zK AJ.out)) (below_size (zH3 HB AG AH AT))); replace AI := kE AI Ay hb; replace BD := kE BD Ay hb; replace AA := kR AA hb; replace AB := kR AB hb; replace AD := kK AD hb; replace AC := kK AC hb; replace AE := kK AE hb; replace AJ := kK AJ hb; replace HB := kB3 HB AG AH AT hb; (try clear hb); (try clear Ay); obtain ⟨KJ, Kc, KS, Md⟩ := cz2 NR AC) | (go_at_call 15; (with_reducible refine (impl_ValidHolds.calls k9 AN _ _ AF _ _ Al true _ ?side1 ?side2 ?side3 ?side4 Nb.out).mono ?_); (case side1 => exact sC AA); (case side2 => exact sL AA); (case side3 => exact sC BD); (case side4 => exact sL BD); rintro e TS ⟨rfl, hb⟩; replace AI := kR AI hb; replace BD := kR BD hb; replace AA := kR AA hb; replace AB := kR AB hb; replace E1 := kR E1 hb; replace AD := kK AD hb; replace AC := kK AC hb; replace AE := kK AE hb; replace AJ := kK AJ hb; replace HB := kB3 HB AG AH AT hb; (try clear hb); obtain ⟨RH, Rr, Jp⟩ := Kd.R_slice E1.out; subst Jp) | (go_at_call 25; (with_reducible refine (spec_SameHolds.calls k9 _ _ EB _ _ AP true _ ?side1 ?side2 ?side3 ?side4 Qx.out).mono ?_); (case side1 => exact sC E1); (case side2 => exact sL E1); (case side3 => exact sC AI); (case side4 => exact sL AI); rintro e w' ⟨rfl, ⟨nd, rfl⟩⟩))
 refine meetM LK (by kernel_rfl) ?rel
 case rel => (try dsimp only [List.getD_cons_succ, List.getD_cons_zero]); exact ⟨_, H', ⟨by have := DO.out; have := Bx.out; have := Du.out; have := BY.out; have := D4.out; have := Bw.out; have := FK.out; have := CF.out; have := KD.out; first | omega | exact Nat.le_refl _⟩, ⟨(zR AA.out)⟩, ⟨(zR AB.out)⟩, ⟨(zK AD.out)⟩, ⟨(zK AC.out)⟩, ⟨(zK AE.out)⟩, ⟨(zK AJ.out)⟩, ⟨zH3 HB AG AH AT⟩⟩
 }
 {
 replace HG := Bool.eq_false_iff.mpr HG
 subst HG
 rw [if_neg (show ¬ (false = true) by decide)] at H
 exact absurd ((Option.some.inj H).trans HT.out) (by decide)
 }
 }
 {
 rw [if_neg Dl] at H
 have IH : ((EB.length : Int) == (AP.length : Int)) = false := beq_eq_false_iff_ne.mpr Dl
 have Ja : ((EB.length : Int) != (AP.length : Int)) = true := bne_iff_ne.mpr Dl
 have IQ : (EB.length == AP.length) = false := by first | simpa using Dl | (simp at Dl ⊢; omega)
 exact absurd ((Option.some.inj H).trans HT.out) (by decide)
 }
 }
 · rw [if_neg FQ] at H; have Ih : (GL == 0) = false := beq_eq_false_iff_ne.mpr FQ; have Ie : (GL != 0) = true := bne_iff_ne.mpr FQ; exact absurd ((Option.some.inj H).trans HT.out) (by decide)
 }
 {
 rw [if_neg Ci] at H
 have IS : ((Al.length : Int) == (wrap64 ((AP.length : Int) + 1))) = false := beq_eq_false_iff_ne.mpr Ci
 have IX : ((Al.length : Int) != (wrap64 ((AP.length : Int) + 1))) = true := bne_iff_ne.mpr Ci
 (try (have Jf : ((Al.length : Int) == (IntKind.i64.wrap ((AP.length : Int) + 1))) = false := by first | simpa only [i64_w, i32_w] using (show ((Al.length : Int) == (wrap64 ((AP.length : Int) + 1))) = false from beq_eq_false_iff_ne.mpr Ci) | simpa only [i64_w] using (show ((Al.length : Int) == (wrap64 ((AP.length : Int) + 1))) = false from beq_eq_false_iff_ne.mpr Ci)))
 (try (have JR : ((Al.length : Int) != (IntKind.i64.wrap ((AP.length : Int) + 1))) = true := by first | simpa only [i64_w, i32_w] using (show ((Al.length : Int) != (wrap64 ((AP.length : Int) + 1))) = true from bne_iff_ne.mpr Ci) | simpa only [i64_w] using (show ((Al.length : Int) != (wrap64 ((AP.length : Int) + 1))) = true from bne_iff_ne.mpr Ci)))
 exact absurd ((Option.some.inj H).trans HT.out) (by decide)
 }
 }
 {
 replace HN := Bool.eq_false_iff.mpr HN
 subst HN
 rw [if_neg (show ¬ (false = true) by decide)] at H
 exact absurd ((Option.some.inj H).trans HT.out) (by decide)
 }
 }
 }
 )
 )
 }
 {
 rw [if_neg E2] at H
 have C5 : (CZ == 0) = false := beq_eq_false_iff_ne.mpr E2
 have Gr : (CZ != 0) = true := bne_iff_ne.mpr E2
 (first | rw [C5] | (simp only [i64_w, i32_w]; rw [C5]) | skip)
 by_cases FN : CZ = 4
 {
 rw [if_pos FN] at H
 have I3 : (CZ == 4) = true := beq_iff_eq.mpr FN
 have Je : (CZ != 4) = false := bne_eq_false_iff_eq.mpr FN
 clear FN
 have H' := ak H
 clear H
 go_wp2
 refine meetM LK (by kernel_rfl) ?rel
 case rel => (try dsimp only [List.getD_cons_succ, List.getD_cons_zero]); exact ⟨_, H', ⟨by have := DO.out; have := Bx.out; have := Du.out; have := BY.out; have := D4.out; have := Bw.out; have := FK.out; have := CF.out; first | omega | exact Nat.le_refl _⟩, ⟨(zR AA.out)⟩, ⟨(zR AB.out)⟩, ⟨(zK AD.out)⟩, ⟨(zK AC.out)⟩, ⟨(zK AE.out)⟩, ⟨(zK AJ.out)⟩, ⟨zH3 HB AG AH AT⟩⟩
 }
 · rw [if_neg FN] at H; have I3 : (CZ == 4) = false := beq_eq_false_iff_ne.mpr FN; have Je : (CZ != 4) = true := bne_iff_ne.mpr FN; exact absurd ((Option.some.inj H).trans HT.out) (by decide)
 }
 )
 case rest => (
 as_aux_lemma =>
 intro Tj wc hcut
 dsimp only [frU, cond, Nat.reduceMod, Nat.reduceDiv, Nat.reduceAdd, Nat.reduceBEq, Nat.reduceEqDiff, beq_self_eq_true]
 clear Gg
 try clear c1
 try clear E0
 try clear CP
 try clear CL
 try clear CM
 try clear Ca
 try clear CV
 try clear CT
 try clear CK
 try clear CN
 try clear CY
 try clear CS
 try clear CO
 try clear CU
 try clear Cc
 try clear CR
 try clear Cd
 try clear CX
 obtain ⟨kq, HA, D9, AA, AB, AD, AC, AE, AJ, HB⟩ := hcut
 cases kq with
 | zero => exact absurd HA.out (by simp [laws_FnRopes.j9])
 | succ EW => (
 have H := HA.out
 clear HA
 simp only [laws_FnRopes.j9] at H
 replace H := Option.bind_eq_some_iff.mp H
 obtain ⟨BR, Hm, H⟩ := H
 have PE := ak Hm
 clear Hm
 replace H := Option.bind_eq_some_iff.mp H
 obtain ⟨⟨CQ, Bb, CH⟩, Hh, H⟩ := H
 have Pp := ak Hh
 clear Hh
 replace H := Option.bind_eq_some_iff.mp H
 obtain ⟨⟨Bh, A4, GV⟩, Hn, H⟩ := H
 have PN := ak Hn
 clear Hn
 have Gm := ak H
 clear H
 go_upto_region 62 with (first | ((with_reducible refine gate_callee (f := 18) rfl ?_); refine goesL_ (some 480) rfl rfl Tryz.func18 (by kernel_rfl) rfl #[.slice A1 l1.length c1, .int .i64 9] rfl gl_ ?_; (with_reducible refine (spec_P6Pick.calls _ _ l1 9 BR _ ?side1 ?side2 PE.out).mono ?_); (case side1 => exact sQ (Kd.C_below JW.out HB.out)); (case side2 => exact JS.out); rintro e Pr ⟨rfl, hb⟩; refine ⟨_, rfl, ?_⟩; replace AA := kR AA hb; replace AB := kR AB hb; replace AD := kK AD hb; replace AC := kK AC hb; replace AE := kK AE hb; replace AJ := kK AJ hb; replace HB := kB3 HB AG AH AT hb; (try clear hb); have O7 := BC.out; have PY := Aq.out; have P2 := Ap.out; have Nh := BB.out; have Nm := Ab.out; have Nu := Az.out; obtain ⟨EG, Er, E9, EQ⟩ := cz2 Pr AC) | ((with_reducible refine gate_callee (f := 30) rfl ?_); refine goesL_ (some 487) rfl rfl Tryz.func30 (by kernel_rfl) rfl #[.int .i64 (wrap64 (AN)), .int .i64 (wrap64 (1 + BR))] rfl gl_ ?_; (with_reducible refine (impl_EvenRope.calls EW (wrap64 (AN)) (wrap64 (1 + BR)) CQ Bb CH _ Pp.out).mono ?_); rintro e TI ⟨TE, rfl, Ay, hb⟩; refine ⟨_, rfl, ?_⟩; have Bf := ak (Kd.R_lower (Kd.R_new' (Kd.R_new' Ay (Kd.R_lt (zR AA.out))) (Kd.R_lt (zR AB.out))) (below_size (zH3 HB AG AH AT))); replace AA := kE AA Ay hb; replace AB := kE AB Ay hb; replace AD := kK AD hb; replace AC := kK AC hb; replace AE := kK AE hb; replace AJ := kK AJ hb; replace HB := kB3 HB AG AH AT hb; (try clear hb); (try clear Ay)) | ((with_reducible refine gate_dst (N := 51) rfl ?_); (try (refine gate_guard (by rfl) ?_; dsimp only)); refine box_event ?hg (N := 51) ?hd (cs := #[.int .i16 0, .slice none 0 0]) (t := 27) ?hr ?_; (case hd => rfl); (case hg => rfl); (case hr => first | (go_simp; done) | (go_simp; rfl)); intro BE hg Jl hbox hb; have Ak := ak (hbox); have Rm := ak ((by rw [hg]; exact (below_size (zH3 HB AG AH AT)) : w.heap.size ≤ BE)); have Bl := ak ((by rw [hg]; exact (below_size (zH3 HB AG AH AT)) : w.heap.size ≤ BE)); have CB := nL AD hg; have C1 := nG AD hg; have CC := nL AC hg; have DC := nG AC hg; have B7 := nL AE hg; have DH := nG AE hg; have B4 := nL AJ hg; have Cy := nG AJ hg; replace AA := kR AA hb; replace AB := kR AB hb; replace Bf := kR Bf hb; replace AD := kK AD hb; replace AC := kK AC hb; replace AE := kK AE hb; replace AJ := kK AJ hb; replace HB := kB3 HB AG AH AT hb; clear hb hbox hg; have Pz := C1.out; have Np := CB.out; have QF := DC.out; have PF := CC.out; have QI := DH.out; have Pg := B7.out; have QC := Cy.out; have Of := B4.out; obtain ⟨Eh, Eg, E5, Es⟩ := cz2 Jl Ak; obtain ⟨BG, A5, KX⟩ := Kd.R_slice Bf.out; subst KX; obtain ⟨ET, Ee, Ec, ER⟩ := cz2 Jl AC) | ((with_reducible refine gate_callee (f := 31) rfl ?_); refine goesL_ (some 495) rfl rfl Tryz.func31 (by kernel_rfl) rfl #[.int .i64 (wrap64 (AN)), .int .i64 (wrap64 (1 + BR))] rfl gl_ ?_; (with_reducible refine (spec_EvenRope.calls EW (wrap64 (AN)) (wrap64 (1 + BR)) Bh A4 GV _ PN.out).mono ?_); rintro e TU ⟨TZ, rfl, Ay, hb⟩; refine ⟨_, rfl, ?_⟩; have B8 := ak (Kd.R_lower (Kd.R_new' (Kd.R_new' (Kd.R_new' Ay (Kd.R_lt (by (with_reducible repeat (first | apply Kd.R_alloc | apply Kd.R_drewN | apply Kd.R_drew)); exact (Kd.R_mono (Kd.R_far (p := ⟨BE, 1, none⟩) (Kd.R_far (p := ⟨BE, 0, none⟩) (Kd.R_types AA.out Ak.out (by decide)) (fun _ hk => hk.2) (.int .i16 CQ)) (fun _ hk => hk.2) (.slice BG Bb.length A5)) (fun _ h_ => h_.1))))) (Kd.R_lt (by (with_reducible repeat (first | apply Kd.R_alloc | apply Kd.R_drewN | apply Kd.R_drew)); exact (Kd.R_mono (Kd.R_far (p := ⟨BE, 1, none⟩) (Kd.R_far (p := ⟨BE, 0, none⟩) (Kd.R_types AB.out Ak.out (by decide)) (fun _ hk => hk.2) (.int .i16 CQ)) (fun _ hk => hk.2) (.slice BG Bb.length A5)) (fun _ h_ => h_.1))))) (Kd.R_lt (by (with_reducible repeat (first | apply Kd.R_alloc | apply Kd.R_drewN | apply Kd.R_drew)); exact (Kd.R_mono (Kd.R_far (p := ⟨BE, 1, none⟩) (Kd.R_far (p := ⟨BE, 0, none⟩) (Kd.R_types Bf.out Ak.out (by decide)) (fun _ hk => hk.2) (.int .i16 CQ)) (fun _ hk => hk.2) (.slice BG Bb.length A5)) (fun _ h_ => h_.1))))) (below_size (zH4 HB AG AH AT Bl))); replace AA := ak (Kd.R_elder' (by (with_reducible repeat (first | apply Kd.R_alloc | apply Kd.R_drewN | apply Kd.R_drew)); exact (Kd.R_mono (Kd.R_far (p := ⟨BE, 1, none⟩) (Kd.R_far (p := ⟨BE, 0, none⟩) (Kd.R_types AA.out Ak.out (by decide)) (fun _ hk => hk.2) (.int .i16 CQ)) (fun _ hk => hk.2) (.slice BG Bb.length A5)) (fun _ h_ => h_.1))) (Kd.R_base Ay) hb); replace AB := ak (Kd.R_elder' (by (with_reducible repeat (first | apply Kd.R_alloc | apply Kd.R_drewN | apply Kd.R_drew)); exact (Kd.R_mono (Kd.R_far (p := ⟨BE, 1, none⟩) (Kd.R_far (p := ⟨BE, 0, none⟩) (Kd.R_types AB.out Ak.out (by decide)) (fun _ hk => hk.2) (.int .i16 CQ)) (fun _ hk => hk.2) (.slice BG Bb.length A5)) (fun _ h_ => h_.1))) (Kd.R_base Ay) hb); replace Bf := ak (Kd.R_elder' (by (with_reducible repeat (first | apply Kd.R_alloc | apply Kd.R_drewN | apply Kd.R_drew)); exact (Kd.R_mono (Kd.R_far (p := ⟨BE, 1, none⟩) (Kd.R_far (p := ⟨BE, 0, none⟩) (Kd.R_types Bf.out Ak.out (by decide)) (fun _ hk => hk.2) (.int .i16 CQ)) (fun _ hk => hk.2) (.slice BG Bb.length A5)) (fun _ h_ => h_.1))) (Kd.R_base Ay) hb); replace AD := ak (blk_below (g := 0) (o := .cells #[.int .i64 Ag] 3 (0, 0)) (by (with_reducible repeat (first | refine blk_drewN ?_ _ | refine blk_drew ?_ | refine blk_alloc ?_ _)); refine blk_far ?_ CB.out _; (with_reducible repeat (first | refine blk_drewN ?_ _ | refine blk_drew ?_ | refine blk_alloc ?_ _)); refine blk_far ?_ CB.out _; (with_reducible repeat (first | refine blk_drewN ?_ _ | refine blk_drew ?_ | refine blk_alloc ?_ _)); exact AD.out) hb); replace AC := ak (blk_below (g := AQ) (o := .cells #[.int .i16 AN, .slice (some AM) AF.length AO] 27 (0, 0)) (by (with_reducible repeat (first | refine blk_drewN ?_ _ | refine blk_drew ?_ | refine blk_alloc ?_ _)); refine blk_far ?_ CC.out _; (with_reducible repeat (first | refine blk_drewN ?_ _ | refine blk_drew ?_ | refine blk_alloc ?_ _)); refine blk_far ?_ CC.out _; (with_reducible repeat (first | refine blk_drewN ?_ _ | refine blk_drew ?_ | refine blk_alloc ?_ _)); exact AC.out) hb); replace AE := ak (blk_below (g := Ai) (o := .cells #[.int .i16 BW, .slice AX AR.length AZ] 27 (0, 0)) (by (with_reducible repeat (first | refine blk_drewN ?_ _ | refine blk_drew ?_ | refine blk_alloc ?_ _)); refine blk_far ?_ B7.out _; (with_reducible repeat (first | refine blk_drewN ?_ _ | refine blk_drew ?_ | refine blk_alloc ?_ _)); refine blk_far ?_ B7.out _; (with_reducible repeat (first | refine blk_drewN ?_ _ | refine blk_drew ?_ | refine blk_alloc ?_ _)); exact AE.out) hb); replace AJ := ak (blk_below (g := AK) (o := .cells #[.int .i16 (IntKind.i16.wrap (Av)), .int .i8 (IntKind.i8.wrap (Aw))] 52 (0, 0)) (by (with_reducible repeat (first | refine blk_drewN ?_ _ | refine blk_drew ?_ | refine blk_alloc ?_ _)); refine blk_far ?_ B4.out _; (with_reducible repeat (first | refine blk_drewN ?_ _ | refine blk_drew ?_ | refine blk_alloc ?_ _)); refine blk_far ?_ B4.out _; (with_reducible repeat (first | refine blk_drewN ?_ _ | refine blk_drew ?_ | refine blk_alloc ?_ _)); exact AJ.out) hb); replace Ak := ak (blk_below (g := BE) (o := .cells #[.int .i16 CQ, .slice BG Bb.length A5] 27 (0, 0)) (by (with_reducible repeat (first | refine blk_drewN ?_ _ | refine blk_drew ?_ | refine blk_alloc ?_ _)); refine blk_put (cs := #[.int .i16 CQ, .slice none 0 0]) ?_ 1 _ rfl; (with_reducible repeat (first | refine blk_drewN ?_ _ | refine blk_drew ?_ | refine blk_alloc ?_ _)); refine blk_put (cs := #[.int .i16 0, .slice none 0 0]) ?_ 0 _ rfl; (with_reducible repeat (first | refine blk_drewN ?_ _ | refine blk_drew ?_ | refine blk_alloc ?_ _)); exact Ak.out) hb); replace HB := ak (below_step (zH4 HB AG AH AT Bl) hb); (try clear hb); (try clear hk); (try clear Ay)) | ((with_reducible refine gate_dst (N := 53) rfl ?_); (try (refine gate_guard (by rfl) ?_; dsimp only)); refine box_event ?hg (N := 53) ?hd (cs := #[.int .i16 0, .slice none 0 0]) (t := 27) ?hr ?_; (case hd => rfl); (case hg => rfl); (case hr => first | (go_simp; done) | (go_simp; rfl)); intro Af hg ED hbox hb; have Aa := ak (hbox); have SB := ak ((by rw [hg]; exact (below_size (zH4 HB AG AH AT Bl)) : w.heap.size ≤ Af)); have CW := ak ((by rw [hg]; exact (below_size (zH4 HB AG AH AT Bl)) : w.heap.size ≤ Af)); have BL := nL AD hg; have B2 := nG AD hg; have BI := nL AC hg; have B9 := nG AC hg; have BJ := nL AE hg; have B5 := nG AE hg; have BM := nL AJ hg; have B3 := nG AJ hg; have BN := nL Ak hg; have B6 := nG Ak hg; replace AA := kR AA hb; replace AB := kR AB hb; replace Bf := kR Bf hb; replace B8 := kR B8 hb; replace AD := kK AD hb; replace AC := kK AC hb; replace AE := kK AE hb; replace AJ := kK AJ hb; replace Ak := kK Ak hb; replace HB := ak (below_step (zH4 HB AG AH AT Bl) hb); clear hb hbox hg; have Qt := B2.out; have NV := BL.out; have Pa := B9.out; have Nk := BI.out; have PD := B5.out; have Ng := BJ.out; have QZ := B3.out; have Qn := BM.out; have QY := B6.out; have Pt := BN.out; obtain ⟨EL, EZ, Et, Ey⟩ := cz2 ED Aa; obtain ⟨Au, An, Le⟩ := Kd.R_slice B8.out; subst Le))
 (try simp only [Act.put, zs, zz, zk])
 refine wp_cutM 3773962424821541352241554580988268890916921220416440428376206300245624162392148852086126725177658767541468375030763844899770584629924792632561434251432407813273243615232 (fun (u : Nat → Value) wc => ∃ (kq : Nat) (Cs : Bool), u 514 = .bool Cs ∧ Aside0 (laws_FnRopes.j10 kq (wrap64 (1 + BR)) CH Cs Bh A4 = some r) ∧ Aside0 (kq ≤ EW) ∧ Aside0 (Kd.R (Kd.int .i16) 24 wc w.heap.size (fun k_ => some k_ ≠ ((.slice AX AR.length AZ) : Value).ownBlock ∧ some k_ ≠ ((.slice BG Bb.length A5) : Value).ownBlock ∧ some k_ ≠ ((.slice Au A4.length An) : Value).ownBlock) (.slice (some AM) AF.length AO) AF) ∧ Aside0 (Kd.R (Kd.int .i16) 24 wc w.heap.size (fun k_ => some k_ ≠ ((.slice (some AM) AF.length AO) : Value).ownBlock ∧ some k_ ≠ ((.slice BG Bb.length A5) : Value).ownBlock ∧ some k_ ≠ ((.slice Au A4.length An) : Value).ownBlock) (.slice AX AR.length AZ) AR) ∧ Aside0 (Kd.R (Kd.int .i16) 24 wc w.heap.size (fun k_ => some k_ ≠ ((.slice (some AM) AF.length AO) : Value).ownBlock ∧ some k_ ≠ ((.slice AX AR.length AZ) : Value).ownBlock ∧ some k_ ≠ ((.slice Au A4.length An) : Value).ownBlock) (.slice BG Bb.length A5) Bb) ∧ Aside0 (Kd.R (Kd.int .i16) 24 wc w.heap.size (fun k_ => some k_ ≠ ((.slice (some AM) AF.length AO) : Value).ownBlock ∧ some k_ ≠ ((.slice AX AR.length AZ) : Value).ownBlock ∧ some k_ ≠ ((.slice BG Bb.length A5) : Value).ownBlock) (.slice Au A4.length An) A4) ∧ Aside0 (wc.heap[0]? = some (.cells #[.int .i64 Ag] 3 (0, 0))) ∧ Aside0 (wc.heap[AQ]? = some (.cells #[.int .i16 AN, (.slice (some AM) AF.length AO)] 27 (0, 0))) ∧ Aside0 (wc.heap[Ai]? = some (.cells #[.int .i16 BW, (.slice AX AR.length AZ)] 27 (0, 0))) ∧ Aside0 (wc.heap[AK]? = some (.cells #[.int .i16 (IntKind.i16.wrap (Av)), .int .i8 (IntKind.i8.wrap (Aw))] 52 (0, 0))) ∧ Aside0 (wc.heap[BE]? = some (.cells #[.int .i16 CQ, (.slice BG Bb.length A5)] 27 (0, 0))) ∧ Aside0 (wc.heap[Af]? = some (.cells #[.int .i16 Bh, (.slice Au A4.length An)] 27 (0, 0))) ∧ Aside0 (Below w.heap.size w wc)) ?first ?rest
 case first => (
 intro J_ K_ Hq hK_
 have H := Gm.out
 clear Gm
 by_cases Fd : CH = GV
 {
 rw [if_pos Fd] at H
 have Dp : (CH == GV) = true := beq_iff_eq.mpr Fd
 have IW : (CH != GV) = false := bne_eq_false_iff_eq.mpr Fd
 clear Fd
 (first | rw [Dp] | (simp only [i64_w, i32_w]; rw [Dp]) | skip)
 replace H := Option.bind_eq_some_iff.mp H
 obtain ⟨Pi, H1, H⟩ := H
 have Kb := ak H1
 clear H1
 by_cases HW : Pi = true
 {
 subst HW
 rw [if_pos rfl] at H
 by_cases Fk : CH = 0
 {
 rw [if_pos Fk] at H
 have IE : (CH == 0) = true := beq_iff_eq.mpr Fk
 have Jd : (CH != 0) = false := bne_eq_false_iff_eq.mpr Fk
 clear Fk
 have H' := ak H
 clear H
 have PV := C1.out
 have PT := CB.out
 have P6 := DC.out
 have OP := CC.out
 have Pm := DH.out
 have OE := B7.out
 have Ns := Cy.out
 have QO := B4.out
 have PS := BN.out
 have PX := B6.out
 have MW : ED.cell? ⟨BE, 0, none⟩ = some (.int .i16 CQ) := (blk_cell Ak.out 0).trans rfl
 have Ma : ED.cell? ⟨BE, 1, none⟩ = some (.slice BG Bb.length A5) := (blk_cell Ak.out 1).trans rfl
 have J7 := blk_frozen Ak.out 0
 have Kr := blk_frozen Ak.out 1
 have Oy := B2.out
 have Po := BL.out
 have Nt := B9.out
 have Og := BI.out
 have Ow := B5.out
 have OJ := BJ.out
 have Qw := B3.out
 have P7 := BM.out
 have LI : ED.cell? ⟨Af, 0, none⟩ = some (.int .i16 0) := (blk_cell Aa.out 0).trans rfl
 have MU : ED.cell? ⟨Af, 1, none⟩ = some (.slice none 0 0) := (blk_cell Aa.out 1).trans rfl
 have Km := blk_frozen Aa.out 0
 have K2 := blk_frozen Aa.out 1
 go_wp2_with (first | (go_at_call 11; (with_reducible refine (spec_SameRope.calls EW CQ _ _ Bb Bh _ _ A4 true _ ?side1 ?side2 ?side3 ?side4 Kb.out).mono ?_); (case side1 => refine (Kd.R_reads' (e := 24) (base := w.heap.size) (ok := fun k_ => (((True ∧ some k_ ≠ (.slice (some AM) AF.length AO : Value).ownBlock) ∧ some k_ ≠ (.slice AX AR.length AZ : Value).ownBlock) ∧ some k_ ≠ (.slice Au A4.length An : Value).ownBlock)) (n := Bb.length) (c := A5) ?_).2.2; exact (by (with_reducible repeat (first | apply Kd.R_alloc | apply Kd.R_drewN | apply Kd.R_drew)); exact (Kd.R_mono (Kd.R_far (p := ⟨Af, 1, none⟩) (Kd.R_far (p := ⟨Af, 0, none⟩) (Kd.R_types Bf.out Aa.out (by decide)) (fun _ hk => hk.2) (.int .i16 Bh)) (fun _ hk => hk.2) (.slice Au A4.length An)) (fun _ h_ => h_.1)))); (case side2 => exact sL Bf); (case side3 => refine (Kd.R_reads' (e := 24) (base := w.heap.size) (ok := fun k_ => (((True ∧ some k_ ≠ (.slice (some AM) AF.length AO : Value).ownBlock) ∧ some k_ ≠ (.slice AX AR.length AZ : Value).ownBlock) ∧ some k_ ≠ (.slice BG Bb.length A5 : Value).ownBlock)) (n := A4.length) (c := An) ?_).2.2; exact (by (with_reducible repeat (first | apply Kd.R_alloc | apply Kd.R_drewN | apply Kd.R_drew)); exact (Kd.R_mono (Kd.R_far (p := ⟨Af, 1, none⟩) (Kd.R_far (p := ⟨Af, 0, none⟩) (Kd.R_types B8.out Aa.out (by decide)) (fun _ hk => hk.2) (.int .i16 Bh)) (fun _ hk => hk.2) (.slice Au A4.length An)) (fun _ h_ => h_.1)))); (case side4 => exact sL B8); rintro e Se ⟨rfl, hb⟩; replace AA := ak (Kd.R_below (by (with_reducible repeat (first | apply Kd.R_alloc | apply Kd.R_drewN | apply Kd.R_drew)); exact (Kd.R_mono (Kd.R_far (p := ⟨Af, 1, none⟩) (Kd.R_far (p := ⟨Af, 0, none⟩) (Kd.R_types AA.out Aa.out (by decide)) (fun _ hk => hk.2) (.int .i16 Bh)) (fun _ hk => hk.2) (.slice Au A4.length An)) (fun _ h_ => h_.1))) hb); replace AB := ak (Kd.R_below (by (with_reducible repeat (first | apply Kd.R_alloc | apply Kd.R_drewN | apply Kd.R_drew)); exact (Kd.R_mono (Kd.R_far (p := ⟨Af, 1, none⟩) (Kd.R_far (p := ⟨Af, 0, none⟩) (Kd.R_types AB.out Aa.out (by decide)) (fun _ hk => hk.2) (.int .i16 Bh)) (fun _ hk => hk.2) (.slice Au A4.length An)) (fun _ h_ => h_.1))) hb); replace Bf := ak (Kd.R_below (by (with_reducible repeat (first | apply Kd.R_alloc | apply Kd.R_drewN | apply Kd.R_drew)); exact (Kd.R_mono (Kd.R_far (p := ⟨Af, 1, none⟩) (Kd.R_far (p := ⟨Af, 0, none⟩) (Kd.R_types Bf.out Aa.out (by decide)) (fun _ hk => hk.2) (.int .i16 Bh)) (fun _ hk => hk.2) (.slice Au A4.length An)) (fun _ h_ => h_.1))) hb); replace B8 := ak (Kd.R_below (by (with_reducible repeat (first | apply Kd.R_alloc | apply Kd.R_drewN | apply Kd.R_drew)); exact (Kd.R_mono (Kd.R_far (p := ⟨Af, 1, none⟩) (Kd.R_far (p := ⟨Af, 0, none⟩) (Kd.R_types B8.out Aa.out (by decide)) (fun _ hk => hk.2) (.int .i16 Bh)) (fun _ hk => hk.2) (.slice Au A4.length An)) (fun _ h_ => h_.1))) hb); replace AD := ak (blk_below (g := 0) (o := .cells #[.int .i64 Ag] 3 (0, 0)) (by (with_reducible repeat (first | refine blk_drewN ?_ _ | refine blk_drew ?_ | refine blk_alloc ?_ _)); refine blk_far ?_ BL.out _; (with_reducible repeat (first | refine blk_drewN ?_ _ | refine blk_drew ?_ | refine blk_alloc ?_ _)); refine blk_far ?_ BL.out _; (with_reducible repeat (first | refine blk_drewN ?_ _ | refine blk_drew ?_ | refine blk_alloc ?_ _)); exact AD.out) hb); replace AC := ak (blk_below (g := AQ) (o := .cells #[.int .i16 AN, .slice (some AM) AF.length AO] 27 (0, 0)) (by (with_reducible repeat (first | refine blk_drewN ?_ _ | refine blk_drew ?_ | refine blk_alloc ?_ _)); refine blk_far ?_ BI.out _; (with_reducible repeat (first | refine blk_drewN ?_ _ | refine blk_drew ?_ | refine blk_alloc ?_ _)); refine blk_far ?_ BI.out _; (with_reducible repeat (first | refine blk_drewN ?_ _ | refine blk_drew ?_ | refine blk_alloc ?_ _)); exact AC.out) hb); replace AE := ak (blk_below (g := Ai) (o := .cells #[.int .i16 BW, .slice AX AR.length AZ] 27 (0, 0)) (by (with_reducible repeat (first | refine blk_drewN ?_ _ | refine blk_drew ?_ | refine blk_alloc ?_ _)); refine blk_far ?_ BJ.out _; (with_reducible repeat (first | refine blk_drewN ?_ _ | refine blk_drew ?_ | refine blk_alloc ?_ _)); refine blk_far ?_ BJ.out _; (with_reducible repeat (first | refine blk_drewN ?_ _ | refine blk_drew ?_ | refine blk_alloc ?_ _)); exact AE.out) hb); replace AJ := ak (blk_below (g := AK) (o := .cells #[.int .i16 (IntKind.i16.wrap (Av)), .int .i8 (IntKind.i8.wrap (Aw))] 52 (0, 0)) (by (with_reducible repeat (first | refine blk_drewN ?_ _ | refine blk_drew ?_ | refine blk_alloc ?_ _)); refine blk_far ?_ BM.out _; (with_reducible repeat (first | refine blk_drewN ?_ _ | refine blk_drew ?_ | refine blk_alloc ?_ _)); refine blk_far ?_ BM.out _; (with_reducible repeat (first | refine blk_drewN ?_ _ | refine blk_drew ?_ | refine blk_alloc ?_ _)); exact AJ.out) hb); replace Ak := ak (blk_below (g := BE) (o := .cells #[.int .i16 CQ, .slice BG Bb.length A5] 27 (0, 0)) (by (with_reducible repeat (first | refine blk_drewN ?_ _ | refine blk_drew ?_ | refine blk_alloc ?_ _)); refine blk_far ?_ BN.out _; (with_reducible repeat (first | refine blk_drewN ?_ _ | refine blk_drew ?_ | refine blk_alloc ?_ _)); refine blk_far ?_ BN.out _; (with_reducible repeat (first | refine blk_drewN ?_ _ | refine blk_drew ?_ | refine blk_alloc ?_ _)); exact Ak.out) hb); replace Aa := ak (blk_below (g := Af) (o := .cells #[.int .i16 Bh, .slice Au A4.length An] 27 (0, 0)) (by (with_reducible repeat (first | refine blk_drewN ?_ _ | refine blk_drew ?_ | refine blk_alloc ?_ _)); refine blk_put (cs := #[.int .i16 Bh, .slice none 0 0]) ?_ 1 _ rfl; (with_reducible repeat (first | refine blk_drewN ?_ _ | refine blk_drew ?_ | refine blk_alloc ?_ _)); refine blk_put (cs := #[.int .i16 0, .slice none 0 0]) ?_ 0 _ rfl; (with_reducible repeat (first | refine blk_drewN ?_ _ | refine blk_drew ?_ | refine blk_alloc ?_ _)); exact Aa.out) hb); replace HB := ak (below_step (zH5 HB AG AH AT Bl CW) hb); (try clear hb); (try clear hk)))
 refine meetM Hq (by kernel_rfl) ?rel
 case rel => dsimp only [List.getD_cons_succ, List.getD_cons_zero]; exact ⟨_, (false), (by first | rfl | (simp; done) | (simp [*]; done)), H', ⟨by have := DO.out; have := Bx.out; have := Du.out; have := BY.out; have := D4.out; have := Bw.out; have := FK.out; have := CF.out; have := D9.out; first | omega | exact Nat.le_refl _⟩, ⟨by (with_reducible repeat (first | apply Kd.R_alloc | apply Kd.R_drewN | apply Kd.R_drew)); exact Kd.R_mono AA.out (fun _ hk => ⟨hk.1.1, ⟨hk.1.2, hk.2⟩⟩)⟩, ⟨by (with_reducible repeat (first | apply Kd.R_alloc | apply Kd.R_drewN | apply Kd.R_drew)); exact Kd.R_mono AB.out (fun _ hk => ⟨hk.1.1, ⟨hk.1.2, hk.2⟩⟩)⟩, ⟨by (with_reducible repeat (first | apply Kd.R_alloc | apply Kd.R_drewN | apply Kd.R_drew)); exact Kd.R_mono Bf.out (fun _ hk => ⟨hk.1.1.2, ⟨hk.1.2, hk.2⟩⟩)⟩, ⟨by (with_reducible repeat (first | apply Kd.R_alloc | apply Kd.R_drewN | apply Kd.R_drew)); exact Kd.R_mono B8.out (fun _ hk => ⟨hk.1.1.2, ⟨hk.1.2, hk.2⟩⟩)⟩, ⟨(zK AD.out)⟩, ⟨(zK AC.out)⟩, ⟨(zK AE.out)⟩, ⟨(zK AJ.out)⟩, ⟨(zK Ak.out)⟩, ⟨(zK Aa.out)⟩, ⟨zH5 HB AG AH AT Bl CW⟩⟩
 }
 {
 rw [if_neg Fk] at H
 have IE : (CH == 0) = false := beq_eq_false_iff_ne.mpr Fk
 have Jd : (CH != 0) = true := bne_iff_ne.mpr Fk
 have H' := ak H
 clear H
 have OW := C1.out
 have P0 := CB.out
 have O4 := DC.out
 have PG := CC.out
 have Py := DH.out
 have OM := B7.out
 have Pf := Cy.out
 have PA := B4.out
 have OO := BN.out
 have OH := B6.out
 have Js : ED.cell? ⟨BE, 0, none⟩ = some (.int .i16 CQ) := (blk_cell Ak.out 0).trans rfl
 have Jh : ED.cell? ⟨BE, 1, none⟩ = some (.slice BG Bb.length A5) := (blk_cell Ak.out 1).trans rfl
 have KI := blk_frozen Ak.out 0
 have Jq := blk_frozen Ak.out 1
 have Pe := B2.out
 have QE := BL.out
 have ON := B9.out
 have N8 := BI.out
 have Oc := B5.out
 have Px := BJ.out
 have PZ := B3.out
 have Om := BM.out
 have MK : ED.cell? ⟨Af, 0, none⟩ = some (.int .i16 0) := (blk_cell Aa.out 0).trans rfl
 have J9 : ED.cell? ⟨Af, 1, none⟩ = some (.slice none 0 0) := (blk_cell Aa.out 1).trans rfl
 have Mq := blk_frozen Aa.out 0
 have KR := blk_frozen Aa.out 1
 go_wp2_with (first | (go_at_call 11; (with_reducible refine (spec_SameRope.calls EW CQ _ _ Bb Bh _ _ A4 true _ ?side1 ?side2 ?side3 ?side4 Kb.out).mono ?_); (case side1 => refine (Kd.R_reads' (e := 24) (base := w.heap.size) (ok := fun k_ => (((True ∧ some k_ ≠ (.slice (some AM) AF.length AO : Value).ownBlock) ∧ some k_ ≠ (.slice AX AR.length AZ : Value).ownBlock) ∧ some k_ ≠ (.slice Au A4.length An : Value).ownBlock)) (n := Bb.length) (c := A5) ?_).2.2; exact (by (with_reducible repeat (first | apply Kd.R_alloc | apply Kd.R_drewN | apply Kd.R_drew)); exact (Kd.R_mono (Kd.R_far (p := ⟨Af, 1, none⟩) (Kd.R_far (p := ⟨Af, 0, none⟩) (Kd.R_types Bf.out Aa.out (by decide)) (fun _ hk => hk.2) (.int .i16 Bh)) (fun _ hk => hk.2) (.slice Au A4.length An)) (fun _ h_ => h_.1)))); (case side2 => exact sL Bf); (case side3 => refine (Kd.R_reads' (e := 24) (base := w.heap.size) (ok := fun k_ => (((True ∧ some k_ ≠ (.slice (some AM) AF.length AO : Value).ownBlock) ∧ some k_ ≠ (.slice AX AR.length AZ : Value).ownBlock) ∧ some k_ ≠ (.slice BG Bb.length A5 : Value).ownBlock)) (n := A4.length) (c := An) ?_).2.2; exact (by (with_reducible repeat (first | apply Kd.R_alloc | apply Kd.R_drewN | apply Kd.R_drew)); exact (Kd.R_mono (Kd.R_far (p := ⟨Af, 1, none⟩) (Kd.R_far (p := ⟨Af, 0, none⟩) (Kd.R_types B8.out Aa.out (by decide)) (fun _ hk => hk.2) (.int .i16 Bh)) (fun _ hk => hk.2) (.slice Au A4.length An)) (fun _ h_ => h_.1)))); (case side4 => exact sL B8); rintro e Sz ⟨rfl, hb⟩; replace AA := ak (Kd.R_below (by (with_reducible repeat (first | apply Kd.R_alloc | apply Kd.R_drewN | apply Kd.R_drew)); exact (Kd.R_mono (Kd.R_far (p := ⟨Af, 1, none⟩) (Kd.R_far (p := ⟨Af, 0, none⟩) (Kd.R_types AA.out Aa.out (by decide)) (fun _ hk => hk.2) (.int .i16 Bh)) (fun _ hk => hk.2) (.slice Au A4.length An)) (fun _ h_ => h_.1))) hb); replace AB := ak (Kd.R_below (by (with_reducible repeat (first | apply Kd.R_alloc | apply Kd.R_drewN | apply Kd.R_drew)); exact (Kd.R_mono (Kd.R_far (p := ⟨Af, 1, none⟩) (Kd.R_far (p := ⟨Af, 0, none⟩) (Kd.R_types AB.out Aa.out (by decide)) (fun _ hk => hk.2) (.int .i16 Bh)) (fun _ hk => hk.2) (.slice Au A4.length An)) (fun _ h_ => h_.1))) hb); replace Bf := ak (Kd.R_below (by (with_reducible repeat (first | apply Kd.R_alloc | apply Kd.R_drewN | apply Kd.R_drew)); exact (Kd.R_mono (Kd.R_far (p := ⟨Af, 1, none⟩) (Kd.R_far (p := ⟨Af, 0, none⟩) (Kd.R_types Bf.out Aa.out (by decide)) (fun _ hk => hk.2) (.int .i16 Bh)) (fun _ hk => hk.2) (.slice Au A4.length An)) (fun _ h_ => h_.1))) hb); replace B8 := ak (Kd.R_below (by (with_reducible repeat (first | apply Kd.R_alloc | apply Kd.R_drewN | apply Kd.R_drew)); exact (Kd.R_mono (Kd.R_far (p := ⟨Af, 1, none⟩) (Kd.R_far (p := ⟨Af, 0, none⟩) (Kd.R_types B8.out Aa.out (by decide)) (fun _ hk => hk.2) (.int .i16 Bh)) (fun _ hk => hk.2) (.slice Au A4.length An)) (fun _ h_ => h_.1))) hb); replace AD := ak (blk_below (g := 0) (o := .cells #[.int .i64 Ag] 3 (0, 0)) (by (with_reducible repeat (first | refine blk_drewN ?_ _ | refine blk_drew ?_ | refine blk_alloc ?_ _)); refine blk_far ?_ BL.out _; (with_reducible repeat (first | refine blk_drewN ?_ _ | refine blk_drew ?_ | refine blk_alloc ?_ _)); refine blk_far ?_ BL.out _; (with_reducible repeat (first | refine blk_drewN ?_ _ | refine blk_drew ?_ | refine blk_alloc ?_ _)); exact AD.out) hb); replace AC := ak (blk_below (g := AQ) (o := .cells #[.int .i16 AN, .slice (some AM) AF.length AO] 27 (0, 0)) (by (with_reducible repeat (first | refine blk_drewN ?_ _ | refine blk_drew ?_ | refine blk_alloc ?_ _)); refine blk_far ?_ BI.out _; (with_reducible repeat (first | refine blk_drewN ?_ _ | refine blk_drew ?_ | refine blk_alloc ?_ _)); refine blk_far ?_ BI.out _; (with_reducible repeat (first | refine blk_drewN ?_ _ | refine blk_drew ?_ | refine blk_alloc ?_ _)); exact AC.out) hb); replace AE := ak (blk_below (g := Ai) (o := .cells #[.int .i16 BW, .slice AX AR.length AZ] 27 (0, 0)) (by (with_reducible repeat (first | refine blk_drewN ?_ _ | refine blk_drew ?_ | refine blk_alloc ?_ _)); refine blk_far ?_ BJ.out _; (with_reducible repeat (first | refine blk_drewN ?_ _ | refine blk_drew ?_ | refine blk_alloc ?_ _)); refine blk_far ?_ BJ.out _; (with_reducible repeat (first | refine blk_drewN ?_ _ | refine blk_drew ?_ | refine blk_alloc ?_ _)); exact AE.out) hb); replace AJ := ak (blk_below (g := AK) (o := .cells #[.int .i16 (IntKind.i16.wrap (Av)), .int .i8 (IntKind.i8.wrap (Aw))] 52 (0, 0)) (by (with_reducible repeat (first | refine blk_drewN ?_ _ | refine blk_drew ?_ | refine blk_alloc ?_ _)); refine blk_far ?_ BM.out _; (with_reducible repeat (first | refine blk_drewN ?_ _ | refine blk_drew ?_ | refine blk_alloc ?_ _)); refine blk_far ?_ BM.out _; (with_reducible repeat (first | refine blk_drewN ?_ _ | refine blk_drew ?_ | refine blk_alloc ?_ _)); exact AJ.out) hb); replace Ak := ak (blk_below (g := BE) (o := .cells #[.int .i16 CQ, .slice BG Bb.length A5] 27 (0, 0)) (by (with_reducible repeat (first | refine blk_drewN ?_ _ | refine blk_drew ?_ | refine blk_alloc ?_ _)); refine blk_far ?_ BN.out _; (with_reducible repeat (first | refine blk_drewN ?_ _ | refine blk_drew ?_ | refine blk_alloc ?_ _)); refine blk_far ?_ BN.out _; (with_reducible repeat (first | refine blk_drewN ?_ _ | refine blk_drew ?_ | refine blk_alloc ?_ _)); exact Ak.out) hb); replace Aa := ak (blk_below (g := Af) (o := .cells #[.int .i16 Bh, .slice Au A4.length An] 27 (0, 0)) (by (with_reducible repeat (first | refine blk_drewN ?_ _ | refine blk_drew ?_ | refine blk_alloc ?_ _)); refine blk_put (cs := #[.int .i16 Bh, .slice none 0 0]) ?_ 1 _ rfl; (with_reducible repeat (first | refine blk_drewN ?_ _ | refine blk_drew ?_ | refine blk_alloc ?_ _)); refine blk_put (cs := #[.int .i16 0, .slice none 0 0]) ?_ 0 _ rfl; (with_reducible repeat (first | refine blk_drewN ?_ _ | refine blk_drew ?_ | refine blk_alloc ?_ _)); exact Aa.out) hb); replace HB := ak (below_step (zH5 HB AG AH AT Bl CW) hb); (try clear hb); (try clear hk)))
 refine meetM Hq (by kernel_rfl) ?rel
 case rel => dsimp only [List.getD_cons_succ, List.getD_cons_zero]; exact ⟨_, ((CH != 3)), (by first | rfl | (simp; done) | (simp [*]; done)), H', ⟨by have := DO.out; have := Bx.out; have := Du.out; have := BY.out; have := D4.out; have := Bw.out; have := FK.out; have := CF.out; have := D9.out; first | omega | exact Nat.le_refl _⟩, ⟨by (with_reducible repeat (first | apply Kd.R_alloc | apply Kd.R_drewN | apply Kd.R_drew)); exact Kd.R_mono AA.out (fun _ hk => ⟨hk.1.1, ⟨hk.1.2, hk.2⟩⟩)⟩, ⟨by (with_reducible repeat (first | apply Kd.R_alloc | apply Kd.R_drewN | apply Kd.R_drew)); exact Kd.R_mono AB.out (fun _ hk => ⟨hk.1.1, ⟨hk.1.2, hk.2⟩⟩)⟩, ⟨by (with_reducible repeat (first | apply Kd.R_alloc | apply Kd.R_drewN | apply Kd.R_drew)); exact Kd.R_mono Bf.out (fun _ hk => ⟨hk.1.1.2, ⟨hk.1.2, hk.2⟩⟩)⟩, ⟨by (with_reducible repeat (first | apply Kd.R_alloc | apply Kd.R_drewN | apply Kd.R_drew)); exact Kd.R_mono B8.out (fun _ hk => ⟨hk.1.1.2, ⟨hk.1.2, hk.2⟩⟩)⟩, ⟨(zK AD.out)⟩, ⟨(zK AC.out)⟩, ⟨(zK AE.out)⟩, ⟨(zK AJ.out)⟩, ⟨(zK Ak.out)⟩, ⟨(zK Aa.out)⟩, ⟨zH5 HB AG AH AT Bl CW⟩⟩
 }
 }
 {
 replace HW := Bool.eq_false_iff.mpr HW
 subst HW
 rw [if_neg (show ¬ (false = true) by decide)] at H
 exact (laws_FnRopes.n10 H HT).elim
 }
 }
 {
 rw [if_neg Fd] at H
 have Dp : (CH == GV) = false := beq_eq_false_iff_ne.mpr Fd
 have IW : (CH != GV) = true := bne_iff_ne.mpr Fd
 (first | rw [Dp] | (simp only [i64_w, i32_w]; rw [Dp]) | skip)
 exact (laws_FnRopes.n10 H HT).elim
 }
 )
 case rest => (
 as_aux_lemma =>
 intro Sb wc hcut
 dsimp only [frU, cond, Nat.reduceMod, Nat.reduceDiv, Nat.reduceAdd, Nat.reduceBEq, Nat.reduceEqDiff, beq_self_eq_true]
 clear Gm
 try clear c1
 try clear E0
 try clear CP
 try clear CL
 try clear CM
 try clear Ca
 try clear CV
 try clear CT
 try clear CK
 try clear CN
 try clear EG
 try clear Er
 try clear Eh
 try clear Eg
 try clear ET
 try clear Ee
 try clear EL
 try clear EZ
 try clear CY
 try clear CS
 try clear CO
 try clear CU
 try clear Cc
 try clear CR
 try clear Cd
 try clear CX
 try clear E9
 try clear EQ
 try clear E5
 try clear Es
 try clear Ec
 try clear ER
 try clear Et
 try clear Ey
 obtain ⟨kq, Cs, E8, HA, Ft, AA, AB, Bn, Ba, AD, AC, AE, AJ, Ak, Aa, HB⟩ := hcut
 rw [E8]
 clear E8
 cases kq with
 | zero => exact absurd HA.out (by simp [laws_FnRopes.j10])
 | succ Gn => (
 have H := HA.out
 clear HA
 simp only [laws_FnRopes.j10] at H
 by_cases Gq : Cs = true
 {
 subst Gq
 rw [if_pos rfl] at H
 exact absurd ((Option.some.inj H).trans HT.out) (by decide)
 }
 {
 replace Gq := Bool.eq_false_iff.mpr Gq
 subst Gq
 rw [if_neg (show ¬ (false = true) by decide)] at H
 by_cases Ex : CH = 0
 {
 rw [if_pos Ex] at H
 have G4 : (CH == 0) = true := beq_iff_eq.mpr Ex
 have G3 : (CH != 0) = false := bne_eq_false_iff_eq.mpr Ex
 clear Ex
 replace H := Option.bind_eq_some_iff.mp H
 obtain ⟨⟨At, FO⟩, Hk, H⟩ := H
 have Pj := ak Hk
 clear Hk
 have H' := ak H
 clear H
 have O2 := B2.out
 have Qg := BL.out
 have Pl := B9.out
 have QV := BI.out
 have RA := B5.out
 have Ql := BJ.out
 have N1 := B3.out
 have Qz := BM.out
 have Ok := B6.out
 have Nf := BN.out
 have Gs : wc.cell? ⟨Af, 0, none⟩ = some (.int .i16 Bh) := (blk_cell Aa.out 0).trans rfl
 have Gk : wc.cell? ⟨Af, 1, none⟩ = some (.slice Au A4.length An) := (blk_cell Aa.out 1).trans rfl
 have Gi := blk_frozen Aa.out 0
 have G7 := blk_frozen Aa.out 1
 go_wp2_with (first | ((with_reducible refine gate_callee (f := 9) rfl ?_); refine goesL_ (some 519) rfl rfl Tryz.func9 (by kernel_rfl) rfl #[.agg #[.int .i16 Bh, .slice Au A4.length An]] rfl gl_ ?_; (with_reducible refine (impl_SpacingsOf.calls Gn Bh _ _ A4 At FO _ ?side1 ?side2 Pj.out).mono ?_); (case side1 => exact sC Ba); (case side2 => exact sL Ba); rintro e SX ⟨Oa, rfl, Ay, hb⟩; refine ⟨_, rfl, ?_⟩; have KZ := ak (Kd.R_lower Ay (below_size (zH5 HB AG AH AT Bl CW))); replace AA := kR AA hb; replace AB := kR AB hb; replace Bn := kR Bn hb; replace Ba := kR Ba hb; replace AD := kK AD hb; replace AC := kK AC hb; replace AE := kK AE hb; replace AJ := kK AJ hb; replace Ak := kK Ak hb; replace Aa := kK Aa hb; replace HB := ak (below_step (zH5 HB AG AH AT Bl CW) hb); (try clear hb); (try clear Ay)))
 refine wp_loopM 1842755076515297918137977142784376571230241505117594452631458663752881754671955064887366960783034413765698495040897535859504389702086489153184600193078429720908922896 Gn (fun kq (u : Nat → Value) w' => ∃ (AL : Int), u 57 = .int .i64 AL ∧ Aside0 (laws_FnRopes.l4 kq (wrap64 (1 + BR)) At FO AL Bh A4 = some r) ∧ Aside0 (kq ≤ Gn) ∧ Aside0 (Kd.R (Kd.int .i64) 2 w' w.heap.size (fun _ => True) Oa At) ∧ Aside0 (Kd.R (Kd.int .i16) 24 w' w.heap.size (fun k_ => some k_ ≠ ((.slice AX AR.length AZ) : Value).ownBlock ∧ some k_ ≠ ((.slice BG Bb.length A5) : Value).ownBlock ∧ some k_ ≠ ((.slice Au A4.length An) : Value).ownBlock) (.slice (some AM) AF.length AO) AF) ∧ Aside0 (Kd.R (Kd.int .i16) 24 w' w.heap.size (fun k_ => some k_ ≠ ((.slice (some AM) AF.length AO) : Value).ownBlock ∧ some k_ ≠ ((.slice BG Bb.length A5) : Value).ownBlock ∧ some k_ ≠ ((.slice Au A4.length An) : Value).ownBlock) (.slice AX AR.length AZ) AR) ∧ Aside0 (Kd.R (Kd.int .i16) 24 w' w.heap.size (fun k_ => some k_ ≠ ((.slice (some AM) AF.length AO) : Value).ownBlock ∧ some k_ ≠ ((.slice AX AR.length AZ) : Value).ownBlock ∧ some k_ ≠ ((.slice Au A4.length An) : Value).ownBlock) (.slice BG Bb.length A5) Bb) ∧ Aside0 (Kd.R (Kd.int .i16) 24 w' w.heap.size (fun k_ => some k_ ≠ ((.slice (some AM) AF.length AO) : Value).ownBlock ∧ some k_ ≠ ((.slice AX AR.length AZ) : Value).ownBlock ∧ some k_ ≠ ((.slice BG Bb.length A5) : Value).ownBlock) (.slice Au A4.length An) A4) ∧ Aside0 (w'.heap[0]? = some (.cells #[.int .i64 Ag] 3 (0, 0))) ∧ Aside0 (w'.heap[AQ]? = some (.cells #[.int .i16 AN, (.slice (some AM) AF.length AO)] 27 (0, 0))) ∧ Aside0 (w'.heap[Ai]? = some (.cells #[.int .i16 BW, (.slice AX AR.length AZ)] 27 (0, 0))) ∧ Aside0 (w'.heap[AK]? = some (.cells #[.int .i16 (IntKind.i16.wrap (Av)), .int .i8 (IntKind.i8.wrap (Aw))] 52 (0, 0))) ∧ Aside0 (w'.heap[BE]? = some (.cells #[.int .i16 CQ, (.slice BG Bb.length A5)] 27 (0, 0))) ∧ Aside0 (w'.heap[Af]? = some (.cells #[.int .i16 Bh, (.slice Au A4.length An)] 27 (0, 0))) ∧ Aside0 (Below w.heap.size w w')) ?atStart ?round
 case atStart => dsimp only [List.getD_cons_succ, List.getD_cons_zero]; exact ⟨(0), (by first | rfl | (simp; done) | (simp [*]; done)), H', ⟨Nat.le_refl _⟩, ⟨(zR KZ.out)⟩, ⟨(zR AA.out)⟩, ⟨(zR AB.out)⟩, ⟨(zR Bn.out)⟩, ⟨(zR Ba.out)⟩, ⟨(zK AD.out)⟩, ⟨(zK AC.out)⟩, ⟨(zK AE.out)⟩, ⟨(zK AJ.out)⟩, ⟨(zK Ak.out)⟩, ⟨(zK Aa.out)⟩, ⟨zH5 HB AG AH AT Bl CW⟩⟩
 case round => (
 intro gk Sk wr hrel J_ K_ He hK_
 dsimp only [frU, cond, Nat.reduceMod, Nat.reduceDiv, Nat.reduceAdd, Nat.reduceBEq, Nat.reduceEqDiff, beq_self_eq_true]
 clear H'
 try clear c1
 try clear c9
 try clear E0
 try clear Gq
 try clear Ex
 try clear G4
 try clear G3
 try clear CP
 try clear CL
 try clear CM
 try clear Ca
 try clear CV
 try clear CT
 try clear CK
 try clear CN
 try clear EG
 try clear Er
 try clear Eh
 try clear Eg
 try clear ET
 try clear Ee
 try clear EL
 try clear EZ
 try clear Gs
 try clear Gk
 try clear CY
 try clear CS
 try clear CO
 try clear CU
 try clear Cc
 try clear CR
 try clear Cd
 try clear CX
 try clear E9
 try clear EQ
 try clear E5
 try clear Es
 try clear Ec
 try clear ER
 try clear Et
 try clear Ey
 try clear Gi
 try clear G7
 obtain ⟨AL, Fs, HA, HS, DK, AA, AB, Bn, Ba, AD, AC, AE, AJ, Ak, Aa, HB⟩ := hrel
 rw [Fs]
 clear Fs
 cases gk with
 | zero => exact absurd HA.out (by simp [laws_FnRopes.l4])
 | succ Ra => (
 have H := HA.out
 clear HA
 simp only [laws_FnRopes.l4] at H
 by_cases F2 : AL < (At.length : Int)
 {
 rw [if_pos F2] at H
 have Il : decide (AL < (At.length : Int)) = true := decide_eq_true F2
 clear F2
 by_cases Ha : 0 ≤ AL
 {
 rw [if_pos Ha] at H
 have QT : decide (0 ≤ AL) = true := decide_eq_true Ha
 clear Ha
 by_cases D0 : (rd At AL) > (wrap64 (1 + BR))
 {
 rw [if_pos D0] at H
 have Id : decide ((wrap64 (1 + BR)) < (rd At AL)) = true := decide_eq_true D0
 (try (have Jb : decide ((IntKind.i64.wrap (1 + BR)) < (rd At AL)) = true := by first | simpa only [i64_w, i32_w] using (show decide ((wrap64 (1 + BR)) < (rd At AL)) = true from decide_eq_true D0) | simpa only [i64_w] using (show decide ((wrap64 (1 + BR)) < (rd At AL)) = true from decide_eq_true D0)))
 clear D0
 exact absurd ((Option.some.inj H).trans HT.out) (by decide)
 }
 {
 rw [if_neg D0] at H
 have Id : decide ((wrap64 (1 + BR)) < (rd At AL)) = false := decide_eq_false D0
 (try (have Jb : decide ((IntKind.i64.wrap (1 + BR)) < (rd At AL)) = false := by first | simpa only [i64_w, i32_w] using (show decide ((wrap64 (1 + BR)) < (rd At AL)) = false from decide_eq_false D0) | simpa only [i64_w] using (show decide ((wrap64 (1 + BR)) < (rd At AL)) = false from decide_eq_false D0)))
 clear D0
 by_cases D1 : (wrap64 (AL + 1)) < (At.length : Int)
 {
 rw [if_pos D1] at H
 have IV : decide ((wrap64 (AL + 1)) < (At.length : Int)) = true := decide_eq_true D1
 (try (have JP : decide ((IntKind.i64.wrap (AL + 1)) < (At.length : Int)) = true := by first | simpa only [i64_w, i32_w] using (show decide ((wrap64 (AL + 1)) < (At.length : Int)) = true from decide_eq_true D1) | simpa only [i64_w] using (show decide ((wrap64 (AL + 1)) < (At.length : Int)) = true from decide_eq_true D1)))
 clear D1
 by_cases Ch : (rd At AL) = (wrap64 (1 + BR))
 {
 rw [if_pos Ch] at H
 have It : ((rd At AL) == (wrap64 (1 + BR))) = true := beq_iff_eq.mpr Ch
 have JG : ((rd At AL) != (wrap64 (1 + BR))) = false := bne_eq_false_iff_eq.mpr Ch
 (try (have Iu : ((rd At AL) == (IntKind.i64.wrap (1 + BR))) = true := by first | simpa only [i64_w, i32_w] using (show ((rd At AL) == (wrap64 (1 + BR))) = true from beq_iff_eq.mpr Ch) | simpa only [i64_w] using (show ((rd At AL) == (wrap64 (1 + BR))) = true from beq_iff_eq.mpr Ch)))
 (try (have Ii : ((rd At AL) != (IntKind.i64.wrap (1 + BR))) = false := by first | simpa only [i64_w, i32_w] using (show ((rd At AL) != (wrap64 (1 + BR))) = false from bne_eq_false_iff_eq.mpr Ch) | simpa only [i64_w] using (show ((rd At AL) != (wrap64 (1 + BR))) = false from bne_eq_false_iff_eq.mpr Ch)))
 clear Ch
 have H' := ak H
 clear H
 obtain ⟨RF, RV, Jr⟩ := Kd.R_slice DK.out
 subst Jr
 have Fg : 0 ≤ (AL : Int) := of_decide_eq_true (by first | (with_reducible assumption) | assumption)
 have FS : AL < (At.length : Int) := of_decide_eq_true (by first | (with_reducible assumption) | assumption)
 obtain ⟨H9, Iw, HM⟩ := Kd.at_int (Kd.R_reads' DK.out).2.2 AL Fg FS
 cases Iw
 replace Fg := eq_true Fg
 replace FS := eq_true FS
 have IP : 0 ≤ (AL : Int) := of_decide_eq_true (by first | (with_reducible assumption) | assumption)
 have I4 : AL < (At.length : Int) := of_decide_eq_true (by first | (with_reducible assumption) | assumption)
 obtain ⟨Lq, N5, M2⟩ := Kd.at_int (Kd.R_reads' DK.out).2.2 AL IP I4
 obtain rfl : H9 = Lq := (by injection N5)
 replace IP := eq_true IP
 replace I4 := eq_true I4
 go_wp2
 refine handM Ra He ?measure (by kernel_rfl) ?rel
 case measure => have := DO.out; have := Bx.out; have := Du.out; have := BY.out; have := D4.out; have := Bw.out; have := FK.out; have := CF.out; have := D9.out; have := Ft.out; have := HS.out; omega
 case rel => dsimp only [List.getD_cons_succ, List.getD_cons_zero]; exact ⟨(wrap64 (AL + 1)), (by first | rfl | (simp; done) | (simp [*]; done)), H', ⟨by have := DO.out; have := Bx.out; have := Du.out; have := BY.out; have := D4.out; have := Bw.out; have := FK.out; have := CF.out; have := D9.out; have := Ft.out; have := HS.out; omega⟩, ⟨(zR DK.out)⟩, ⟨(zR AA.out)⟩, ⟨(zR AB.out)⟩, ⟨(zR Bn.out)⟩, ⟨(zR Ba.out)⟩, ⟨(zK AD.out)⟩, ⟨(zK AC.out)⟩, ⟨(zK AE.out)⟩, ⟨(zK AJ.out)⟩, ⟨(zK Ak.out)⟩, ⟨(zK Aa.out)⟩, ⟨zH5 HB AG AH AT Bl CW⟩⟩
 }
 {
 rw [if_neg Ch] at H
 have It : ((rd At AL) == (wrap64 (1 + BR))) = false := beq_eq_false_iff_ne.mpr Ch
 have JG : ((rd At AL) != (wrap64 (1 + BR))) = true := bne_iff_ne.mpr Ch
 (try (have Iu : ((rd At AL) == (IntKind.i64.wrap (1 + BR))) = false := by first | simpa only [i64_w, i32_w] using (show ((rd At AL) == (wrap64 (1 + BR))) = false from beq_eq_false_iff_ne.mpr Ch) | simpa only [i64_w] using (show ((rd At AL) == (wrap64 (1 + BR))) = false from beq_eq_false_iff_ne.mpr Ch)))
 (try (have Ii : ((rd At AL) != (IntKind.i64.wrap (1 + BR))) = true := by first | simpa only [i64_w, i32_w] using (show ((rd At AL) != (wrap64 (1 + BR))) = true from bne_iff_ne.mpr Ch) | simpa only [i64_w] using (show ((rd At AL) != (wrap64 (1 + BR))) = true from bne_iff_ne.mpr Ch)))
 exact absurd ((Option.some.inj H).trans HT.out) (by decide)
 }
 }
 {
 rw [if_neg D1] at H
 have IV : decide ((wrap64 (AL + 1)) < (At.length : Int)) = false := decide_eq_false D1
 (try (have JP : decide ((IntKind.i64.wrap (AL + 1)) < (At.length : Int)) = false := by first | simpa only [i64_w, i32_w] using (show decide ((wrap64 (AL + 1)) < (At.length : Int)) = false from decide_eq_false D1) | simpa only [i64_w] using (show decide ((wrap64 (AL + 1)) < (At.length : Int)) = false from decide_eq_false D1)))
 clear D1
 have H' := ak H
 clear H
 obtain ⟨Rt, RW, LV⟩ := Kd.R_slice DK.out
 subst LV
 have Fg : 0 ≤ (AL : Int) := of_decide_eq_true (by first | (with_reducible assumption) | assumption)
 have FS : AL < (At.length : Int) := of_decide_eq_true (by first | (with_reducible assumption) | assumption)
 obtain ⟨H9, Iw, HM⟩ := Kd.at_int (Kd.R_reads' DK.out).2.2 AL Fg FS
 cases Iw
 replace Fg := eq_true Fg
 replace FS := eq_true FS
 go_wp2
 refine handM Ra He ?measure (by kernel_rfl) ?rel
 case measure => have := DO.out; have := Bx.out; have := Du.out; have := BY.out; have := D4.out; have := Bw.out; have := FK.out; have := CF.out; have := D9.out; have := Ft.out; have := HS.out; omega
 case rel => dsimp only [List.getD_cons_succ, List.getD_cons_zero]; exact ⟨(wrap64 (AL + 1)), (by first | rfl | (simp; done) | (simp [*]; done)), H', ⟨by have := DO.out; have := Bx.out; have := Du.out; have := BY.out; have := D4.out; have := Bw.out; have := FK.out; have := CF.out; have := D9.out; have := Ft.out; have := HS.out; omega⟩, ⟨(zR DK.out)⟩, ⟨(zR AA.out)⟩, ⟨(zR AB.out)⟩, ⟨(zR Bn.out)⟩, ⟨(zR Ba.out)⟩, ⟨(zK AD.out)⟩, ⟨(zK AC.out)⟩, ⟨(zK AE.out)⟩, ⟨(zK AJ.out)⟩, ⟨(zK Ak.out)⟩, ⟨(zK Aa.out)⟩, ⟨zH5 HB AG AH AT Bl CW⟩⟩
 }
 }
 }
 · rw [if_neg Ha] at H; exact absurd H (by simp)
 }
 {
 rw [if_neg F2] at H
 have Il : decide (AL < (At.length : Int)) = false := decide_eq_false F2
 clear F2
 by_cases Fi : FO = 0
 {
 rw [if_pos Fi] at H
 have I5 : (FO == 0) = true := beq_iff_eq.mpr Fi
 have Ib : (FO != 0) = false := bne_eq_false_iff_eq.mpr Fi
 clear Fi
 obtain rfl := Option.some.inj H
 obtain ⟨Rh, Rn, Kn⟩ := Kd.R_slice DK.out
 subst Kn
 have Qa := B2.out
 have Pk := BL.out
 have OI := B9.out
 have Oq := BI.out
 have Oi := B5.out
 have O3 := BJ.out
 have Nv := B3.out
 have Oj := BM.out
 have OU := B6.out
 have P1 := BN.out
 have MD : wr.cell? ⟨Af, 0, none⟩ = some (.int .i16 Bh) := (blk_cell Aa.out 0).trans rfl
 have J2 : wr.cell? ⟨Af, 1, none⟩ = some (.slice Au A4.length An) := (blk_cell Aa.out 1).trans rfl
 have KP := blk_frozen Aa.out 0
 have Jt := blk_frozen Aa.out 1
 go_wp2
 go_ret
 exact ⟨by first | rfl | (simp [errW_none, errW_some] <;> rfl) | (simp only [← Dy]; first | rfl | (simp [errW_none, errW_some] <;> rfl)) | (simp [*, errW_none, errW_some] <;> rfl), zH5 HB AG AH AT Bl CW⟩
 }
 · rw [if_neg Fi] at H; have I5 : (FO == 0) = false := beq_eq_false_iff_ne.mpr Fi; have Ib : (FO != 0) = true := bne_iff_ne.mpr Fi; exact absurd ((Option.some.inj H).trans HT.out) (by decide)
 }
 )
 )
 }
 {
 rw [if_neg Ex] at H
 have G4 : (CH == 0) = false := beq_eq_false_iff_ne.mpr Ex
 have G3 : (CH != 0) = true := bne_iff_ne.mpr Ex
 obtain rfl := Option.some.inj H
 go_wp2
 go_ret
 exact ⟨by first | rfl | (simp [errW_none, errW_some] <;> rfl) | (simp only [← Dy]; first | rfl | (simp [errW_none, errW_some] <;> rfl)) | (simp [*, errW_none, errW_some] <;> rfl), zH5 HB AG AH AT Bl CW⟩
 }
 }
 )
 )
 )
 )
 }
 )
 )
 }
 )
 )
 }
 )
 )
 }
 )
 )
 }
 · rw [if_neg Ga] at H; exact absurd H (by simp)
 }
 · rw [if_neg G6] at H; exact absurd H (by simp)
 }
 )
 )
 }
 )
 )
 }
 )
 )
 }
 )
 )

end Go.Proofs.YtlggjfhoecaelaaGreatDoor.P
