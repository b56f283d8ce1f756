-- Printed by wip/print (my turned copy of the kit's print) out of the translation; Lean checks it.
import Derived.Test.YtlggjfhoecaelaaGreatDoorP0
import Derived.Test.YtlggjfhoecaelaaGreatDoorP3
import Derived.Test.YtlggjfhoecaelaaGreatDoorP9
namespace Go.Proofs.YtlggjfhoecaelaaGreatDoor.P
open Go.RowKit Go.Proofs.YtlggjfhoecaelaaGreatDoorW.PrintWords Go.Proofs.YtlggjfhoecaelaaGreatDoorW.PrintLast Go.Proofs.YtlggjfhoecaelaaGreatDoorW.PrintMore
attribute [local go_sem] max2_int min2_int max_two min_two max_three min_three max_four min_four   -- for this text's walks alone
set_option linter.unusedVariables false
set_option linter.unusedSimpArgs false

/-! ### impl_CutRope: function 16 -/
def impl_CutRope.l0 : Nat → Int → Int → Int → Int → List Int → Int → List Int → Option (Int × List Int × Int × List Int × Int)
  | 0, _, _, _, _, _, _, _ => none
  | k + 1, x8, AF, AE, AC, AB, AD, AA => if AE < AF then (if 0 ≤ AE then (if AE < (AA.length : Int) then (impl_CutRope.l0 k x8 AF (wrap64 (AE + 1)) AC AB AD (AA.set (AE : Int).toNat (IntKind.i16.wrap ((rd AA AE) - x8)))) else (none)) else (none)) else (some (AC, AB, AD, AA, 0))
def impl_CutRope.f (k : Nat) (AB : Int) (AA : List Int) (a1 : Int) : Option (Int × List Int × Int × List Int × Int) := (impl_size_int16.f AA).bind fun AC => ((impl_ValidRope.f k AB AA).bind fun AE => (if AE = true then ((impl_within.f a1 0 (wrap64 (AC - 1))).bind fun AG => (if AG = true then (if a1 = 0 then (some (0, ([] : List Int), 0, ([] : List Int), 4)) else (if a1 = (wrap64 (AC - 1)) then (some (0, ([] : List Int), 0, ([] : List Int), 4)) else (if 0 ≤ a1 then (if a1 < (AA.length : Int) then (if 0 ≤ (wrap64 (a1 + 1)) then (if (wrap64 (a1 + 1)) ≤ (AA.length : Int) then ((slices_Clone_Sint16_int16.f (AA.take ((wrap64 (a1 + 1)) : Int).toNat)).bind fun AF => (if a1 ≤ (AA.length : Int) then ((slices_Clone_Sint16_int16.f (AA.drop (a1 : Int).toNat)).bind fun AD => (impl_CutRope.l0 k (rd AA a1) (AD.length : Int) 0 (rd AA a1) AF (IntKind.i16.wrap (AB - (rd AA a1))) AD)) else (none))) else (none)) else (none)) else (none)) else (none)))) else (some (0, ([] : List Int), 0, ([] : List Int), 2)))) else (some (0, ([] : List Int), 0, ([] : List Int), 1))))
def impl_CutRope.T9 : Bool × List (List Nat × List Nat) := (true, [([], []), ([], []), ([1], [1]), ([], []), ([3], [3]), ([2, 4], [2, 4]), ([5], [5]), ([0, 6], [0, 6]), ([], []), ([8], [8]), ([], []), ([9, 10], [9, 10]), ([], []), ([12], [12]), ([], []), ([13, 14], [13, 14]), ([15, 6], [15]), ([11, 16], [11, 16]), ([], []), ([], []), ([18, 7, 16, 0, 1, 2, 3, 4, 5, 6, 7, 18, 19], [7, 18]), ([19, 17, 20, 0, 1, 2, 3, 4, 5, 6, 7, 8, 9, 10, 11, 12, 13, 14, 15, 16, 17, 18, 19, 20], [17, 19])])
def impl_CutRope.B9 : List Nat := [0, 0, 2, 0, 8, 30, 62, 127, 0, 256, 0, 1792, 0, 4096, 0, 28672, 61566, 130942, 0, 0, 913663, 2097151]
theorem impl_CutRope.tab9 : rtab .any (opsOf Tryz.f16 9) = impl_CutRope.T9 := by kernel_rfl
theorem impl_CutRope.bits9 : waitsOk impl_CutRope.T9.2 impl_CutRope.B9 = true := by kernel_rfl
set_option maxHeartbeats 8000000 in
set_option maxRecDepth 100000 in
theorem impl_CutRope.calls (k : Nat) (AZ : Int) (A0 : Option Addr) (Ac : Nat) (AF : List Int) (a1 : Int) (r1 : Int) (r2 : List Int) (r3 : Int) (r4 : List Int) (r5 : Int) (w : World) (C0 : Kd.C (Kd.int .i16) w A0 AF.length AF) (C4 : AF.length ≤ Ac) (h : impl_CutRope.f k AZ AF a1 = some (r1, r2, r3, r4, r5)) :
    Calls Tryz.prog 16 #[.agg #[.int .i16 AZ, .slice A0 AF.length Ac], .int .i64 a1] w fun e w' => ∃ GB Ft : Value, e = .returned (.tuple #[.agg #[.int .i16 r1, GB], .agg #[.int .i16 r3, Ft], .int .i64 r5]) ∧ Kd.R (Kd.int .i16) 24 w' w.heap.size (fun k_ => some k_ ≠ (Ft : Value).ownBlock) GB r2 ∧ Kd.R (Kd.int .i16) 24 w' w.heap.size (fun k_ => some k_ ≠ (GB : Value).ownBlock) Ft r4 ∧ Below w.heap.size w w' := by
 have Hc := Tryz.underlying27
 have BI := ak C0
 have BN := ak C4
 clear C0 C4
 have HB := ak (Below.refl w.heap.size w)
 have H := h
 unfold impl_CutRope.f at H
 clear h
 replace H := Option.bind_eq_some_iff.mp H
 obtain ⟨A2, Gx, H⟩ := H
 have A3 := ak Gx
 clear Gx
 replace H := Option.bind_eq_some_iff.mp H
 obtain ⟨Fu, GQ, H⟩ := H
 have A4 := ak GQ
 clear GQ
 by_cases c5 : Fu = true
 {
 subst c5
 rw [if_pos rfl] at H
 replace H := Option.bind_eq_some_iff.mp H
 obtain ⟨Fz, GM, H⟩ := H
 have A6 := ak GM
 clear GM
 by_cases c7 : Fz = true
 {
 subst c7
 rw [if_pos rfl] at H
 by_cases c8 : a1 = 0
 {
 rw [if_pos c8] at H
 have GC : (a1 == 0) = true := beq_iff_eq.mpr c8
 have GE : (a1 != 0) = false := bne_eq_false_iff_eq.mpr c8
 clear c8
 simp only [Option.some.injEq, Prod.mk.injEq] at H
 obtain ⟨rfl, rfl, rfl, rfl, rfl⟩ := H
 go_enter Tryz.func16, Tryz.ntmps16
 go_wp2_with (first | ((with_reducible refine gate_dst (N := 2) rfl ?_); refine box_event ?hg (N := 2) ?hd (cs := #[.int .i16 AZ, .slice A0 AF.length Ac]) (t := 27) ?hr ?_; (case hd => rfl); (case hg => rfl); (case hr => first | (go_simp; done) | (go_simp; rfl)); intro AD hg w9 hbox hb; have AA := ak (hbox); have Ca := gS HB hg; have AE := gS HB hg; replace HB := kB HB hb; clear hb hbox hg) | ((with_reducible refine gate_dst (N := 4) rfl ?_); refine box_event ?hg (N := 4) ?hd (cs := #[.int .i16 0, .slice none 0 0]) (t := 27) ?hr ?_; (case hd => rfl); (case hg => rfl); (case hr => first | (go_simp; done) | (go_simp; rfl)); intro AK hg Hm hbox hb; have AB := ak (hbox); have CW := gS1 HB AE hg; have AI := gS1 HB AE hg; have Ao := nL AA hg; have Ap := nG AA hg; replace AA := kK AA hb; replace HB := kB1 HB AE hb; clear hb hbox hg) | ((with_reducible refine gate_dst (N := 5) rfl ?_); refine box_event ?hg (N := 5) ?hd (cs := #[.int .i16 0, .slice none 0 0]) (t := 27) ?hr ?_; (case hd => rfl); (case hg => rfl); (case hr => first | (go_simp; done) | (go_simp; rfl)); intro AG hg Cm hbox hb; have AC := ak (hbox); have CZ := ak ((by rw [hg]; exact (below_size (zH2 HB AE AI)) : w.heap.size ≤ AG)); have AL := ak ((by rw [hg]; exact (below_size (zH2 HB AE AI)) : w.heap.size ≤ AG)); have An := nL AA hg; have Aq := nG AA hg; have Aj := nL AB hg; have Ai := nG AB hg; replace AA := kK AA hb; replace AB := kK AB hb; replace HB := kB2 HB AE AI hb; clear hb hbox hg; have Gm := Ao.out; have GL := Ap.out; have GT := An.out; have Gs := Aq.out; obtain ⟨E5, EL, FS, Fg⟩ := cz2 Cm AA) | ((with_reducible refine gate_callee (f := 42) rfl ?_); refine goesL_ (some 14) rfl rfl Tryz.func42 (by kernel_rfl) rfl #[.slice A0 AF.length Ac] rfl gl_ ?_; (with_reducible refine (impl_size_int16.calls _ _ AF A2 _ ?side1 ?side2 A3.out).mono ?_); (case side1 => exact sQ (Kd.C_below BI.out HB.out)); (case side2 => exact BN.out); rintro e w' ⟨rfl, ⟨nd, rfl⟩⟩; refine ⟨_, rfl, ?_⟩; (try (rw [drewN_self Cm]; generalize BC : World.drewN Cm _ = Cm; have Ay : Aside0 (Cm.heap[AD]? = some (.cells #[.int .i16 AZ, .slice A0 AF.length Ac] 27 (0, 0))) := ⟨by rw [← BC]; exact (zK AA.out)⟩; have Aw : Aside0 (Cm.heap[AK]? = some (.cells #[.int .i16 0, .slice none 0 0] 27 (0, 0))) := ⟨by rw [← BC]; exact (zK AB.out)⟩; have Ax : Aside0 (Cm.heap[AG]? = some (.cells #[.int .i16 0, .slice none 0 0] 27 (0, 0))) := ⟨by rw [← BC]; exact (zK AC.out)⟩; have Av : Aside0 (Below w.heap.size w Cm) := ⟨by rw [← BC]; exact (zH3 HB AE AI AL)⟩; clear AA AB AC HB BC; have AA := Ay; have AB := Aw; have AC := Ax; have HB := Av; clear Ay Aw Ax Av)); obtain ⟨hcy_0, hcy_1, hfy_0, hfy_1⟩ := cz2 Cm AA) | ((with_reducible refine gate_callee (f := 13) rfl ?_); refine goesL_ (some 18) rfl rfl Tryz.func13 (by kernel_rfl) rfl #[.agg #[.int .i16 AZ, .slice A0 AF.length Ac]] rfl gl_ ?_; (with_reducible refine (impl_ValidRope.calls k AZ _ _ AF true _ ?side1 ?side2 A4.out).mono ?_); (case side1 => exact sQ (Kd.C_below BI.out HB.out)); (case side2 => exact BN.out); rintro e Cz ⟨rfl, hb⟩; refine ⟨_, rfl, ?_⟩; replace AA := kK AA hb; replace AB := kK AB hb; replace AC := kK AC hb; replace HB := kB3 HB AE AI AL hb; (try clear hb)) | ((with_reducible refine gate_callee (f := 41) rfl ?_); refine goesL_ (some 25) rfl rfl Tryz.func41 (by kernel_rfl) rfl #[.int .i64 a1, .int .i64 0, .int .i64 (wrap64 (A2 - 1))] rfl gl_ ?_; (with_reducible refine (impl_within.calls a1 0 (wrap64 (A2 - 1)) true _ A6.out).mono ?_); rintro e w' ⟨rfl, ⟨nd, rfl⟩⟩; refine ⟨_, rfl, ?_⟩; (try (rw [drewN_self Cz]; generalize BC : World.drewN Cz _ = Cz; have Ay : Aside0 (Cz.heap[AD]? = some (.cells #[.int .i16 AZ, .slice A0 AF.length Ac] 27 (0, 0))) := ⟨by rw [← BC]; exact (zK AA.out)⟩; have Aw : Aside0 (Cz.heap[AK]? = some (.cells #[.int .i16 0, .slice none 0 0] 27 (0, 0))) := ⟨by rw [← BC]; exact (zK AB.out)⟩; have Ax : Aside0 (Cz.heap[AG]? = some (.cells #[.int .i16 0, .slice none 0 0] 27 (0, 0))) := ⟨by rw [← BC]; exact (zK AC.out)⟩; have Av : Aside0 (Below w.heap.size w Cz) := ⟨by rw [← BC]; exact (zH3 HB AE AI AL)⟩; clear AA AB AC HB BC; have AA := Ay; have AB := Aw; have AC := Ax; have HB := Av; clear Ay Aw Ax Av)); have Gt := Aj.out; have GN := Ai.out; obtain ⟨E4, FJ, FG, Fc⟩ := cz2 Cz AB; obtain ⟨Fd, Ei, Dx, Fe⟩ := cz2 Cz AC))
 refine bodyPost_ret (results_list (rs := [.cell 4 27, .cell 5 27, .tmp 6]) rfl (by simp) (.cell AK 27 #[.int .i16 0, .slice none 0 0] (0, 0) _ rfl (by refine blk_far ?_ Aj.out _; refine blk_far ?_ Aj.out _; refine blk_put (cs := #[.int .i16 0, .slice none 0 0]) ?_ 1 _ rfl; refine blk_put (cs := #[.int .i16 0, .slice none 0 0]) ?_ 0 _ rfl; exact AB.out) Tryz.underlying27 rfl (by kernel_rfl) (.cell AG 27 #[.int .i16 0, .slice none 0 0] (0, 0) _ rfl (by refine blk_put (cs := #[.int .i16 0, .slice none 0 0]) ?_ 1 _ rfl; refine blk_put (cs := #[.int .i16 0, .slice none 0 0]) ?_ 0 _ rfl; refine blk_far ?_ Ai.out _; refine blk_far ?_ Ai.out _; exact AC.out) Tryz.underlying27 rfl (by kernel_rfl) (.tmp .nil)))) rfl ?_
 exact ⟨_, _, rfl, by first | exact Kd.R_nil _ _ _ _ _ | exact Kd.N_nil _ _ _ _ _ | exact Kd.V_nil _ _ _ _ _ | exact Kd.Q_nil _ _ _ _ _ | exact Kd.S_nil _ _ _ _ _, by first | exact Kd.R_nil _ _ _ _ _ | exact Kd.N_nil _ _ _ _ _ | exact Kd.V_nil _ _ _ _ _ | exact Kd.Q_nil _ _ _ _ _ | exact Kd.S_nil _ _ _ _ _, zH3 HB AE AI AL⟩
 }
 {
 rw [if_neg c8] at H
 have GC : (a1 == 0) = false := beq_eq_false_iff_ne.mpr c8
 have GE : (a1 != 0) = true := bne_iff_ne.mpr c8
 by_cases CP : a1 = (wrap64 (A2 - 1))
 {
 rw [if_pos CP] at H
 have DI : (a1 == (wrap64 (A2 - 1))) = true := beq_iff_eq.mpr CP
 have Dh : (a1 != (wrap64 (A2 - 1))) = false := bne_eq_false_iff_eq.mpr CP
 (try (have DP : (a1 == (IntKind.i64.wrap (A2 - 1))) = true := by first | simpa only [i64_w, i32_w] using (show (a1 == (wrap64 (A2 - 1))) = true from beq_iff_eq.mpr CP) | simpa only [i64_w] using (show (a1 == (wrap64 (A2 - 1))) = true from beq_iff_eq.mpr CP)))
 (try (have DO : (a1 != (IntKind.i64.wrap (A2 - 1))) = false := by first | simpa only [i64_w, i32_w] using (show (a1 != (wrap64 (A2 - 1))) = false from bne_eq_false_iff_eq.mpr CP) | simpa only [i64_w] using (show (a1 != (wrap64 (A2 - 1))) = false from bne_eq_false_iff_eq.mpr CP)))
 clear CP
 simp only [Option.some.injEq, Prod.mk.injEq] at H
 obtain ⟨rfl, rfl, rfl, rfl, rfl⟩ := H
 go_enter Tryz.func16, Tryz.ntmps16
 go_wp2_with (first | ((with_reducible refine gate_dst (N := 2) rfl ?_); refine box_event ?hg (N := 2) ?hd (cs := #[.int .i16 AZ, .slice A0 AF.length Ac]) (t := 27) ?hr ?_; (case hd => rfl); (case hg => rfl); (case hr => first | (go_simp; done) | (go_simp; rfl)); intro AD hg Hh hbox hb; have AA := ak (hbox); have Ca := gS HB hg; have AE := gS HB hg; replace HB := kB HB hb; clear hb hbox hg) | ((with_reducible refine gate_dst (N := 4) rfl ?_); refine box_event ?hg (N := 4) ?hd (cs := #[.int .i16 0, .slice none 0 0]) (t := 27) ?hr ?_; (case hd => rfl); (case hg => rfl); (case hr => first | (go_simp; done) | (go_simp; rfl)); intro AK hg Hg hbox hb; have AB := ak (hbox); have CW := gS1 HB AE hg; have AI := gS1 HB AE hg; have Ao := nL AA hg; have Ap := nG AA hg; replace AA := kK AA hb; replace HB := kB1 HB AE hb; clear hb hbox hg) | ((with_reducible refine gate_dst (N := 5) rfl ?_); refine box_event ?hg (N := 5) ?hd (cs := #[.int .i16 0, .slice none 0 0]) (t := 27) ?hr ?_; (case hd => rfl); (case hg => rfl); (case hr => first | (go_simp; done) | (go_simp; rfl)); intro AG hg Cn hbox hb; have AC := ak (hbox); have CZ := ak ((by rw [hg]; exact (below_size (zH2 HB AE AI)) : w.heap.size ≤ AG)); have AL := ak ((by rw [hg]; exact (below_size (zH2 HB AE AI)) : w.heap.size ≤ AG)); have An := nL AA hg; have Aq := nG AA hg; have Aj := nL AB hg; have Ai := nG AB hg; replace AA := kK AA hb; replace AB := kK AB hb; replace HB := kB2 HB AE AI hb; clear hb hbox hg; have Gr := Ao.out; have HG := Ap.out; have Ge := An.out; have G5 := Aq.out; obtain ⟨FW, Dw, Fb, EC⟩ := cz2 Cn AA) | ((with_reducible refine gate_callee (f := 42) rfl ?_); refine goesL_ (some 14) rfl rfl Tryz.func42 (by kernel_rfl) rfl #[.slice A0 AF.length Ac] rfl gl_ ?_; (with_reducible refine (impl_size_int16.calls _ _ AF A2 _ ?side1 ?side2 A3.out).mono ?_); (case side1 => exact sQ (Kd.C_below BI.out HB.out)); (case side2 => exact BN.out); rintro e w' ⟨rfl, ⟨nd, rfl⟩⟩; refine ⟨_, rfl, ?_⟩; (try (rw [drewN_self Cn]; generalize BC : World.drewN Cn _ = Cn; have Ay : Aside0 (Cn.heap[AD]? = some (.cells #[.int .i16 AZ, .slice A0 AF.length Ac] 27 (0, 0))) := ⟨by rw [← BC]; exact (zK AA.out)⟩; have Aw : Aside0 (Cn.heap[AK]? = some (.cells #[.int .i16 0, .slice none 0 0] 27 (0, 0))) := ⟨by rw [← BC]; exact (zK AB.out)⟩; have Ax : Aside0 (Cn.heap[AG]? = some (.cells #[.int .i16 0, .slice none 0 0] 27 (0, 0))) := ⟨by rw [← BC]; exact (zK AC.out)⟩; have Av : Aside0 (Below w.heap.size w Cn) := ⟨by rw [← BC]; exact (zH3 HB AE AI AL)⟩; clear AA AB AC HB BC; have AA := Ay; have AB := Aw; have AC := Ax; have HB := Av; clear Ay Aw Ax Av)); obtain ⟨hcy_0, hcy_1, hfy_0, hfy_1⟩ := cz2 Cn AA) | ((with_reducible refine gate_callee (f := 13) rfl ?_); refine goesL_ (some 18) rfl rfl Tryz.func13 (by kernel_rfl) rfl #[.agg #[.int .i16 AZ, .slice A0 AF.length Ac]] rfl gl_ ?_; (with_reducible refine (impl_ValidRope.calls k AZ _ _ AF true _ ?side1 ?side2 A4.out).mono ?_); (case side1 => exact sQ (Kd.C_below BI.out HB.out)); (case side2 => exact BN.out); rintro e Cy ⟨rfl, hb⟩; refine ⟨_, rfl, ?_⟩; replace AA := kK AA hb; replace AB := kK AB hb; replace AC := kK AC hb; replace HB := kB3 HB AE AI AL hb; (try clear hb)) | ((with_reducible refine gate_callee (f := 41) rfl ?_); refine goesL_ (some 25) rfl rfl Tryz.func41 (by kernel_rfl) rfl #[.int .i64 a1, .int .i64 0, .int .i64 (wrap64 (A2 - 1))] rfl gl_ ?_; (with_reducible refine (impl_within.calls a1 0 (wrap64 (A2 - 1)) true _ A6.out).mono ?_); rintro e w' ⟨rfl, ⟨nd, rfl⟩⟩; refine ⟨_, rfl, ?_⟩; (try (rw [drewN_self Cy]; generalize BC : World.drewN Cy _ = Cy; have Ay : Aside0 (Cy.heap[AD]? = some (.cells #[.int .i16 AZ, .slice A0 AF.length Ac] 27 (0, 0))) := ⟨by rw [← BC]; exact (zK AA.out)⟩; have Aw : Aside0 (Cy.heap[AK]? = some (.cells #[.int .i16 0, .slice none 0 0] 27 (0, 0))) := ⟨by rw [← BC]; exact (zK AB.out)⟩; have Ax : Aside0 (Cy.heap[AG]? = some (.cells #[.int .i16 0, .slice none 0 0] 27 (0, 0))) := ⟨by rw [← BC]; exact (zK AC.out)⟩; have Av : Aside0 (Below w.heap.size w Cy) := ⟨by rw [← BC]; exact (zH3 HB AE AI AL)⟩; clear AA AB AC HB BC; have AA := Ay; have AB := Aw; have AC := Ax; have HB := Av; clear Ay Aw Ax Av)); have Gh := Aj.out; have Gg := Ai.out; obtain ⟨EJ, E8, FL, Eh⟩ := cz2 Cy AB; obtain ⟨Ep, Ee, Fi, EZ⟩ := cz2 Cy AC))
 refine bodyPost_ret (results_list (rs := [.cell 4 27, .cell 5 27, .tmp 6]) rfl (by simp) (.cell AK 27 #[.int .i16 0, .slice none 0 0] (0, 0) _ rfl (by refine blk_far ?_ Aj.out _; refine blk_far ?_ Aj.out _; refine blk_put (cs := #[.int .i16 0, .slice none 0 0]) ?_ 1 _ rfl; refine blk_put (cs := #[.int .i16 0, .slice none 0 0]) ?_ 0 _ rfl; exact AB.out) Tryz.underlying27 rfl (by kernel_rfl) (.cell AG 27 #[.int .i16 0, .slice none 0 0] (0, 0) _ rfl (by refine blk_put (cs := #[.int .i16 0, .slice none 0 0]) ?_ 1 _ rfl; refine blk_put (cs := #[.int .i16 0, .slice none 0 0]) ?_ 0 _ rfl; refine blk_far ?_ Ai.out _; refine blk_far ?_ Ai.out _; exact AC.out) Tryz.underlying27 rfl (by kernel_rfl) (.tmp .nil)))) rfl ?_
 exact ⟨_, _, rfl, by first | exact Kd.R_nil _ _ _ _ _ | exact Kd.N_nil _ _ _ _ _ | exact Kd.V_nil _ _ _ _ _ | exact Kd.Q_nil _ _ _ _ _ | exact Kd.S_nil _ _ _ _ _, by first | exact Kd.R_nil _ _ _ _ _ | exact Kd.N_nil _ _ _ _ _ | exact Kd.V_nil _ _ _ _ _ | exact Kd.Q_nil _ _ _ _ _ | exact Kd.S_nil _ _ _ _ _, zH3 HB AE AI AL⟩
 }
 {
 rw [if_neg CP] at H
 have DI : (a1 == (wrap64 (A2 - 1))) = false := beq_eq_false_iff_ne.mpr CP
 have Dh : (a1 != (wrap64 (A2 - 1))) = true := bne_iff_ne.mpr CP
 (try (have DP : (a1 == (IntKind.i64.wrap (A2 - 1))) = false := by first | simpa only [i64_w, i32_w] using (show (a1 == (wrap64 (A2 - 1))) = false from beq_eq_false_iff_ne.mpr CP) | simpa only [i64_w] using (show (a1 == (wrap64 (A2 - 1))) = false from beq_eq_false_iff_ne.mpr CP)))
 (try (have DO : (a1 != (IntKind.i64.wrap (A2 - 1))) = true := by first | simpa only [i64_w, i32_w] using (show (a1 != (wrap64 (A2 - 1))) = true from bne_iff_ne.mpr CP) | simpa only [i64_w] using (show (a1 != (wrap64 (A2 - 1))) = true from bne_iff_ne.mpr CP)))
 by_cases E2 : 0 ≤ a1
 {
 rw [if_pos E2] at H
 have GS : decide (0 ≤ a1) = true := decide_eq_true E2
 clear E2
 by_cases EK : a1 < (AF.length : Int)
 {
 rw [if_pos EK] at H
 have Gn : decide (a1 < (AF.length : Int)) = true := decide_eq_true EK
 clear EK
 obtain ⟨A7, BP⟩ : ∃ j_ : Int, (wrap64 (a1 + 1)) = j_ := ⟨_, rfl⟩
 first | rw [BP] at H | simp only [BP] at H
 (try rw [BP] at A3)
 (try rw [BP] at A4)
 (try rw [BP] at A6)
 have Fx : (IntKind.i64.wrap (a1 + 1)) = A7 := (i64_w _).trans BP
 by_cases Dp : 0 ≤ (A7)
 {
 rw [if_pos Dp] at H
 have HJ := eq_true Dp
 have GR : decide (0 ≤ (A7)) = true := decide_eq_true Dp
 clear Dp
 by_cases Dl : (A7) ≤ (AF.length : Int)
 {
 rw [if_pos Dl] at H
 have Gb := eq_true Dl
 have G2 : decide ((A7) ≤ (AF.length : Int)) = true := decide_eq_true Dl
 clear Dl
 replace H := Option.bind_eq_some_iff.mp H
 obtain ⟨Ar, Db, H⟩ := H
 have Ez := ak Db
 clear Db
 have GV := eq_true (of_decide_eq_true (by assumption) : 0 ≤ a1)
 by_cases Do : a1 ≤ (AF.length : Int)
 {
 rw [if_pos Do] at H
 have Gw := eq_true Do
 have HD : decide (a1 ≤ (AF.length : Int)) = true := decide_eq_true Do
 clear Do
 replace H := Option.bind_eq_some_iff.mp H
 obtain ⟨A5, Dc, H⟩ := H
 have EU := ak Dc
 clear Dc
 have H' := ak H
 clear H
 go_enter Tryz.func16, Tryz.ntmps16
 try go_wp2_with (first | ((with_reducible refine gate_dst (N := 2) rfl ?_); refine box_event ?hg (N := 2) ?hd (cs := #[.int .i16 AZ, .slice A0 AF.length Ac]) (t := 27) ?hr ?_; (case hd => rfl); (case hg => rfl); (case hr => first | (go_simp; done) | (go_simp; rfl)); intro AD hg Hp hbox hb; have Ay := ak (below_step (zB HB.out) hb); have Aw := ak (hbox); have Ax := gS HB hg; have Av := gS HB hg; clear HB; have HB := Ay; have AA := Aw; have Ca := Ax; have AE := Av; clear Ay Aw Ax Av; clear hb hbox hg) | ((with_reducible refine gate_dst (N := 4) rfl ?_); refine box_event ?hg (N := 4) ?hd (cs := #[.int .i16 0, .slice none 0 0]) (t := 27) ?hr ?_; (case hd => rfl); (case hg => rfl); (case hr => first | (go_simp; done) | (go_simp; rfl)); intro AK hg Hn hbox hb; have Ay := ak (blk_below (g := AD) (o := .cells #[.int .i16 AZ, .slice A0 AF.length Ac] 27 (0, 0)) (zK AA.out) hb); have Aw := ak (below_step (zBG HB.out AE.out) hb); have Ax := ak (hbox); have Av := gS1 HB AE hg; have BO := gS1 HB AE hg; have BQ := nL AA hg; have BR := nG AA hg; clear AA HB; have AA := Ay; have HB := Aw; have AB := Ax; have CW := Av; have AI := BO; have Ao := BQ; have Ap := BR; clear Ay Aw Ax Av BO BQ BR; clear hb hbox hg) | ((with_reducible refine gate_dst (N := 5) rfl ?_); refine box_event ?hg (N := 5) ?hd (cs := #[.int .i16 0, .slice none 0 0]) (t := 27) ?hr ?_; (case hd => rfl); (case hg => rfl); (case hr => first | (go_simp; done) | (go_simp; rfl)); intro AG hg Cj hbox hb; have Ay := ak (blk_below (g := AD) (o := .cells #[.int .i16 AZ, .slice A0 AF.length Ac] 27 (0, 0)) (zK AA.out) hb); have Aw := ak (blk_below (g := AK) (o := .cells #[.int .i16 0, .slice none 0 0] 27 (0, 0)) (zK AB.out) hb); have Ax := ak (below_step (zH2 HB AE AI) hb); have Av := ak (hbox); have BO := ak ((by rw [hg]; exact (below_size (zH2 HB AE AI)) : w.heap.size ≤ AG)); have BQ := ak ((by rw [hg]; exact (below_size (zH2 HB AE AI)) : w.heap.size ≤ AG)); have BR := nL AA hg; have Be := nG AA hg; have BY := nL AB hg; have Bf := nG AB hg; clear AA AB HB; have AA := Ay; have AB := Aw; have HB := Ax; have AC := Av; have CZ := BO; have AL := BQ; have An := BR; have Aq := Be; have Aj := BY; have Ai := Bf; clear Ay Aw Ax Av BO BQ BR Be BY Bf; clear hb hbox hg; have Gv := Ao.out; have G1 := Ap.out; have HK := An.out; have HC := Aq.out; have EX : Cj.cell? ⟨AD, 0, none⟩ = some (.int .i16 AZ) := (blk_cell AA.out 0).trans rfl; have Fh : Cj.cell? ⟨AD, 1, none⟩ = some (.slice A0 AF.length Ac) := (blk_cell AA.out 1).trans rfl; have FV := blk_frozen AA.out 0; have EP := blk_frozen AA.out 1) | ((with_reducible refine gate_callee (f := 42) rfl ?_); refine goesL_ (some 14) rfl rfl Tryz.func42 (by kernel_rfl) rfl #[.slice A0 AF.length Ac] rfl gl_ ?_; (with_reducible refine (impl_size_int16.calls _ _ AF A2 _ ?side1 ?side2 A3.out).mono ?_); (case side1 => exact sQ (Kd.C_below BI.out HB.out)); (case side2 => exact BN.out); rintro e w' ⟨rfl, ⟨nd, rfl⟩⟩; refine ⟨_, rfl, ?_⟩; (try (rw [drewN_self Cj]; generalize BC : World.drewN Cj _ = Cj; have Ay : Aside0 (Cj.heap[AD]? = some (.cells #[.int .i16 AZ, .slice A0 AF.length Ac] 27 (0, 0))) := ⟨by rw [← BC]; exact (zK AA.out)⟩; have Aw : Aside0 (Cj.heap[AK]? = some (.cells #[.int .i16 0, .slice none 0 0] 27 (0, 0))) := ⟨by rw [← BC]; exact (zK AB.out)⟩; have Ax : Aside0 (Cj.heap[AG]? = some (.cells #[.int .i16 0, .slice none 0 0] 27 (0, 0))) := ⟨by rw [← BC]; exact (zK AC.out)⟩; have Av : Aside0 (Below w.heap.size w Cj) := ⟨by rw [← BC]; exact (zH3 HB AE AI AL)⟩; clear AA AB AC HB BC; have AA := Ay; have AB := Aw; have AC := Ax; have HB := Av; clear Ay Aw Ax Av)); obtain ⟨hcy_0, hcy_1, hfy_0, hfy_1⟩ := cz2 Cj AA) | ((with_reducible refine gate_callee (f := 13) rfl ?_); refine goesL_ (some 18) rfl rfl Tryz.func13 (by kernel_rfl) rfl #[.agg #[.int .i16 AZ, .slice A0 AF.length Ac]] rfl gl_ ?_; (with_reducible refine (impl_ValidRope.calls k AZ _ _ AF true _ ?side1 ?side2 A4.out).mono ?_); (case side1 => exact sQ (Kd.C_below BI.out HB.out)); (case side2 => exact BN.out); rintro e Ci ⟨rfl, hb⟩; refine ⟨_, rfl, ?_⟩; have Ay := ak (blk_below (g := AD) (o := .cells #[.int .i16 AZ, .slice A0 AF.length Ac] 27 (0, 0)) (zK AA.out) hb); have Aw := ak (blk_below (g := AK) (o := .cells #[.int .i16 0, .slice none 0 0] 27 (0, 0)) (zK AB.out) hb); have Ax := ak (blk_below (g := AG) (o := .cells #[.int .i16 0, .slice none 0 0] 27 (0, 0)) (zK AC.out) hb); have Av := ak (below_step (zH3 HB AE AI AL) hb); clear AA AB AC HB; have AA := Ay; have AB := Aw; have AC := Ax; have HB := Av; clear Ay Aw Ax Av; (try clear hb); (try clear hb2); (try clear hk); (try clear hi)) | ((with_reducible refine gate_callee (f := 41) rfl ?_); refine goesL_ (some 25) rfl rfl Tryz.func41 (by kernel_rfl) rfl #[.int .i64 a1, .int .i64 0, .int .i64 (wrap64 (A2 - 1))] rfl gl_ ?_; (with_reducible refine (impl_within.calls a1 0 (wrap64 (A2 - 1)) true _ A6.out).mono ?_); rintro e w' ⟨rfl, ⟨nd, rfl⟩⟩; refine ⟨_, rfl, ?_⟩; (try (rw [drewN_self Ci]; generalize BC : World.drewN Ci _ = Ci; have Ay : Aside0 (Ci.heap[AD]? = some (.cells #[.int .i16 AZ, .slice A0 AF.length Ac] 27 (0, 0))) := ⟨by rw [← BC]; exact (zK AA.out)⟩; have Aw : Aside0 (Ci.heap[AK]? = some (.cells #[.int .i16 0, .slice none 0 0] 27 (0, 0))) := ⟨by rw [← BC]; exact (zK AB.out)⟩; have Ax : Aside0 (Ci.heap[AG]? = some (.cells #[.int .i16 0, .slice none 0 0] 27 (0, 0))) := ⟨by rw [← BC]; exact (zK AC.out)⟩; have Av : Aside0 (Below w.heap.size w Ci) := ⟨by rw [← BC]; exact (zH3 HB AE AI AL)⟩; clear AA AB AC HB BC; have AA := Ay; have AB := Aw; have AC := Ax; have HB := Av; clear Ay Aw Ax Av)); have Ew : Ci.cell? ⟨AD, 0, none⟩ = some (.int .i16 AZ) := (blk_cell AA.out 0).trans rfl; have EB : Ci.cell? ⟨AD, 1, none⟩ = some (.slice A0 AF.length Ac) := (blk_cell AA.out 1).trans rfl; have Fm := blk_frozen AA.out 0; have D7 := blk_frozen AA.out 1; have C9 : 0 ≤ (a1 : Int) := of_decide_eq_true (by assumption); have DB : a1 < (AF.length : Int) := of_decide_eq_true (by assumption); obtain ⟨Ah, Fo, Bv⟩ := Kd.at_int BI.out a1 C9 DB; cases Fo; replace Bv := (HB.out.cell (World.block_lt_of_cell? w _ Bv)).trans Bv; replace C9 := eq_true C9; replace DB := eq_true DB))
 replace AA := ak (blk_drew AA.out)
 replace AB := ak (blk_drew AB.out)
 replace AC := ak (blk_drew AC.out)
 replace HB := ak (below_drew1 HB.out)
 obtain ⟨HY, C5, _, C3, _⟩ := info_parts info24
 obtain ⟨F7, DM, Dm⟩ := print_take_of (P := Tryz.prog) (Value.int .i16) 0 25 24 .i64 Tryz.underlying25 C5 C3 (some Ah) Ac AF (A7) (of_decide_eq_true (by assumption)) (of_decide_eq_true (by assumption)) BN.out
 have Bz := ak (Kd.C_of_reads (h1 := fun _ => rfl) (DM _ (Kd.reads_of_C BI.out)))
 have CX := ak Dm
 clear DM Dm C5 C3
 (try have Hf : Aside0 (((A7) : Int) ≤ (AF.length : Int)) := ak (of_decide_eq_true (by assumption)))
 obtain ⟨HV, C2, _, C1, _⟩ := info_parts info24
 obtain ⟨Dz, Fp, Dk, DR⟩ := print_drop_of (P := Tryz.prog) (Value.int .i16) 0 25 24 .i64 Tryz.underlying25 C2 C1 (some Ah) Ac AF a1 (of_decide_eq_true (by assumption)) (of_decide_eq_true (by assumption)) BN.out
 have CK := ak (Kd.C_of_reads (h1 := fun _ => rfl) (Dk _ (Kd.reads_of_C BI.out)))
 have CY := ak DR
 clear Dk DR C2 C1
 refine start_ (n := 22) (S := fun w' => w'.cell? ⟨AD, 0, none⟩ = some (.int .i16 AZ) ∧ w'.cell? ⟨AD, 1, none⟩ = some (.slice (some Ah) AF.length Ac)) (ds := []) (bA 22 0) (by kernel_rfl) rfl rfl ⟨(blk_cell AA.out 0).trans rfl, (blk_cell AA.out 1).trans rfl⟩ (fun hHeld => ?_); refine with_tabW impl_CutRope.tab9 impl_CutRope.bits9 (fun HT_ HW_ => ?_)
 generalize Ci.drew = Hk at AA AB AC HB Bz CK hHeld ⊢
 refine pU 0 44 (bA 22 1) HT_ ?_
 refine pU 1 45 (bA 22 3) HT_ ?_
 refine pU 3 47 (bA 22 11) HT_ ?_
 refine pU 4 48 (bA 22 27) HT_ ?_
 refine pU 8 52 (bA 22 283) HT_ ?_
 refine pU 10 54 (bA 22 1307) HT_ ?_
 refine pU 12 56 (bA 22 5403) HT_ ?_
 refine pU 14 58 (bA 22 21787) HT_ ?_
 refine tK 2 46 (bA 22 21791) HT_ HW_ hHeld ?_
 refine pU 5 49 (bA 22 21823) HT_ ?_
 refine tK 9 53 (bA 22 22335) HT_ HW_ hHeld ?_
 refine pU 11 55 (bA 22 24383) HT_ ?_
 refine tK 13 57 (bA 22 32575) HT_ HW_ hHeld ?_
 refine pU 15 59 (bA 22 65343) HT_ ?_
 refine join_ (σ := Value × Value × Nat × Nat) 2 #[true, true, true, true, true, true, true, true, true, true, true, true, true, true, true, true, true, true, true, true, false, false] (fun s_ => [(50, s_.1), (60, s_.2.1), (9, .pointer (some ⟨s_.2.2.1, 0, none⟩)), (10, .pointer (some ⟨s_.2.2.2, 0, none⟩)), (51, .agg #[.int .i16 (rd AF a1), s_.1]), (61, .agg #[.int .i16 (IntKind.i16.wrap (AZ - (rd AF a1))), s_.2.1])]) (fun s_ w' => (w'.cell? ⟨AD, 0, none⟩ = some (.int .i16 AZ) ∧ w'.cell? ⟨AD, 1, none⟩ = some (.slice (some Ah) AF.length Ac)) ∧ (Kd.R (Kd.int .i16) 24 w' w.heap.size (fun k_ => some k_ ≠ (s_.2.1 : Value).ownBlock) s_.1 Ar) ∧ (Kd.R (Kd.int .i16) 24 w' w.heap.size (fun k_ => some k_ ≠ (s_.1 : Value).ownBlock) s_.2.1 A5) ∧ (w'.heap[AD]? = some (.cells #[.int .i16 AZ, .slice (some Ah) AF.length Ac] 27 (0, 0))) ∧ (w'.heap[AK]? = some (.cells #[.int .i16 0, .slice none 0 0] 27 (0, 0))) ∧ (w'.heap[AG]? = some (.cells #[.int .i16 0, .slice none 0 0] 27 (0, 0))) ∧ (w'.heap[s_.2.2.1]? = some (.cells #[.int .i16 0, .slice none 0 0] 27 (0, 0))) ∧ (w'.heap[s_.2.2.2]? = some (.cells #[.int .i16 0, .slice none 0 0] 27 (0, 0))) ∧ (w.heap.size ≤ s_.2.2.1) ∧ (w.heap.size ≤ s_.2.2.1) ∧ (AD ≠ s_.2.2.1) ∧ (s_.2.2.1 ≠ AD) ∧ (AK ≠ s_.2.2.1) ∧ (s_.2.2.1 ≠ AK) ∧ (AG ≠ s_.2.2.1) ∧ (s_.2.2.1 ≠ AG) ∧ (s_.2.2.2 ≠ s_.2.2.1) ∧ (s_.2.2.1 ≠ s_.2.2.2) ∧ (w.heap.size ≤ s_.2.2.2) ∧ (w.heap.size ≤ s_.2.2.2) ∧ (AD ≠ s_.2.2.2) ∧ (s_.2.2.2 ≠ AD) ∧ (AK ≠ s_.2.2.2) ∧ (s_.2.2.2 ≠ AK) ∧ (AG ≠ s_.2.2.2) ∧ (s_.2.2.2 ≠ AG) ∧ (Below w.heap.size w w')) ?_ ?_
 rotate_left
 {
 intro BL
 refine join_ (σ := Value × Value × Nat) 3 #[true, true, true, true, true, true, true, true, true, true, true, true, true, true, true, true, true, true, true, false, false, false] (fun s_ => [(50, s_.1), (60, s_.2.1), (9, .pointer (some ⟨s_.2.2, 0, none⟩)), (51, .agg #[.int .i16 (rd AF a1), s_.1]), (61, .agg #[.int .i16 (IntKind.i16.wrap (AZ - (rd AF a1))), s_.2.1])]) (fun s_ w' => (w'.cell? ⟨AD, 0, none⟩ = some (.int .i16 AZ) ∧ w'.cell? ⟨AD, 1, none⟩ = some (.slice (some Ah) AF.length Ac)) ∧ (Kd.R (Kd.int .i16) 24 w' w.heap.size (fun k_ => some k_ ≠ (s_.2.1 : Value).ownBlock) s_.1 Ar) ∧ (Kd.R (Kd.int .i16) 24 w' w.heap.size (fun k_ => some k_ ≠ (s_.1 : Value).ownBlock) s_.2.1 A5) ∧ (w'.heap[AD]? = some (.cells #[.int .i16 AZ, .slice (some Ah) AF.length Ac] 27 (0, 0))) ∧ (w'.heap[AK]? = some (.cells #[.int .i16 0, .slice none 0 0] 27 (0, 0))) ∧ (w'.heap[AG]? = some (.cells #[.int .i16 0, .slice none 0 0] 27 (0, 0))) ∧ (w'.heap[s_.2.2]? = some (.cells #[.int .i16 0, .slice none 0 0] 27 (0, 0))) ∧ (w.heap.size ≤ s_.2.2) ∧ (w.heap.size ≤ s_.2.2) ∧ (AD ≠ s_.2.2) ∧ (s_.2.2 ≠ AD) ∧ (AK ≠ s_.2.2) ∧ (s_.2.2 ≠ AK) ∧ (AG ≠ s_.2.2) ∧ (s_.2.2 ≠ AG) ∧ (Below w.heap.size w w')) ?_ ?_
 rotate_left
 {
 intro Bt
 refine join_ (σ := Value × Value × Nat) 3 #[true, true, true, true, true, true, true, true, true, true, true, true, true, true, true, true, true, true, false, true, false, false] (fun s_ => [(50, s_.1), (60, s_.2.1), (10, .pointer (some ⟨s_.2.2, 0, none⟩)), (51, .agg #[.int .i16 (rd AF a1), s_.1]), (61, .agg #[.int .i16 (IntKind.i16.wrap (AZ - (rd AF a1))), s_.2.1])]) (fun s_ w' => (w'.cell? ⟨AD, 0, none⟩ = some (.int .i16 AZ) ∧ w'.cell? ⟨AD, 1, none⟩ = some (.slice (some Ah) AF.length Ac)) ∧ (Kd.R (Kd.int .i16) 24 w' w.heap.size (fun k_ => some k_ ≠ (s_.2.1 : Value).ownBlock) s_.1 Ar) ∧ (Kd.R (Kd.int .i16) 24 w' w.heap.size (fun k_ => some k_ ≠ (s_.1 : Value).ownBlock) s_.2.1 A5) ∧ (w'.heap[AD]? = some (.cells #[.int .i16 AZ, .slice (some Ah) AF.length Ac] 27 (0, 0))) ∧ (w'.heap[AK]? = some (.cells #[.int .i16 0, .slice none 0 0] 27 (0, 0))) ∧ (w'.heap[AG]? = some (.cells #[.int .i16 0, .slice none 0 0] 27 (0, 0))) ∧ (w'.heap[s_.2.2]? = some (.cells #[.int .i16 0, .slice none 0 0] 27 (0, 0))) ∧ (w.heap.size ≤ s_.2.2) ∧ (w.heap.size ≤ s_.2.2) ∧ (AD ≠ s_.2.2) ∧ (s_.2.2 ≠ AD) ∧ (AK ≠ s_.2.2) ∧ (s_.2.2 ≠ AK) ∧ (AG ≠ s_.2.2) ∧ (s_.2.2 ≠ AG) ∧ (Below w.heap.size w w')) ?_ ?_
 rotate_left
 {
 intro Bs
 refine join_ (σ := Value × Nat × Nat) 4 #[true, true, true, true, true, true, true, true, true, true, true, true, true, true, true, true, false, false, true, true, false, false] (fun s_ => [(50, s_.1), (9, .pointer (some ⟨s_.2.1, 0, none⟩)), (10, .pointer (some ⟨s_.2.2, 0, none⟩)), (51, .agg #[.int .i16 (rd AF a1), s_.1])]) (fun s_ w' => (w'.cell? ⟨AD, 0, none⟩ = some (.int .i16 AZ) ∧ w'.cell? ⟨AD, 1, none⟩ = some (.slice (some Ah) AF.length Ac)) ∧ (Kd.R (Kd.int .i16) 24 w' w.heap.size (fun _ => True) s_.1 Ar) ∧ (w'.heap[AD]? = some (.cells #[.int .i16 AZ, .slice (some Ah) AF.length Ac] 27 (0, 0))) ∧ (w'.heap[AK]? = some (.cells #[.int .i16 0, .slice none 0 0] 27 (0, 0))) ∧ (w'.heap[AG]? = some (.cells #[.int .i16 0, .slice none 0 0] 27 (0, 0))) ∧ (w'.heap[s_.2.1]? = some (.cells #[.int .i16 0, .slice none 0 0] 27 (0, 0))) ∧ (w'.heap[s_.2.2]? = some (.cells #[.int .i16 0, .slice none 0 0] 27 (0, 0))) ∧ (w.heap.size ≤ s_.2.1) ∧ (w.heap.size ≤ s_.2.1) ∧ (AD ≠ s_.2.1) ∧ (s_.2.1 ≠ AD) ∧ (AK ≠ s_.2.1) ∧ (s_.2.1 ≠ AK) ∧ (AG ≠ s_.2.1) ∧ (s_.2.1 ≠ AG) ∧ (s_.2.2 ≠ s_.2.1) ∧ (s_.2.1 ≠ s_.2.2) ∧ (w.heap.size ≤ s_.2.2) ∧ (w.heap.size ≤ s_.2.2) ∧ (AD ≠ s_.2.2) ∧ (s_.2.2 ≠ AD) ∧ (AK ≠ s_.2.2) ∧ (s_.2.2 ≠ AK) ∧ (AG ≠ s_.2.2) ∧ (s_.2.2 ≠ AG) ∧ (Below w.heap.size w w')) ?_ ?_
 rotate_left
 {
 intro Bg
 refine join_ (σ := Value × Value) 4 #[true, true, true, true, true, true, true, true, true, true, true, true, true, true, true, true, true, true, false, false, false, false] (fun s_ => [(50, s_.1), (60, s_.2), (51, .agg #[.int .i16 (rd AF a1), s_.1]), (61, .agg #[.int .i16 (IntKind.i16.wrap (AZ - (rd AF a1))), s_.2])]) (fun s_ w' => (w'.cell? ⟨AD, 0, none⟩ = some (.int .i16 AZ) ∧ w'.cell? ⟨AD, 1, none⟩ = some (.slice (some Ah) AF.length Ac)) ∧ (Kd.R (Kd.int .i16) 24 w' w.heap.size (fun k_ => some k_ ≠ (s_.2 : Value).ownBlock) s_.1 Ar) ∧ (Kd.R (Kd.int .i16) 24 w' w.heap.size (fun k_ => some k_ ≠ (s_.1 : Value).ownBlock) s_.2 A5) ∧ (w'.heap[AD]? = some (.cells #[.int .i16 AZ, .slice (some Ah) AF.length Ac] 27 (0, 0))) ∧ (w'.heap[AK]? = some (.cells #[.int .i16 0, .slice none 0 0] 27 (0, 0))) ∧ (w'.heap[AG]? = some (.cells #[.int .i16 0, .slice none 0 0] 27 (0, 0))) ∧ (Below w.heap.size w w')) ?_ ?_
 rotate_left
 {
 intro DE
 refine join_ (σ := Value × Nat) 5 #[true, true, true, true, true, true, true, true, true, true, true, true, true, true, true, true, false, false, true, false, false, false] (fun s_ => [(50, s_.1), (9, .pointer (some ⟨s_.2, 0, none⟩)), (51, .agg #[.int .i16 (rd AF a1), s_.1])]) (fun s_ w' => (w'.cell? ⟨AD, 0, none⟩ = some (.int .i16 AZ) ∧ w'.cell? ⟨AD, 1, none⟩ = some (.slice (some Ah) AF.length Ac)) ∧ (Kd.R (Kd.int .i16) 24 w' w.heap.size (fun _ => True) s_.1 Ar) ∧ (w'.heap[AD]? = some (.cells #[.int .i16 AZ, .slice (some Ah) AF.length Ac] 27 (0, 0))) ∧ (w'.heap[AK]? = some (.cells #[.int .i16 0, .slice none 0 0] 27 (0, 0))) ∧ (w'.heap[AG]? = some (.cells #[.int .i16 0, .slice none 0 0] 27 (0, 0))) ∧ (w'.heap[s_.2]? = some (.cells #[.int .i16 0, .slice none 0 0] 27 (0, 0))) ∧ (w.heap.size ≤ s_.2) ∧ (w.heap.size ≤ s_.2) ∧ (AD ≠ s_.2) ∧ (s_.2 ≠ AD) ∧ (AK ≠ s_.2) ∧ (s_.2 ≠ AK) ∧ (AG ≠ s_.2) ∧ (s_.2 ≠ AG) ∧ (Below w.heap.size w w')) ?_ ?_
 rotate_left
 {
 intro Ch
 refine join_ (σ := Value × Nat) 5 #[true, true, true, true, true, true, true, true, true, true, true, true, true, true, true, true, false, false, false, true, false, false] (fun s_ => [(50, s_.1), (10, .pointer (some ⟨s_.2, 0, none⟩)), (51, .agg #[.int .i16 (rd AF a1), s_.1])]) (fun s_ w' => (w'.cell? ⟨AD, 0, none⟩ = some (.int .i16 AZ) ∧ w'.cell? ⟨AD, 1, none⟩ = some (.slice (some Ah) AF.length Ac)) ∧ (Kd.R (Kd.int .i16) 24 w' w.heap.size (fun _ => True) s_.1 Ar) ∧ (w'.heap[AD]? = some (.cells #[.int .i16 AZ, .slice (some Ah) AF.length Ac] 27 (0, 0))) ∧ (w'.heap[AK]? = some (.cells #[.int .i16 0, .slice none 0 0] 27 (0, 0))) ∧ (w'.heap[AG]? = some (.cells #[.int .i16 0, .slice none 0 0] 27 (0, 0))) ∧ (w'.heap[s_.2]? = some (.cells #[.int .i16 0, .slice none 0 0] 27 (0, 0))) ∧ (w.heap.size ≤ s_.2) ∧ (w.heap.size ≤ s_.2) ∧ (AD ≠ s_.2) ∧ (s_.2 ≠ AD) ∧ (AK ≠ s_.2) ∧ (s_.2 ≠ AK) ∧ (AG ≠ s_.2) ∧ (s_.2 ≠ AG) ∧ (Below w.heap.size w w')) ?_ ?_
 rotate_left
 {
 intro Cg
 refine join_ (σ := Nat × Nat) 6 #[true, true, true, true, true, true, false, false, true, true, true, true, true, true, true, true, false, false, true, true, false, false] (fun s_ => [(9, .pointer (some ⟨s_.1, 0, none⟩)), (10, .pointer (some ⟨s_.2, 0, none⟩))]) (fun s_ w' => (w'.cell? ⟨AD, 0, none⟩ = some (.int .i16 AZ) ∧ w'.cell? ⟨AD, 1, none⟩ = some (.slice (some Ah) AF.length Ac)) ∧ (w'.heap[AD]? = some (.cells #[.int .i16 AZ, .slice (some Ah) AF.length Ac] 27 (0, 0))) ∧ (w'.heap[AK]? = some (.cells #[.int .i16 0, .slice none 0 0] 27 (0, 0))) ∧ (w'.heap[AG]? = some (.cells #[.int .i16 0, .slice none 0 0] 27 (0, 0))) ∧ (w'.heap[s_.1]? = some (.cells #[.int .i16 0, .slice none 0 0] 27 (0, 0))) ∧ (w'.heap[s_.2]? = some (.cells #[.int .i16 0, .slice none 0 0] 27 (0, 0))) ∧ (w.heap.size ≤ s_.1) ∧ (w.heap.size ≤ s_.1) ∧ (AD ≠ s_.1) ∧ (s_.1 ≠ AD) ∧ (AK ≠ s_.1) ∧ (s_.1 ≠ AK) ∧ (AG ≠ s_.1) ∧ (s_.1 ≠ AG) ∧ (s_.2 ≠ s_.1) ∧ (s_.1 ≠ s_.2) ∧ (w.heap.size ≤ s_.2) ∧ (w.heap.size ≤ s_.2) ∧ (AD ≠ s_.2) ∧ (s_.2 ≠ AD) ∧ (AK ≠ s_.2) ∧ (s_.2 ≠ AK) ∧ (AG ≠ s_.2) ∧ (s_.2 ≠ AG) ∧ (Below w.heap.size w w')) ?_ ?_
 rotate_left
 {
 intro CV
 refine join_ (σ := Value) 6 #[true, true, true, true, true, true, true, true, true, true, true, true, true, true, true, true, false, false, false, false, false, false] (fun s_ => [(50, s_), (51, .agg #[.int .i16 (rd AF a1), s_])]) (fun s_ w' => (w'.cell? ⟨AD, 0, none⟩ = some (.int .i16 AZ) ∧ w'.cell? ⟨AD, 1, none⟩ = some (.slice (some Ah) AF.length Ac)) ∧ (Kd.R (Kd.int .i16) 24 w' w.heap.size (fun _ => True) s_ Ar) ∧ (w'.heap[AD]? = some (.cells #[.int .i16 AZ, .slice (some Ah) AF.length Ac] 27 (0, 0))) ∧ (w'.heap[AK]? = some (.cells #[.int .i16 0, .slice none 0 0] 27 (0, 0))) ∧ (w'.heap[AG]? = some (.cells #[.int .i16 0, .slice none 0 0] 27 (0, 0))) ∧ (Below w.heap.size w w')) ?_ ?_
 rotate_left
 {
 intro HT
 refine join_ (σ := Nat) 7 #[true, true, true, true, true, true, false, false, true, true, true, true, true, true, true, true, false, false, true, false, false, false] (fun s_ => [(9, .pointer (some ⟨s_, 0, none⟩))]) (fun s_ w' => (w'.cell? ⟨AD, 0, none⟩ = some (.int .i16 AZ) ∧ w'.cell? ⟨AD, 1, none⟩ = some (.slice (some Ah) AF.length Ac)) ∧ (w'.heap[AD]? = some (.cells #[.int .i16 AZ, .slice (some Ah) AF.length Ac] 27 (0, 0))) ∧ (w'.heap[AK]? = some (.cells #[.int .i16 0, .slice none 0 0] 27 (0, 0))) ∧ (w'.heap[AG]? = some (.cells #[.int .i16 0, .slice none 0 0] 27 (0, 0))) ∧ (w'.heap[s_]? = some (.cells #[.int .i16 0, .slice none 0 0] 27 (0, 0))) ∧ (w.heap.size ≤ s_) ∧ (w.heap.size ≤ s_) ∧ (AD ≠ s_) ∧ (s_ ≠ AD) ∧ (AK ≠ s_) ∧ (s_ ≠ AK) ∧ (AG ≠ s_) ∧ (s_ ≠ AG) ∧ (Below w.heap.size w w')) ?_ ?_
 rotate_left
 {
 intro GD
 refine join_ (σ := Nat) 7 #[true, true, true, true, true, true, false, false, true, true, true, true, true, true, true, true, false, false, false, true, false, false] (fun s_ => [(10, .pointer (some ⟨s_, 0, none⟩))]) (fun s_ w' => (w'.cell? ⟨AD, 0, none⟩ = some (.int .i16 AZ) ∧ w'.cell? ⟨AD, 1, none⟩ = some (.slice (some Ah) AF.length Ac)) ∧ (w'.heap[AD]? = some (.cells #[.int .i16 AZ, .slice (some Ah) AF.length Ac] 27 (0, 0))) ∧ (w'.heap[AK]? = some (.cells #[.int .i16 0, .slice none 0 0] 27 (0, 0))) ∧ (w'.heap[AG]? = some (.cells #[.int .i16 0, .slice none 0 0] 27 (0, 0))) ∧ (w'.heap[s_]? = some (.cells #[.int .i16 0, .slice none 0 0] 27 (0, 0))) ∧ (w.heap.size ≤ s_) ∧ (w.heap.size ≤ s_) ∧ (AD ≠ s_) ∧ (s_ ≠ AD) ∧ (AK ≠ s_) ∧ (s_ ≠ AK) ∧ (AG ≠ s_) ∧ (s_ ≠ AG) ∧ (Below w.heap.size w w')) ?_ ?_
 rotate_left
 {
 intro F0
 refine three_ (i := 6) (j := 18) (k := 19) (Ni := some 50) (Nj := some 9) (Nk := some 10) #[true, true, true, true, true, true, true, false, true, true, true, true, true, true, true, true, false, false, false, false, false, false] #[true, true, true, true, true, true, false, false, true, true, true, true, true, true, true, true, false, false, true, false, false, false] #[true, true, true, true, true, true, false, false, true, true, true, true, true, true, true, true, false, false, false, true, false, false] rfl rfl rfl rfl rfl rfl (three_of HT_.out (by kernel_rfl)) (by decide) (by decide) (by decide) (fun K hK => ?_) (fun K hK => ?_) (fun K hK => ?_)
 {
 skip
 refine goes_ Tryz.func47 (by kernel_rfl) rfl #[.slice (some Ah) (AF.take ((A7) : Int).toNat).length Ac] (by rfl) rfl rfl (by (try simp only [List.map_toArray, List.map_cons, List.map_nil]); first | done | (rw [show (AF.take ((A7) : Int).toNat).length = (A7).toNat from (by rw [List.length_take]; have h_ : ((A7) : Int) ≤ (AF.length : Int) := of_decide_eq_true (by assumption); omega)] <;> rfl) | (simp only [BP]; rfl) | rfl | (simp only [List.length_drop, List.length_take]; rfl)) ?_
 with_reducible refine (slices_Clone_Sint16_int16.calls _ _ (AF.take ((A7) : Int).toNat) Ar _ ?side1 ?side2 Ez.out).mono ?_
 (case side1 => exact sQ (Kd.C_below Bz.out HB.out))
 (case side2 => exact CX.out)
 rintro e GO ⟨BF, rfl, Bh, hb⟩
 refine ⟨_, rfl, ?_⟩
 have AX := ak (Kd.R_lower Bh (below_size (zH3 HB AE AI AL)))
 replace AA := kK AA hb
 replace AB := kK AB hb
 replace AC := kK AC hb
 replace HB := kB3 HB AE AI AL hb
 obtain ⟨F8, Fq, DS⟩ := Kd.R_slice AX.out
 (first | subst DS | (injection DS with f1_ f2_ f3_; have BH := f1_.symm; have BG := f3_.symm; clear f1_ f2_ f3_; subst BH; subst BG))
 refine hK.out _ _ ⟨(blk_cell AA.out 0).trans rfl, (blk_cell AA.out 1).trans rfl⟩ (fun hHeld => ?_)
 clear hK K
 refine norm_ (a' := ?_) ?_ ?_
 rotate_left
 {
 show Act.put _ (some 50) _ = _
 simp only [Act.put, zs, zz, zk, i64_w, i32_w]
 rfl
 }
 refine pU 7 51 (bA 22 65535) HT_ ?_
 exact norm_ (by first | (simp only [putAll, Act.put, zs, zz, zk]; done) | (simp only [putAll, Act.put, zs, zz, zk]; rfl)) (HT (.slice F8 Ar.length Fq) _ ⟨hHeld, (zR AX.out), (zK AA.out), (zK AB.out), (zK AC.out), (zH3 HB AE AI AL)⟩)
 }
 {
 skip
 refine box_step ?hg (N := 9) ?hd (cs := #[.int .i16 0, .slice none 0 0]) (t := 27) ?hr ?_; (case hd => rfl); (case hg => rfl); (case hr => first | (go_simp; done) | (go_simp; rfl))
 intro AJ hg GO hbox hb
 have Ab := ak (hbox)
 have Au := ak ((by rw [hg]; exact (below_size (zH3 HB AE AI AL)) : w.heap.size ≤ AJ))
 have Af := ak ((by rw [hg]; exact (below_size (zH3 HB AE AI AL)) : w.heap.size ≤ AJ))
 have AP := nL AA hg
 have Aa := nG AA hg
 have AU := nL AB hg
 have AS := nG AB hg
 have AV := nL AC hg
 have AQ := nG AC hg
 replace AA := kK AA hb
 replace AB := kK AB hb
 replace AC := kK AC hb
 replace HB := kB3 HB AE AI AL hb
 refine hK.out _ _ ⟨(blk_cell AA.out 0).trans rfl, (blk_cell AA.out 1).trans rfl⟩ (fun hHeld => ?_)
 clear hK K
 refine norm_ (a' := ?_) ?_ ?_
 rotate_left
 {
 show Act.put _ (some 9) _ = _
 simp only [Act.put, zs, zz, zk, i64_w, i32_w]
 rfl
 }
 exact norm_ (by first | (simp only [putAll, Act.put, zs, zz, zk]; done) | (simp only [putAll, Act.put, zs, zz, zk]; rfl)) (GD (AJ) _ ⟨hHeld, (zK AA.out), (zK AB.out), (zK AC.out), (zK Ab.out), Au.out, Af.out, AP.out, Aa.out, AU.out, AS.out, AV.out, AQ.out, (zH4 HB AE AI AL Af)⟩)
 }
 {
 skip
 refine box_step ?hg (N := 10) ?hd (cs := #[.int .i16 0, .slice none 0 0]) (t := 27) ?hr ?_; (case hd => rfl); (case hg => rfl); (case hr => first | (go_simp; done) | (go_simp; rfl))
 intro AH hg GO hbox hb
 have AW := ak (hbox)
 have At := ak ((by rw [hg]; exact (below_size (zH3 HB AE AI AL)) : w.heap.size ≤ AH))
 have Ag := ak ((by rw [hg]; exact (below_size (zH3 HB AE AI AL)) : w.heap.size ≤ AH))
 have AO := nL AA hg
 have AY := nG AA hg
 have AT := nL AB hg
 have AM := nG AB hg
 have AR := nL AC hg
 have AN := nG AC hg
 replace AA := kK AA hb
 replace AB := kK AB hb
 replace AC := kK AC hb
 replace HB := kB3 HB AE AI AL hb
 refine hK.out _ _ ⟨(blk_cell AA.out 0).trans rfl, (blk_cell AA.out 1).trans rfl⟩ (fun hHeld => ?_)
 clear hK K
 refine norm_ (a' := ?_) ?_ ?_
 rotate_left
 {
 show Act.put _ (some 10) _ = _
 simp only [Act.put, zs, zz, zk, i64_w, i32_w]
 rfl
 }
 exact norm_ (by first | (simp only [putAll, Act.put, zs, zz, zk]; done) | (simp only [putAll, Act.put, zs, zz, zk]; rfl)) (F0 (AH) _ ⟨hHeld, (zK AA.out), (zK AB.out), (zK AC.out), (zK AW.out), At.out, Ag.out, AO.out, AY.out, AT.out, AM.out, AR.out, AN.out, (zH4 HB AE AI AL Ag)⟩)
 }
 }
 {
 skip
 rintro AH CS ⟨hS_, BW, BT, BU, BV, BS, BZ, Bk, Bj, Bl, Bi, A9, BB, BE⟩
 have Ay : Aside0 (CS.heap[AD]? = some (.cells #[.int .i16 AZ, .slice (some Ah) AF.length Ac] 27 (0, 0))) := ⟨BW⟩
 have Aw : Aside0 (CS.heap[AK]? = some (.cells #[.int .i16 0, .slice none 0 0] 27 (0, 0))) := ⟨BT⟩
 have Ax : Aside0 (CS.heap[AG]? = some (.cells #[.int .i16 0, .slice none 0 0] 27 (0, 0))) := ⟨BU⟩
 have Av : Aside0 (CS.heap[AH]? = some (.cells #[.int .i16 0, .slice none 0 0] 27 (0, 0))) := ⟨BV⟩
 have BO : Aside0 (w.heap.size ≤ AH) := ⟨BS⟩
 have BQ : Aside0 (w.heap.size ≤ AH) := ⟨BZ⟩
 have BR : Aside0 (AD ≠ AH) := ⟨Bk⟩
 have Be : Aside0 (AH ≠ AD) := ⟨Bj⟩
 have BY : Aside0 (AK ≠ AH) := ⟨Bl⟩
 have Bf : Aside0 (AH ≠ AK) := ⟨Bi⟩
 have BA : Aside0 (AG ≠ AH) := ⟨A9⟩
 have BD : Aside0 (AH ≠ AG) := ⟨BB⟩
 have A8 : Aside0 (Below w.heap.size w CS) := ⟨BE⟩
 clear AA AB AC HB BW BT BU BV BS BZ Bk Bj Bl Bi A9 BB BE
 have AA := Ay
 have AB := Aw
 have AC := Ax
 have AW := Av
 have At := BO
 have Ag := BQ
 have AO := BR
 have AY := Be
 have AT := BY
 have AM := Bf
 have AR := BA
 have AN := BD
 have HB := A8
 clear Ay Aw Ax Av BO BQ BR Be BY Bf BA BD A8
 have hHeld : CS.cell? ⟨AD, 0, none⟩ = some (.int .i16 AZ) ∧ CS.cell? ⟨AD, 1, none⟩ = some (.slice (some Ah) AF.length Ac) := hS_
 refine norm_ (a' := ?_) ?_ ?_
 rotate_left
 · simp only [putAll, Act.put, zs, zz, zk]; rfl
 refine two_ (i := 6) (j := 18) (Ni := some 50) (Nj := some 9) #[true, true, true, true, true, true, true, false, true, true, true, true, true, true, true, true, false, false, false, true, false, false] #[true, true, true, true, true, true, false, false, true, true, true, true, true, true, true, true, false, false, true, true, false, false] rfl rfl rfl rfl (two_of HT_.out (by kernel_rfl)) (by decide) (by decide) (fun K hK => ?_) (fun K hK => ?_)
 {
 skip
 refine goes_ Tryz.func47 (by kernel_rfl) rfl #[.slice (some Ah) (AF.take ((A7) : Int).toNat).length Ac] (by rfl) rfl rfl (by (try simp only [List.map_toArray, List.map_cons, List.map_nil]); first | done | (rw [show (AF.take ((A7) : Int).toNat).length = (A7).toNat from (by rw [List.length_take]; have h_ : ((A7) : Int) ≤ (AF.length : Int) := of_decide_eq_true (by assumption); omega)] <;> rfl) | (simp only [BP]; rfl) | rfl | (simp only [List.length_drop, List.length_take]; rfl)) ?_
 with_reducible refine (slices_Clone_Sint16_int16.calls _ _ (AF.take ((A7) : Int).toNat) Ar _ ?side1 ?side2 Ez.out).mono ?_
 (case side1 => exact sQ (Kd.C_below Bz.out HB.out))
 (case side2 => exact CX.out)
 rintro e Br ⟨BF, rfl, Bh, hb⟩
 refine ⟨_, rfl, ?_⟩
 have AX := ak (Kd.R_lower Bh (below_size (zH4 HB AE AI AL Ag)))
 replace AA := kK AA hb
 replace AB := kK AB hb
 replace AC := kK AC hb
 replace AW := kK AW hb
 replace HB := ak (below_step (zH4 HB AE AI AL Ag) hb)
 obtain ⟨CQ, CR, CH⟩ := Kd.R_slice AX.out
 (first | subst CH | (injection CH with f1_ f2_ f3_; have BH := f1_.symm; have BG := f3_.symm; clear f1_ f2_ f3_; subst BH; subst BG))
 refine hK.out _ _ ⟨(blk_cell AA.out 0).trans rfl, (blk_cell AA.out 1).trans rfl⟩ (fun hHeld => ?_)
 clear hK K
 refine norm_ (a' := ?_) ?_ ?_
 rotate_left
 {
 show Act.put _ (some 50) _ = _
 simp only [Act.put, zs, zz, zk, i64_w, i32_w]
 rfl
 }
 refine pU 7 51 (bA 22 589823) HT_ ?_
 exact norm_ (by first | (simp only [putAll, Act.put, zs, zz, zk]; done) | (simp only [putAll, Act.put, zs, zz, zk]; rfl)) (Cg (.slice CQ Ar.length CR, AH) _ ⟨hHeld, (zR AX.out), (zK AA.out), (zK AB.out), (zK AC.out), (zK AW.out), At.out, Ag.out, AO.out, AY.out, AT.out, AM.out, AR.out, AN.out, (zH4 HB AE AI AL Ag)⟩)
 }
 {
 skip
 refine box_step ?hg (N := 9) ?hd (cs := #[.int .i16 0, .slice none 0 0]) (t := 27) ?hr ?_; (case hd => rfl); (case hg => rfl); (case hr => first | (go_simp; done) | (go_simp; rfl))
 intro AJ hg Br hbox hb
 have Ab := ak (hbox)
 have Au := ak ((by rw [hg]; exact (below_size (zH4 HB AE AI AL Ag)) : w.heap.size ≤ AJ))
 have Af := ak ((by rw [hg]; exact (below_size (zH4 HB AE AI AL Ag)) : w.heap.size ≤ AJ))
 have AP := nL AA hg
 have Aa := nG AA hg
 have AU := nL AB hg
 have AS := nG AB hg
 have AV := nL AC hg
 have AQ := nG AC hg
 have Ad := nL AW hg
 have Ae := nG AW hg
 replace AA := kK AA hb
 replace AB := kK AB hb
 replace AC := kK AC hb
 replace AW := kK AW hb
 replace HB := ak (below_step (zH4 HB AE AI AL Ag) hb)
 refine hK.out _ _ ⟨(blk_cell AA.out 0).trans rfl, (blk_cell AA.out 1).trans rfl⟩ (fun hHeld => ?_)
 clear hK K
 refine norm_ (a' := ?_) ?_ ?_
 rotate_left
 {
 show Act.put _ (some 9) _ = _
 simp only [Act.put, zs, zz, zk, i64_w, i32_w]
 rfl
 }
 exact norm_ (by first | (simp only [putAll, Act.put, zs, zz, zk]; done) | (simp only [putAll, Act.put, zs, zz, zk]; rfl)) (CV (AJ, AH) _ ⟨hHeld, (zK AA.out), (zK AB.out), (zK AC.out), (zK Ab.out), (zK AW.out), Au.out, Af.out, AP.out, Aa.out, AU.out, AS.out, AV.out, AQ.out, Ad.out, Ae.out, At.out, Ag.out, AO.out, AY.out, AT.out, AM.out, AR.out, AN.out, (zH5 HB AE AI AL Ag Af)⟩)
 }
 }
 }
 {
 skip
 rintro AJ CS ⟨hS_, BW, BT, BU, BV, BS, BZ, Bk, Bj, Bl, Bi, A9, BB, BE⟩
 have Ay : Aside0 (CS.heap[AD]? = some (.cells #[.int .i16 AZ, .slice (some Ah) AF.length Ac] 27 (0, 0))) := ⟨BW⟩
 have Aw : Aside0 (CS.heap[AK]? = some (.cells #[.int .i16 0, .slice none 0 0] 27 (0, 0))) := ⟨BT⟩
 have Ax : Aside0 (CS.heap[AG]? = some (.cells #[.int .i16 0, .slice none 0 0] 27 (0, 0))) := ⟨BU⟩
 have Av : Aside0 (CS.heap[AJ]? = some (.cells #[.int .i16 0, .slice none 0 0] 27 (0, 0))) := ⟨BV⟩
 have BO : Aside0 (w.heap.size ≤ AJ) := ⟨BS⟩
 have BQ : Aside0 (w.heap.size ≤ AJ) := ⟨BZ⟩
 have BR : Aside0 (AD ≠ AJ) := ⟨Bk⟩
 have Be : Aside0 (AJ ≠ AD) := ⟨Bj⟩
 have BY : Aside0 (AK ≠ AJ) := ⟨Bl⟩
 have Bf : Aside0 (AJ ≠ AK) := ⟨Bi⟩
 have BA : Aside0 (AG ≠ AJ) := ⟨A9⟩
 have BD : Aside0 (AJ ≠ AG) := ⟨BB⟩
 have A8 : Aside0 (Below w.heap.size w CS) := ⟨BE⟩
 clear AA AB AC HB BW BT BU BV BS BZ Bk Bj Bl Bi A9 BB BE
 have AA := Ay
 have AB := Aw
 have AC := Ax
 have Ab := Av
 have Au := BO
 have Af := BQ
 have AP := BR
 have Aa := Be
 have AU := BY
 have AS := Bf
 have AV := BA
 have AQ := BD
 have HB := A8
 clear Ay Aw Ax Av BO BQ BR Be BY Bf BA BD A8
 have hHeld : CS.cell? ⟨AD, 0, none⟩ = some (.int .i16 AZ) ∧ CS.cell? ⟨AD, 1, none⟩ = some (.slice (some Ah) AF.length Ac) := hS_
 refine norm_ (a' := ?_) ?_ ?_
 rotate_left
 · simp only [putAll, Act.put, zs, zz, zk]; rfl
 refine two_ (i := 6) (j := 19) (Ni := some 50) (Nj := some 10) #[true, true, true, true, true, true, true, false, true, true, true, true, true, true, true, true, false, false, true, false, false, false] #[true, true, true, true, true, true, false, false, true, true, true, true, true, true, true, true, false, false, true, true, false, false] rfl rfl rfl rfl (two_of HT_.out (by kernel_rfl)) (by decide) (by decide) (fun K hK => ?_) (fun K hK => ?_)
 {
 skip
 refine goes_ Tryz.func47 (by kernel_rfl) rfl #[.slice (some Ah) (AF.take ((A7) : Int).toNat).length Ac] (by rfl) rfl rfl (by (try simp only [List.map_toArray, List.map_cons, List.map_nil]); first | done | (rw [show (AF.take ((A7) : Int).toNat).length = (A7).toNat from (by rw [List.length_take]; have h_ : ((A7) : Int) ≤ (AF.length : Int) := of_decide_eq_true (by assumption); omega)] <;> rfl) | (simp only [BP]; rfl) | rfl | (simp only [List.length_drop, List.length_take]; rfl)) ?_
 with_reducible refine (slices_Clone_Sint16_int16.calls _ _ (AF.take ((A7) : Int).toNat) Ar _ ?side1 ?side2 Ez.out).mono ?_
 (case side1 => exact sQ (Kd.C_below Bz.out HB.out))
 (case side2 => exact CX.out)
 rintro e Br ⟨BF, rfl, Bh, hb⟩
 refine ⟨_, rfl, ?_⟩
 have AX := ak (Kd.R_lower Bh (below_size (zH4 HB AE AI AL Af)))
 replace AA := kK AA hb
 replace AB := kK AB hb
 replace AC := kK AC hb
 replace Ab := kK Ab hb
 replace HB := ak (below_step (zH4 HB AE AI AL Af) hb)
 obtain ⟨CQ, CR, CH⟩ := Kd.R_slice AX.out
 (first | subst CH | (injection CH with f1_ f2_ f3_; have BH := f1_.symm; have BG := f3_.symm; clear f1_ f2_ f3_; subst BH; subst BG))
 refine hK.out _ _ ⟨(blk_cell AA.out 0).trans rfl, (blk_cell AA.out 1).trans rfl⟩ (fun hHeld => ?_)
 clear hK K
 refine norm_ (a' := ?_) ?_ ?_
 rotate_left
 {
 show Act.put _ (some 50) _ = _
 simp only [Act.put, zs, zz, zk, i64_w, i32_w]
 rfl
 }
 refine pU 7 51 (bA 22 327679) HT_ ?_
 exact norm_ (by first | (simp only [putAll, Act.put, zs, zz, zk]; done) | (simp only [putAll, Act.put, zs, zz, zk]; rfl)) (Ch (.slice CQ Ar.length CR, AJ) _ ⟨hHeld, (zR AX.out), (zK AA.out), (zK AB.out), (zK AC.out), (zK Ab.out), Au.out, Af.out, AP.out, Aa.out, AU.out, AS.out, AV.out, AQ.out, (zH4 HB AE AI AL Af)⟩)
 }
 {
 skip
 refine box_step ?hg (N := 10) ?hd (cs := #[.int .i16 0, .slice none 0 0]) (t := 27) ?hr ?_; (case hd => rfl); (case hg => rfl); (case hr => first | (go_simp; done) | (go_simp; rfl))
 intro AH hg Br hbox hb
 have AW := ak (hbox)
 have At := ak ((by rw [hg]; exact (below_size (zH4 HB AE AI AL Af)) : w.heap.size ≤ AH))
 have Ag := ak ((by rw [hg]; exact (below_size (zH4 HB AE AI AL Af)) : w.heap.size ≤ AH))
 have AO := nL AA hg
 have AY := nG AA hg
 have AT := nL AB hg
 have AM := nG AB hg
 have AR := nL AC hg
 have AN := nG AC hg
 have Ae := nL Ab hg
 have Ad := nG Ab hg
 replace AA := kK AA hb
 replace AB := kK AB hb
 replace AC := kK AC hb
 replace Ab := kK Ab hb
 replace HB := ak (below_step (zH4 HB AE AI AL Af) hb)
 refine hK.out _ _ ⟨(blk_cell AA.out 0).trans rfl, (blk_cell AA.out 1).trans rfl⟩ (fun hHeld => ?_)
 clear hK K
 refine norm_ (a' := ?_) ?_ ?_
 rotate_left
 {
 show Act.put _ (some 10) _ = _
 simp only [Act.put, zs, zz, zk, i64_w, i32_w]
 rfl
 }
 exact norm_ (by first | (simp only [putAll, Act.put, zs, zz, zk]; done) | (simp only [putAll, Act.put, zs, zz, zk]; rfl)) (CV (AJ, AH) _ ⟨hHeld, (zK AA.out), (zK AB.out), (zK AC.out), (zK Ab.out), (zK AW.out), Au.out, Af.out, AP.out, Aa.out, AU.out, AS.out, AV.out, AQ.out, Ad.out, Ae.out, At.out, Ag.out, AO.out, AY.out, AT.out, AM.out, AR.out, AN.out, (zH5 HB AE AI AL Af Ag)⟩)
 }
 }
 }
 {
 skip
 rintro BF Br ⟨hS_, BW, BT, BU, BV, BS⟩
 have Ay : Aside0 (Kd.R (Kd.int .i16) 24 Br w.heap.size (fun _ => True) BF Ar) := ⟨BW⟩
 have Aw : Aside0 (Br.heap[AD]? = some (.cells #[.int .i16 AZ, .slice (some Ah) AF.length Ac] 27 (0, 0))) := ⟨BT⟩
 have Ax : Aside0 (Br.heap[AK]? = some (.cells #[.int .i16 0, .slice none 0 0] 27 (0, 0))) := ⟨BU⟩
 have Av : Aside0 (Br.heap[AG]? = some (.cells #[.int .i16 0, .slice none 0 0] 27 (0, 0))) := ⟨BV⟩
 have BO : Aside0 (Below w.heap.size w Br) := ⟨BS⟩
 clear AA AB AC HB BW BT BU BV BS
 have AX := Ay
 have AA := Aw
 have AB := Ax
 have AC := Av
 have HB := BO
 clear Ay Aw Ax Av BO
 have hHeld : Br.cell? ⟨AD, 0, none⟩ = some (.int .i16 AZ) ∧ Br.cell? ⟨AD, 1, none⟩ = some (.slice (some Ah) AF.length Ac) := hS_
 obtain ⟨CQ, CR, CH⟩ := Kd.R_slice AX.out
 (first | subst CH | (injection CH with f1_ f2_ f3_; have BH := f1_.symm; have BG := f3_.symm; clear f1_ f2_ f3_; subst BH; subst BG))
 refine norm_ (a' := ?_) ?_ ?_
 rotate_left
 · simp only [putAll, Act.put, zs, zz, zk]; rfl
 refine three_ (i := 16) (j := 18) (k := 19) (Ni := some 60) (Nj := some 9) (Nk := some 10) #[true, true, true, true, true, true, true, true, true, true, true, true, true, true, true, true, true, false, false, false, false, false] #[true, true, true, true, true, true, true, true, true, true, true, true, true, true, true, true, false, false, true, false, false, false] #[true, true, true, true, true, true, true, true, true, true, true, true, true, true, true, true, false, false, false, true, false, false] rfl rfl rfl rfl rfl rfl (three_of HT_.out (by kernel_rfl)) (by decide) (by decide) (by decide) (fun K hK => ?_) (fun K hK => ?_) (fun K hK => ?_)
 {
 skip
 refine goes_ Tryz.func47 (by kernel_rfl) rfl #[.slice Dz (AF.drop (a1 : Int).toNat).length (Ac - a1.toNat)] (by rfl) rfl rfl (by (try simp only [List.map_toArray, List.map_cons, List.map_nil]); first | done | (rw [show (AF.drop (a1 : Int).toNat).length = (AF.length - a1.toNat) from List.length_drop] <;> rfl) | rfl | (simp only [List.length_drop, List.length_take]; rfl)) ?_
 with_reducible refine (slices_Clone_Sint16_int16.calls _ _ (AF.drop (a1 : Int).toNat) A5 _ ?side1 ?side2 EU.out).mono ?_
 (case side1 => exact sQ (Kd.C_below CK.out HB.out))
 (case side2 => exact CY.out)
 rintro e Bq ⟨BX, rfl, Bh, hb⟩
 refine ⟨_, rfl, ?_⟩
 have Am := ak (Kd.R_lower (Kd.R_new' Bh (Kd.R_lt (zR AX.out))) (below_size (zH3 HB AE AI AL)))
 replace AX := kE AX Bh hb
 replace AA := kK AA hb
 replace AB := kK AB hb
 replace AC := kK AC hb
 replace HB := kB3 HB AE AI AL hb
 obtain ⟨Cc, Cb, CG⟩ := Kd.R_slice Am.out
 (first | subst CG | (injection CG with f1_ f2_ f3_; have BH := f1_.symm; have BG := f3_.symm; clear f1_ f2_ f3_; subst BH; subst BG))
 refine hK.out _ _ ⟨(blk_cell AA.out 0).trans rfl, (blk_cell AA.out 1).trans rfl⟩ (fun hHeld => ?_)
 clear hK K
 refine norm_ (a' := ?_) ?_ ?_
 rotate_left
 {
 show Act.put _ (some 60) _ = _
 simp only [Act.put, zs, zz, zk, i64_w, i32_w]
 rfl
 }
 refine pU 17 61 (bA 22 262143) HT_ ?_
 exact norm_ (by first | (simp only [putAll, Act.put, zs, zz, zk]; done) | (simp only [putAll, Act.put, zs, zz, zk]; rfl)) (DE (.slice CQ Ar.length CR, .slice Cc A5.length Cb) _ ⟨hHeld, (Kd.R_mono AX.out (fun _ hk => hk.2)), (Kd.R_mono Am.out (fun _ hk => hk.2)), (zK AA.out), (zK AB.out), (zK AC.out), (zH3 HB AE AI AL)⟩)
 }
 {
 skip
 refine box_step ?hg (N := 9) ?hd (cs := #[.int .i16 0, .slice none 0 0]) (t := 27) ?hr ?_; (case hd => rfl); (case hg => rfl); (case hr => first | (go_simp; done) | (go_simp; rfl))
 intro AJ hg Bq hbox hb
 have Ab := ak (hbox)
 have Au := ak ((by rw [hg]; exact (below_size (zH3 HB AE AI AL)) : w.heap.size ≤ AJ))
 have Af := ak ((by rw [hg]; exact (below_size (zH3 HB AE AI AL)) : w.heap.size ≤ AJ))
 have AP := nL AA hg
 have Aa := nG AA hg
 have AU := nL AB hg
 have AS := nG AB hg
 have AV := nL AC hg
 have AQ := nG AC hg
 replace AX := kR AX hb
 replace AA := kK AA hb
 replace AB := kK AB hb
 replace AC := kK AC hb
 replace HB := kB3 HB AE AI AL hb
 refine hK.out _ _ ⟨(blk_cell AA.out 0).trans rfl, (blk_cell AA.out 1).trans rfl⟩ (fun hHeld => ?_)
 clear hK K
 refine norm_ (a' := ?_) ?_ ?_
 rotate_left
 {
 show Act.put _ (some 9) _ = _
 simp only [Act.put, zs, zz, zk, i64_w, i32_w]
 rfl
 }
 exact norm_ (by first | (simp only [putAll, Act.put, zs, zz, zk]; done) | (simp only [putAll, Act.put, zs, zz, zk]; rfl)) (Ch (.slice CQ Ar.length CR, AJ) _ ⟨hHeld, (zR AX.out), (zK AA.out), (zK AB.out), (zK AC.out), (zK Ab.out), Au.out, Af.out, AP.out, Aa.out, AU.out, AS.out, AV.out, AQ.out, (zH4 HB AE AI AL Af)⟩)
 }
 {
 skip
 refine box_step ?hg (N := 10) ?hd (cs := #[.int .i16 0, .slice none 0 0]) (t := 27) ?hr ?_; (case hd => rfl); (case hg => rfl); (case hr => first | (go_simp; done) | (go_simp; rfl))
 intro AH hg Bq hbox hb
 have AW := ak (hbox)
 have At := ak ((by rw [hg]; exact (below_size (zH3 HB AE AI AL)) : w.heap.size ≤ AH))
 have Ag := ak ((by rw [hg]; exact (below_size (zH3 HB AE AI AL)) : w.heap.size ≤ AH))
 have AO := nL AA hg
 have AY := nG AA hg
 have AT := nL AB hg
 have AM := nG AB hg
 have AR := nL AC hg
 have AN := nG AC hg
 replace AX := kR AX hb
 replace AA := kK AA hb
 replace AB := kK AB hb
 replace AC := kK AC hb
 replace HB := kB3 HB AE AI AL hb
 refine hK.out _ _ ⟨(blk_cell AA.out 0).trans rfl, (blk_cell AA.out 1).trans rfl⟩ (fun hHeld => ?_)
 clear hK K
 refine norm_ (a' := ?_) ?_ ?_
 rotate_left
 {
 show Act.put _ (some 10) _ = _
 simp only [Act.put, zs, zz, zk, i64_w, i32_w]
 rfl
 }
 exact norm_ (by first | (simp only [putAll, Act.put, zs, zz, zk]; done) | (simp only [putAll, Act.put, zs, zz, zk]; rfl)) (Cg (.slice CQ Ar.length CR, AH) _ ⟨hHeld, (zR AX.out), (zK AA.out), (zK AB.out), (zK AC.out), (zK AW.out), At.out, Ag.out, AO.out, AY.out, AT.out, AM.out, AR.out, AN.out, (zH4 HB AE AI AL Ag)⟩)
 }
 }
 }
 {
 skip
 rintro ⟨AJ, AH⟩ Br ⟨hS_, BW, BT, BU, BV, BS, BZ, Bk, Bj, Bl, Bi, A9, BB, BE, BJ, Ba, B5, CM, CI, CE, B0, B2, CC, CN, By⟩
 have Ay : Aside0 (Br.heap[AD]? = some (.cells #[.int .i16 AZ, .slice (some Ah) AF.length Ac] 27 (0, 0))) := ⟨BW⟩
 have Aw : Aside0 (Br.heap[AK]? = some (.cells #[.int .i16 0, .slice none 0 0] 27 (0, 0))) := ⟨BT⟩
 have Ax : Aside0 (Br.heap[AG]? = some (.cells #[.int .i16 0, .slice none 0 0] 27 (0, 0))) := ⟨BU⟩
 have Av : Aside0 (Br.heap[AJ]? = some (.cells #[.int .i16 0, .slice none 0 0] 27 (0, 0))) := ⟨BV⟩
 have BO : Aside0 (Br.heap[AH]? = some (.cells #[.int .i16 0, .slice none 0 0] 27 (0, 0))) := ⟨BS⟩
 have BQ : Aside0 (w.heap.size ≤ AJ) := ⟨BZ⟩
 have BR : Aside0 (w.heap.size ≤ AJ) := ⟨Bk⟩
 have Be : Aside0 (AD ≠ AJ) := ⟨Bj⟩
 have BY : Aside0 (AJ ≠ AD) := ⟨Bl⟩
 have Bf : Aside0 (AK ≠ AJ) := ⟨Bi⟩
 have BA : Aside0 (AJ ≠ AK) := ⟨A9⟩
 have BD : Aside0 (AG ≠ AJ) := ⟨BB⟩
 have A8 : Aside0 (AJ ≠ AG) := ⟨BE⟩
 have BK : Aside0 (AH ≠ AJ) := ⟨BJ⟩
 have Bc : Aside0 (AJ ≠ AH) := ⟨Ba⟩
 have B6 : Aside0 (w.heap.size ≤ AH) := ⟨B5⟩
 have B3 : Aside0 (w.heap.size ≤ AH) := ⟨CM⟩
 have CD : Aside0 (AD ≠ AH) := ⟨CI⟩
 have CL : Aside0 (AH ≠ AD) := ⟨CE⟩
 have CJ : Aside0 (AK ≠ AH) := ⟨B0⟩
 have B7 : Aside0 (AH ≠ AK) := ⟨B2⟩
 have CF : Aside0 (AG ≠ AH) := ⟨CC⟩
 have B1 : Aside0 (AH ≠ AG) := ⟨CN⟩
 have B8 : Aside0 (Below w.heap.size w Br) := ⟨By⟩
 clear AA AB AC HB BW BT BU BV BS BZ Bk Bj Bl Bi A9 BB BE BJ Ba B5 CM CI CE B0 B2 CC CN By
 have AA := Ay
 have AB := Aw
 have AC := Ax
 have Ab := Av
 have AW := BO
 have Au := BQ
 have Af := BR
 have AP := Be
 have Aa := BY
 have AU := Bf
 have AS := BA
 have AV := BD
 have AQ := A8
 have Ad := BK
 have Ae := Bc
 have At := B6
 have Ag := B3
 have AO := CD
 have AY := CL
 have AT := CJ
 have AM := B7
 have AR := CF
 have AN := B1
 have HB := B8
 clear Ay Aw Ax Av BO BQ BR Be BY Bf BA BD A8 BK Bc B6 B3 CD CL CJ B7 CF B1 B8
 have hHeld : Br.cell? ⟨AD, 0, none⟩ = some (.int .i16 AZ) ∧ Br.cell? ⟨AD, 1, none⟩ = some (.slice (some Ah) AF.length Ac) := hS_
 refine norm_ (a' := ?_) ?_ ?_
 rotate_left
 · simp only [putAll, Act.put, zs, zz, zk]; rfl
 refine one_ (i := 6) (N := some 50) (bA 22 851839) rfl rfl (one_of HT_.out (by kernel_rfl)) (by decide) (fun K hK => ?_)
 refine goes_ Tryz.func47 (by kernel_rfl) rfl #[.slice (some Ah) (AF.take ((A7) : Int).toNat).length Ac] (by rfl) rfl rfl (by (try simp only [List.map_toArray, List.map_cons, List.map_nil]); first | done | (rw [show (AF.take ((A7) : Int).toNat).length = (A7).toNat from (by rw [List.length_take]; have h_ : ((A7) : Int) ≤ (AF.length : Int) := of_decide_eq_true (by assumption); omega)] <;> rfl) | (simp only [BP]; rfl) | rfl | (simp only [List.length_drop, List.length_take]; rfl)) ?_
 with_reducible refine (slices_Clone_Sint16_int16.calls _ _ (AF.take ((A7) : Int).toNat) Ar _ ?side1 ?side2 Ez.out).mono ?_
 (case side1 => exact sQ (Kd.C_below Bz.out HB.out))
 (case side2 => exact CX.out)
 rintro e Bx ⟨BF, rfl, Bh, hb⟩
 refine ⟨_, rfl, ?_⟩
 have AX := ak (Kd.R_lower Bh (below_size (zH5 HB AE AI AL Af Ag)))
 replace AA := kK AA hb
 replace AB := kK AB hb
 replace AC := kK AC hb
 replace Ab := kK Ab hb
 replace AW := kK AW hb
 replace HB := ak (below_step (zH5 HB AE AI AL Af Ag) hb)
 obtain ⟨CT, CU, CB⟩ := Kd.R_slice AX.out
 (first | subst CB | (injection CB with f1_ f2_ f3_; have BH := f1_.symm; have BG := f3_.symm; clear f1_ f2_ f3_; subst BH; subst BG))
 refine hK.out _ _ ⟨(blk_cell AA.out 0).trans rfl, (blk_cell AA.out 1).trans rfl⟩ (fun hHeld => ?_)
 clear hK K
 refine norm_ (a' := ?_) ?_ ?_
 rotate_left
 {
 show Act.put _ (some 50) _ = _
 simp only [Act.put, zs, zz, zk, i64_w, i32_w]
 rfl
 }
 refine pU 7 51 (bA 22 851967) HT_ ?_
 exact norm_ (by first | (simp only [putAll, Act.put, zs, zz, zk]; done) | (simp only [putAll, Act.put, zs, zz, zk]; rfl)) (Bg (.slice CT Ar.length CU, AJ, AH) _ ⟨hHeld, (zR AX.out), (zK AA.out), (zK AB.out), (zK AC.out), (zK Ab.out), (zK AW.out), Au.out, Af.out, AP.out, Aa.out, AU.out, AS.out, AV.out, AQ.out, Ad.out, Ae.out, At.out, Ag.out, AO.out, AY.out, AT.out, AM.out, AR.out, AN.out, (zH5 HB AE AI AL Af Ag)⟩)
 }
 }
 {
 skip
 rintro ⟨BF, AH⟩ Bx ⟨hS_, BW, BT, BU, BV, BS, BZ, Bk, Bj, Bl, Bi, A9, BB, BE, BJ⟩
 have Ay : Aside0 (Kd.R (Kd.int .i16) 24 Bx w.heap.size (fun _ => True) BF Ar) := ⟨BW⟩
 have Aw : Aside0 (Bx.heap[AD]? = some (.cells #[.int .i16 AZ, .slice (some Ah) AF.length Ac] 27 (0, 0))) := ⟨BT⟩
 have Ax : Aside0 (Bx.heap[AK]? = some (.cells #[.int .i16 0, .slice none 0 0] 27 (0, 0))) := ⟨BU⟩
 have Av : Aside0 (Bx.heap[AG]? = some (.cells #[.int .i16 0, .slice none 0 0] 27 (0, 0))) := ⟨BV⟩
 have BO : Aside0 (Bx.heap[AH]? = some (.cells #[.int .i16 0, .slice none 0 0] 27 (0, 0))) := ⟨BS⟩
 have BQ : Aside0 (w.heap.size ≤ AH) := ⟨BZ⟩
 have BR : Aside0 (w.heap.size ≤ AH) := ⟨Bk⟩
 have Be : Aside0 (AD ≠ AH) := ⟨Bj⟩
 have BY : Aside0 (AH ≠ AD) := ⟨Bl⟩
 have Bf : Aside0 (AK ≠ AH) := ⟨Bi⟩
 have BA : Aside0 (AH ≠ AK) := ⟨A9⟩
 have BD : Aside0 (AG ≠ AH) := ⟨BB⟩
 have A8 : Aside0 (AH ≠ AG) := ⟨BE⟩
 have BK : Aside0 (Below w.heap.size w Bx) := ⟨BJ⟩
 clear AA AB AC HB BW BT BU BV BS BZ Bk Bj Bl Bi A9 BB BE BJ
 have AX := Ay
 have AA := Aw
 have AB := Ax
 have AC := Av
 have AW := BO
 have At := BQ
 have Ag := BR
 have AO := Be
 have AY := BY
 have AT := Bf
 have AM := BA
 have AR := BD
 have AN := A8
 have HB := BK
 clear Ay Aw Ax Av BO BQ BR Be BY Bf BA BD A8 BK
 have hHeld : Bx.cell? ⟨AD, 0, none⟩ = some (.int .i16 AZ) ∧ Bx.cell? ⟨AD, 1, none⟩ = some (.slice (some Ah) AF.length Ac) := hS_
 obtain ⟨CT, CU, CB⟩ := Kd.R_slice AX.out
 (first | subst CB | (injection CB with f1_ f2_ f3_; have BH := f1_.symm; have BG := f3_.symm; clear f1_ f2_ f3_; subst BH; subst BG))
 refine norm_ (a' := ?_) ?_ ?_
 rotate_left
 · simp only [putAll, Act.put, zs, zz, zk]; rfl
 refine two_ (i := 16) (j := 18) (Ni := some 60) (Nj := some 9) #[true, true, true, true, true, true, true, true, true, true, true, true, true, true, true, true, true, false, false, true, false, false] #[true, true, true, true, true, true, true, true, true, true, true, true, true, true, true, true, false, false, true, true, false, false] rfl rfl rfl rfl (two_of HT_.out (by kernel_rfl)) (by decide) (by decide) (fun K hK => ?_) (fun K hK => ?_)
 {
 skip
 refine goes_ Tryz.func47 (by kernel_rfl) rfl #[.slice Dz (AF.drop (a1 : Int).toNat).length (Ac - a1.toNat)] (by rfl) rfl rfl (by (try simp only [List.map_toArray, List.map_cons, List.map_nil]); first | done | (rw [show (AF.drop (a1 : Int).toNat).length = (AF.length - a1.toNat) from List.length_drop] <;> rfl) | rfl | (simp only [List.length_drop, List.length_take]; rfl)) ?_
 with_reducible refine (slices_Clone_Sint16_int16.calls _ _ (AF.drop (a1 : Int).toNat) A5 _ ?side1 ?side2 EU.out).mono ?_
 (case side1 => exact sQ (Kd.C_below CK.out HB.out))
 (case side2 => exact CY.out)
 rintro e Bm ⟨BX, rfl, Bh, hb⟩
 refine ⟨_, rfl, ?_⟩
 have Am := ak (Kd.R_lower (Kd.R_new' Bh (Kd.R_lt (zR AX.out))) (below_size (zH4 HB AE AI AL Ag)))
 replace AX := kE AX Bh hb
 replace AA := kK AA hb
 replace AB := kK AB hb
 replace AC := kK AC hb
 replace AW := kK AW hb
 replace HB := ak (below_step (zH4 HB AE AI AL Ag) hb)
 obtain ⟨Bp, Bo, Bd⟩ := Kd.R_slice Am.out
 (first | subst Bd | (injection Bd with f1_ f2_ f3_; have BH := f1_.symm; have BG := f3_.symm; clear f1_ f2_ f3_; subst BH; subst BG))
 refine hK.out _ _ ⟨(blk_cell AA.out 0).trans rfl, (blk_cell AA.out 1).trans rfl⟩ (fun hHeld => ?_)
 clear hK K
 refine norm_ (a' := ?_) ?_ ?_
 rotate_left
 {
 show Act.put _ (some 60) _ = _
 simp only [Act.put, zs, zz, zk, i64_w, i32_w]
 rfl
 }
 refine pU 17 61 (bA 22 786431) HT_ ?_
 exact norm_ (by first | (simp only [putAll, Act.put, zs, zz, zk]; done) | (simp only [putAll, Act.put, zs, zz, zk]; rfl)) (Bs (.slice CT Ar.length CU, .slice Bp A5.length Bo, AH) _ ⟨hHeld, (Kd.R_mono AX.out (fun _ hk => hk.2)), (Kd.R_mono Am.out (fun _ hk => hk.2)), (zK AA.out), (zK AB.out), (zK AC.out), (zK AW.out), At.out, Ag.out, AO.out, AY.out, AT.out, AM.out, AR.out, AN.out, (zH4 HB AE AI AL Ag)⟩)
 }
 {
 skip
 refine box_step ?hg (N := 9) ?hd (cs := #[.int .i16 0, .slice none 0 0]) (t := 27) ?hr ?_; (case hd => rfl); (case hg => rfl); (case hr => first | (go_simp; done) | (go_simp; rfl))
 intro AJ hg Bm hbox hb
 have Ab := ak (hbox)
 have Au := ak ((by rw [hg]; exact (below_size (zH4 HB AE AI AL Ag)) : w.heap.size ≤ AJ))
 have Af := ak ((by rw [hg]; exact (below_size (zH4 HB AE AI AL Ag)) : w.heap.size ≤ AJ))
 have AP := nL AA hg
 have Aa := nG AA hg
 have AU := nL AB hg
 have AS := nG AB hg
 have AV := nL AC hg
 have AQ := nG AC hg
 have Ad := nL AW hg
 have Ae := nG AW hg
 replace AX := kR AX hb
 replace AA := kK AA hb
 replace AB := kK AB hb
 replace AC := kK AC hb
 replace AW := kK AW hb
 replace HB := ak (below_step (zH4 HB AE AI AL Ag) hb)
 refine hK.out _ _ ⟨(blk_cell AA.out 0).trans rfl, (blk_cell AA.out 1).trans rfl⟩ (fun hHeld => ?_)
 clear hK K
 refine norm_ (a' := ?_) ?_ ?_
 rotate_left
 {
 show Act.put _ (some 9) _ = _
 simp only [Act.put, zs, zz, zk, i64_w, i32_w]
 rfl
 }
 exact norm_ (by first | (simp only [putAll, Act.put, zs, zz, zk]; done) | (simp only [putAll, Act.put, zs, zz, zk]; rfl)) (Bg (.slice CT Ar.length CU, AJ, AH) _ ⟨hHeld, (zR AX.out), (zK AA.out), (zK AB.out), (zK AC.out), (zK Ab.out), (zK AW.out), Au.out, Af.out, AP.out, Aa.out, AU.out, AS.out, AV.out, AQ.out, Ad.out, Ae.out, At.out, Ag.out, AO.out, AY.out, AT.out, AM.out, AR.out, AN.out, (zH5 HB AE AI AL Ag Af)⟩)
 }
 }
 }
 {
 skip
 rintro ⟨BF, AJ⟩ Bx ⟨hS_, BW, BT, BU, BV, BS, BZ, Bk, Bj, Bl, Bi, A9, BB, BE, BJ⟩
 have Ay : Aside0 (Kd.R (Kd.int .i16) 24 Bx w.heap.size (fun _ => True) BF Ar) := ⟨BW⟩
 have Aw : Aside0 (Bx.heap[AD]? = some (.cells #[.int .i16 AZ, .slice (some Ah) AF.length Ac] 27 (0, 0))) := ⟨BT⟩
 have Ax : Aside0 (Bx.heap[AK]? = some (.cells #[.int .i16 0, .slice none 0 0] 27 (0, 0))) := ⟨BU⟩
 have Av : Aside0 (Bx.heap[AG]? = some (.cells #[.int .i16 0, .slice none 0 0] 27 (0, 0))) := ⟨BV⟩
 have BO : Aside0 (Bx.heap[AJ]? = some (.cells #[.int .i16 0, .slice none 0 0] 27 (0, 0))) := ⟨BS⟩
 have BQ : Aside0 (w.heap.size ≤ AJ) := ⟨BZ⟩
 have BR : Aside0 (w.heap.size ≤ AJ) := ⟨Bk⟩
 have Be : Aside0 (AD ≠ AJ) := ⟨Bj⟩
 have BY : Aside0 (AJ ≠ AD) := ⟨Bl⟩
 have Bf : Aside0 (AK ≠ AJ) := ⟨Bi⟩
 have BA : Aside0 (AJ ≠ AK) := ⟨A9⟩
 have BD : Aside0 (AG ≠ AJ) := ⟨BB⟩
 have A8 : Aside0 (AJ ≠ AG) := ⟨BE⟩
 have BK : Aside0 (Below w.heap.size w Bx) := ⟨BJ⟩
 clear AA AB AC HB BW BT BU BV BS BZ Bk Bj Bl Bi A9 BB BE BJ
 have AX := Ay
 have AA := Aw
 have AB := Ax
 have AC := Av
 have Ab := BO
 have Au := BQ
 have Af := BR
 have AP := Be
 have Aa := BY
 have AU := Bf
 have AS := BA
 have AV := BD
 have AQ := A8
 have HB := BK
 clear Ay Aw Ax Av BO BQ BR Be BY Bf BA BD A8 BK
 have hHeld : Bx.cell? ⟨AD, 0, none⟩ = some (.int .i16 AZ) ∧ Bx.cell? ⟨AD, 1, none⟩ = some (.slice (some Ah) AF.length Ac) := hS_
 obtain ⟨CT, CU, CB⟩ := Kd.R_slice AX.out
 (first | subst CB | (injection CB with f1_ f2_ f3_; have BH := f1_.symm; have BG := f3_.symm; clear f1_ f2_ f3_; subst BH; subst BG))
 refine norm_ (a' := ?_) ?_ ?_
 rotate_left
 · simp only [putAll, Act.put, zs, zz, zk]; rfl
 refine two_ (i := 16) (j := 19) (Ni := some 60) (Nj := some 10) #[true, true, true, true, true, true, true, true, true, true, true, true, true, true, true, true, true, false, true, false, false, false] #[true, true, true, true, true, true, true, true, true, true, true, true, true, true, true, true, false, false, true, true, false, false] rfl rfl rfl rfl (two_of HT_.out (by kernel_rfl)) (by decide) (by decide) (fun K hK => ?_) (fun K hK => ?_)
 {
 skip
 refine goes_ Tryz.func47 (by kernel_rfl) rfl #[.slice Dz (AF.drop (a1 : Int).toNat).length (Ac - a1.toNat)] (by rfl) rfl rfl (by (try simp only [List.map_toArray, List.map_cons, List.map_nil]); first | done | (rw [show (AF.drop (a1 : Int).toNat).length = (AF.length - a1.toNat) from List.length_drop] <;> rfl) | rfl | (simp only [List.length_drop, List.length_take]; rfl)) ?_
 with_reducible refine (slices_Clone_Sint16_int16.calls _ _ (AF.drop (a1 : Int).toNat) A5 _ ?side1 ?side2 EU.out).mono ?_
 (case side1 => exact sQ (Kd.C_below CK.out HB.out))
 (case side2 => exact CY.out)
 rintro e Bm ⟨BX, rfl, Bh, hb⟩
 refine ⟨_, rfl, ?_⟩
 have Am := ak (Kd.R_lower (Kd.R_new' Bh (Kd.R_lt (zR AX.out))) (below_size (zH4 HB AE AI AL Af)))
 replace AX := kE AX Bh hb
 replace AA := kK AA hb
 replace AB := kK AB hb
 replace AC := kK AC hb
 replace Ab := kK Ab hb
 replace HB := ak (below_step (zH4 HB AE AI AL Af) hb)
 obtain ⟨Bp, Bo, Bd⟩ := Kd.R_slice Am.out
 (first | subst Bd | (injection Bd with f1_ f2_ f3_; have BH := f1_.symm; have BG := f3_.symm; clear f1_ f2_ f3_; subst BH; subst BG))
 refine hK.out _ _ ⟨(blk_cell AA.out 0).trans rfl, (blk_cell AA.out 1).trans rfl⟩ (fun hHeld => ?_)
 clear hK K
 refine norm_ (a' := ?_) ?_ ?_
 rotate_left
 {
 show Act.put _ (some 60) _ = _
 simp only [Act.put, zs, zz, zk, i64_w, i32_w]
 rfl
 }
 refine pU 17 61 (bA 22 524287) HT_ ?_
 exact norm_ (by first | (simp only [putAll, Act.put, zs, zz, zk]; done) | (simp only [putAll, Act.put, zs, zz, zk]; rfl)) (Bt (.slice CT Ar.length CU, .slice Bp A5.length Bo, AJ) _ ⟨hHeld, (Kd.R_mono AX.out (fun _ hk => hk.2)), (Kd.R_mono Am.out (fun _ hk => hk.2)), (zK AA.out), (zK AB.out), (zK AC.out), (zK Ab.out), Au.out, Af.out, AP.out, Aa.out, AU.out, AS.out, AV.out, AQ.out, (zH4 HB AE AI AL Af)⟩)
 }
 {
 skip
 refine box_step ?hg (N := 10) ?hd (cs := #[.int .i16 0, .slice none 0 0]) (t := 27) ?hr ?_; (case hd => rfl); (case hg => rfl); (case hr => first | (go_simp; done) | (go_simp; rfl))
 intro AH hg Bm hbox hb
 have AW := ak (hbox)
 have At := ak ((by rw [hg]; exact (below_size (zH4 HB AE AI AL Af)) : w.heap.size ≤ AH))
 have Ag := ak ((by rw [hg]; exact (below_size (zH4 HB AE AI AL Af)) : w.heap.size ≤ AH))
 have AO := nL AA hg
 have AY := nG AA hg
 have AT := nL AB hg
 have AM := nG AB hg
 have AR := nL AC hg
 have AN := nG AC hg
 have Ae := nL Ab hg
 have Ad := nG Ab hg
 replace AX := kR AX hb
 replace AA := kK AA hb
 replace AB := kK AB hb
 replace AC := kK AC hb
 replace Ab := kK Ab hb
 replace HB := ak (below_step (zH4 HB AE AI AL Af) hb)
 refine hK.out _ _ ⟨(blk_cell AA.out 0).trans rfl, (blk_cell AA.out 1).trans rfl⟩ (fun hHeld => ?_)
 clear hK K
 refine norm_ (a' := ?_) ?_ ?_
 rotate_left
 {
 show Act.put _ (some 10) _ = _
 simp only [Act.put, zs, zz, zk, i64_w, i32_w]
 rfl
 }
 exact norm_ (by first | (simp only [putAll, Act.put, zs, zz, zk]; done) | (simp only [putAll, Act.put, zs, zz, zk]; rfl)) (Bg (.slice CT Ar.length CU, AJ, AH) _ ⟨hHeld, (zR AX.out), (zK AA.out), (zK AB.out), (zK AC.out), (zK Ab.out), (zK AW.out), Au.out, Af.out, AP.out, Aa.out, AU.out, AS.out, AV.out, AQ.out, Ad.out, Ae.out, At.out, Ag.out, AO.out, AY.out, AT.out, AM.out, AR.out, AN.out, (zH5 HB AE AI AL Af Ag)⟩)
 }
 }
 }
 {
 skip
 rintro ⟨BF, BX⟩ Bq ⟨hS_, BW, BT, BU, BV, BS, BZ⟩
 have Ay : Aside0 (Kd.R (Kd.int .i16) 24 Bq w.heap.size (fun k_ => some k_ ≠ (BX : Value).ownBlock) BF Ar) := ⟨BW⟩
 have Aw : Aside0 (Kd.R (Kd.int .i16) 24 Bq w.heap.size (fun k_ => some k_ ≠ (BF : Value).ownBlock) BX A5) := ⟨BT⟩
 have Ax : Aside0 (Bq.heap[AD]? = some (.cells #[.int .i16 AZ, .slice (some Ah) AF.length Ac] 27 (0, 0))) := ⟨BU⟩
 have Av : Aside0 (Bq.heap[AK]? = some (.cells #[.int .i16 0, .slice none 0 0] 27 (0, 0))) := ⟨BV⟩
 have BO : Aside0 (Bq.heap[AG]? = some (.cells #[.int .i16 0, .slice none 0 0] 27 (0, 0))) := ⟨BS⟩
 have BQ : Aside0 (Below w.heap.size w Bq) := ⟨BZ⟩
 clear AA AB AC HB BW BT BU BV BS BZ
 have AX := Ay
 have Am := Aw
 have AA := Ax
 have AB := Av
 have AC := BO
 have HB := BQ
 clear Ay Aw Ax Av BO BQ
 have hHeld : Bq.cell? ⟨AD, 0, none⟩ = some (.int .i16 AZ) ∧ Bq.cell? ⟨AD, 1, none⟩ = some (.slice (some Ah) AF.length Ac) := hS_
 obtain ⟨Cc, Cb, CG⟩ := Kd.R_slice AX.out
 (first | subst CG | (injection CG with f1_ f2_ f3_; have BH := f1_.symm; have BG := f3_.symm; clear f1_ f2_ f3_; subst BH; subst BG))
 obtain ⟨Bp, Bo, Bd⟩ := Kd.R_slice Am.out
 (first | subst Bd | (injection Bd with f1_ f2_ f3_; have BH := f1_.symm; have BG := f3_.symm; clear f1_ f2_ f3_; subst BH; subst BG))
 refine norm_ (a' := ?_) ?_ ?_
 rotate_left
 · simp only [putAll, Act.put, zs, zz, zk]; rfl
 refine two_ (i := 18) (j := 19) (Ni := some 9) (Nj := some 10) #[true, true, true, true, true, true, true, true, true, true, true, true, true, true, true, true, true, true, true, false, false, false] #[true, true, true, true, true, true, true, true, true, true, true, true, true, true, true, true, true, true, false, true, false, false] rfl rfl rfl rfl (two_of HT_.out (by kernel_rfl)) (by decide) (by decide) (fun K hK => ?_) (fun K hK => ?_)
 {
 skip
 refine box_step ?hg (N := 9) ?hd (cs := #[.int .i16 0, .slice none 0 0]) (t := 27) ?hr ?_; (case hd => rfl); (case hg => rfl); (case hr => first | (go_simp; done) | (go_simp; rfl))
 intro AJ hg HO hbox hb
 have Ab := ak (hbox)
 have Au := ak ((by rw [hg]; exact (below_size (zH3 HB AE AI AL)) : w.heap.size ≤ AJ))
 have Af := ak ((by rw [hg]; exact (below_size (zH3 HB AE AI AL)) : w.heap.size ≤ AJ))
 have AP := nL AA hg
 have Aa := nG AA hg
 have AU := nL AB hg
 have AS := nG AB hg
 have AV := nL AC hg
 have AQ := nG AC hg
 replace AX := kR AX hb
 replace Am := kR Am hb
 replace AA := kK AA hb
 replace AB := kK AB hb
 replace AC := kK AC hb
 replace HB := kB3 HB AE AI AL hb
 refine hK.out _ _ ⟨(blk_cell AA.out 0).trans rfl, (blk_cell AA.out 1).trans rfl⟩ (fun hHeld => ?_)
 clear hK K
 refine norm_ (a' := ?_) ?_ ?_
 rotate_left
 {
 show Act.put _ (some 9) _ = _
 simp only [Act.put, zs, zz, zk, i64_w, i32_w]
 rfl
 }
 exact norm_ (by first | (simp only [putAll, Act.put, zs, zz, zk]; done) | (simp only [putAll, Act.put, zs, zz, zk]; rfl)) (Bt (.slice Cc Ar.length Cb, .slice Bp A5.length Bo, AJ) _ ⟨hHeld, (zR AX.out), (zR Am.out), (zK AA.out), (zK AB.out), (zK AC.out), (zK Ab.out), Au.out, Af.out, AP.out, Aa.out, AU.out, AS.out, AV.out, AQ.out, (zH4 HB AE AI AL Af)⟩)
 }
 {
 skip
 refine box_step ?hg (N := 10) ?hd (cs := #[.int .i16 0, .slice none 0 0]) (t := 27) ?hr ?_; (case hd => rfl); (case hg => rfl); (case hr => first | (go_simp; done) | (go_simp; rfl))
 intro AH hg HO hbox hb
 have AW := ak (hbox)
 have At := ak ((by rw [hg]; exact (below_size (zH3 HB AE AI AL)) : w.heap.size ≤ AH))
 have Ag := ak ((by rw [hg]; exact (below_size (zH3 HB AE AI AL)) : w.heap.size ≤ AH))
 have AO := nL AA hg
 have AY := nG AA hg
 have AT := nL AB hg
 have AM := nG AB hg
 have AR := nL AC hg
 have AN := nG AC hg
 replace AX := kR AX hb
 replace Am := kR Am hb
 replace AA := kK AA hb
 replace AB := kK AB hb
 replace AC := kK AC hb
 replace HB := kB3 HB AE AI AL hb
 refine hK.out _ _ ⟨(blk_cell AA.out 0).trans rfl, (blk_cell AA.out 1).trans rfl⟩ (fun hHeld => ?_)
 clear hK K
 refine norm_ (a' := ?_) ?_ ?_
 rotate_left
 {
 show Act.put _ (some 10) _ = _
 simp only [Act.put, zs, zz, zk, i64_w, i32_w]
 rfl
 }
 exact norm_ (by first | (simp only [putAll, Act.put, zs, zz, zk]; done) | (simp only [putAll, Act.put, zs, zz, zk]; rfl)) (Bs (.slice Cc Ar.length Cb, .slice Bp A5.length Bo, AH) _ ⟨hHeld, (zR AX.out), (zR Am.out), (zK AA.out), (zK AB.out), (zK AC.out), (zK AW.out), At.out, Ag.out, AO.out, AY.out, AT.out, AM.out, AR.out, AN.out, (zH4 HB AE AI AL Ag)⟩)
 }
 }
 }
 {
 skip
 rintro ⟨BF, AJ, AH⟩ Bq ⟨hS_, BW, BT, BU, BV, BS, BZ, Bk, Bj, Bl, Bi, A9, BB, BE, BJ, Ba, B5, CM, CI, CE, B0, B2, CC, CN, By, Cd⟩
 have Ay : Aside0 (Kd.R (Kd.int .i16) 24 Bq w.heap.size (fun _ => True) BF Ar) := ⟨BW⟩
 have Aw : Aside0 (Bq.heap[AD]? = some (.cells #[.int .i16 AZ, .slice (some Ah) AF.length Ac] 27 (0, 0))) := ⟨BT⟩
 have Ax : Aside0 (Bq.heap[AK]? = some (.cells #[.int .i16 0, .slice none 0 0] 27 (0, 0))) := ⟨BU⟩
 have Av : Aside0 (Bq.heap[AG]? = some (.cells #[.int .i16 0, .slice none 0 0] 27 (0, 0))) := ⟨BV⟩
 have BO : Aside0 (Bq.heap[AJ]? = some (.cells #[.int .i16 0, .slice none 0 0] 27 (0, 0))) := ⟨BS⟩
 have BQ : Aside0 (Bq.heap[AH]? = some (.cells #[.int .i16 0, .slice none 0 0] 27 (0, 0))) := ⟨BZ⟩
 have BR : Aside0 (w.heap.size ≤ AJ) := ⟨Bk⟩
 have Be : Aside0 (w.heap.size ≤ AJ) := ⟨Bj⟩
 have BY : Aside0 (AD ≠ AJ) := ⟨Bl⟩
 have Bf : Aside0 (AJ ≠ AD) := ⟨Bi⟩
 have BA : Aside0 (AK ≠ AJ) := ⟨A9⟩
 have BD : Aside0 (AJ ≠ AK) := ⟨BB⟩
 have A8 : Aside0 (AG ≠ AJ) := ⟨BE⟩
 have BK : Aside0 (AJ ≠ AG) := ⟨BJ⟩
 have Bc : Aside0 (AH ≠ AJ) := ⟨Ba⟩
 have B6 : Aside0 (AJ ≠ AH) := ⟨B5⟩
 have B3 : Aside0 (w.heap.size ≤ AH) := ⟨CM⟩
 have CD : Aside0 (w.heap.size ≤ AH) := ⟨CI⟩
 have CL : Aside0 (AD ≠ AH) := ⟨CE⟩
 have CJ : Aside0 (AH ≠ AD) := ⟨B0⟩
 have B7 : Aside0 (AK ≠ AH) := ⟨B2⟩
 have CF : Aside0 (AH ≠ AK) := ⟨CC⟩
 have B1 : Aside0 (AG ≠ AH) := ⟨CN⟩
 have B8 : Aside0 (AH ≠ AG) := ⟨By⟩
 have Ce : Aside0 (Below w.heap.size w Bq) := ⟨Cd⟩
 clear AA AB AC HB BW BT BU BV BS BZ Bk Bj Bl Bi A9 BB BE BJ Ba B5 CM CI CE B0 B2 CC CN By Cd
 have AX := Ay
 have AA := Aw
 have AB := Ax
 have AC := Av
 have Ab := BO
 have AW := BQ
 have Au := BR
 have Af := Be
 have AP := BY
 have Aa := Bf
 have AU := BA
 have AS := BD
 have AV := A8
 have AQ := BK
 have Ad := Bc
 have Ae := B6
 have At := B3
 have Ag := CD
 have AO := CL
 have AY := CJ
 have AT := B7
 have AM := CF
 have AR := B1
 have AN := B8
 have HB := Ce
 clear Ay Aw Ax Av BO BQ BR Be BY Bf BA BD A8 BK Bc B6 B3 CD CL CJ B7 CF B1 B8 Ce
 have hHeld : Bq.cell? ⟨AD, 0, none⟩ = some (.int .i16 AZ) ∧ Bq.cell? ⟨AD, 1, none⟩ = some (.slice (some Ah) AF.length Ac) := hS_
 obtain ⟨Cc, Cb, CG⟩ := Kd.R_slice AX.out
 (first | subst CG | (injection CG with f1_ f2_ f3_; have BH := f1_.symm; have BG := f3_.symm; clear f1_ f2_ f3_; subst BH; subst BG))
 refine norm_ (a' := ?_) ?_ ?_
 rotate_left
 · simp only [putAll, Act.put, zs, zz, zk]; rfl
 refine one_ (i := 16) (N := some 60) (bA 22 917503) rfl rfl (one_of HT_.out (by kernel_rfl)) (by decide) (fun K hK => ?_)
 refine goes_ Tryz.func47 (by kernel_rfl) rfl #[.slice Dz (AF.drop (a1 : Int).toNat).length (Ac - a1.toNat)] (by rfl) rfl rfl (by (try simp only [List.map_toArray, List.map_cons, List.map_nil]); first | done | (rw [show (AF.drop (a1 : Int).toNat).length = (AF.length - a1.toNat) from List.length_drop] <;> rfl) | rfl | (simp only [List.length_drop, List.length_take]; rfl)) ?_
 with_reducible refine (slices_Clone_Sint16_int16.calls _ _ (AF.drop (a1 : Int).toNat) A5 _ ?side1 ?side2 EU.out).mono ?_
 (case side1 => exact sQ (Kd.C_below CK.out HB.out))
 (case side2 => exact CY.out)
 rintro e CA ⟨BX, rfl, Bh, hb⟩
 refine ⟨_, rfl, ?_⟩
 have Am := ak (Kd.R_lower (Kd.R_new' Bh (Kd.R_lt (zR AX.out))) (below_size (zH5 HB AE AI AL Af Ag)))
 replace AX := kE AX Bh hb
 replace AA := kK AA hb
 replace AB := kK AB hb
 replace AC := kK AC hb
 replace Ab := kK Ab hb
 replace AW := kK AW hb
 replace HB := ak (below_step (zH5 HB AE AI AL Af Ag) hb)
 obtain ⟨Bw, Bu, Bn⟩ := Kd.R_slice Am.out
 (first | subst Bn | (injection Bn with f1_ f2_ f3_; have BH := f1_.symm; have BG := f3_.symm; clear f1_ f2_ f3_; subst BH; subst BG))
 refine hK.out _ _ ⟨(blk_cell AA.out 0).trans rfl, (blk_cell AA.out 1).trans rfl⟩ (fun hHeld => ?_)
 clear hK K
 refine norm_ (a' := ?_) ?_ ?_
 rotate_left
 {
 show Act.put _ (some 60) _ = _
 simp only [Act.put, zs, zz, zk, i64_w, i32_w]
 rfl
 }
 refine pU 17 61 (bA 22 1048575) HT_ ?_
 exact norm_ (by first | (simp only [putAll, Act.put, zs, zz, zk]; done) | (simp only [putAll, Act.put, zs, zz, zk]; rfl)) (BL (.slice Cc Ar.length Cb, .slice Bw A5.length Bu, AJ, AH) _ ⟨hHeld, (Kd.R_mono AX.out (fun _ hk => hk.2)), (Kd.R_mono Am.out (fun _ hk => hk.2)), (zK AA.out), (zK AB.out), (zK AC.out), (zK Ab.out), (zK AW.out), Au.out, Af.out, AP.out, Aa.out, AU.out, AS.out, AV.out, AQ.out, Ad.out, Ae.out, At.out, Ag.out, AO.out, AY.out, AT.out, AM.out, AR.out, AN.out, (zH5 HB AE AI AL Af Ag)⟩)
 }
 }
 {
 skip
 rintro ⟨BF, BX, AH⟩ Bm ⟨hS_, BW, BT, BU, BV, BS, BZ, Bk, Bj, Bl, Bi, A9, BB, BE, BJ, Ba⟩
 have Ay : Aside0 (Kd.R (Kd.int .i16) 24 Bm w.heap.size (fun k_ => some k_ ≠ (BX : Value).ownBlock) BF Ar) := ⟨BW⟩
 have Aw : Aside0 (Kd.R (Kd.int .i16) 24 Bm w.heap.size (fun k_ => some k_ ≠ (BF : Value).ownBlock) BX A5) := ⟨BT⟩
 have Ax : Aside0 (Bm.heap[AD]? = some (.cells #[.int .i16 AZ, .slice (some Ah) AF.length Ac] 27 (0, 0))) := ⟨BU⟩
 have Av : Aside0 (Bm.heap[AK]? = some (.cells #[.int .i16 0, .slice none 0 0] 27 (0, 0))) := ⟨BV⟩
 have BO : Aside0 (Bm.heap[AG]? = some (.cells #[.int .i16 0, .slice none 0 0] 27 (0, 0))) := ⟨BS⟩
 have BQ : Aside0 (Bm.heap[AH]? = some (.cells #[.int .i16 0, .slice none 0 0] 27 (0, 0))) := ⟨BZ⟩
 have BR : Aside0 (w.heap.size ≤ AH) := ⟨Bk⟩
 have Be : Aside0 (w.heap.size ≤ AH) := ⟨Bj⟩
 have BY : Aside0 (AD ≠ AH) := ⟨Bl⟩
 have Bf : Aside0 (AH ≠ AD) := ⟨Bi⟩
 have BA : Aside0 (AK ≠ AH) := ⟨A9⟩
 have BD : Aside0 (AH ≠ AK) := ⟨BB⟩
 have A8 : Aside0 (AG ≠ AH) := ⟨BE⟩
 have BK : Aside0 (AH ≠ AG) := ⟨BJ⟩
 have Bc : Aside0 (Below w.heap.size w Bm) := ⟨Ba⟩
 clear AA AB AC HB BW BT BU BV BS BZ Bk Bj Bl Bi A9 BB BE BJ Ba
 have AX := Ay
 have Am := Aw
 have AA := Ax
 have AB := Av
 have AC := BO
 have AW := BQ
 have At := BR
 have Ag := Be
 have AO := BY
 have AY := Bf
 have AT := BA
 have AM := BD
 have AR := A8
 have AN := BK
 have HB := Bc
 clear Ay Aw Ax Av BO BQ BR Be BY Bf BA BD A8 BK Bc
 have hHeld : Bm.cell? ⟨AD, 0, none⟩ = some (.int .i16 AZ) ∧ Bm.cell? ⟨AD, 1, none⟩ = some (.slice (some Ah) AF.length Ac) := hS_
 obtain ⟨Bp, Bo, Bd⟩ := Kd.R_slice AX.out
 (first | subst Bd | (injection Bd with f1_ f2_ f3_; have BH := f1_.symm; have BG := f3_.symm; clear f1_ f2_ f3_; subst BH; subst BG))
 obtain ⟨Bw, Bu, Bn⟩ := Kd.R_slice Am.out
 (first | subst Bn | (injection Bn with f1_ f2_ f3_; have BH := f1_.symm; have BG := f3_.symm; clear f1_ f2_ f3_; subst BH; subst BG))
 refine norm_ (a' := ?_) ?_ ?_
 rotate_left
 · simp only [putAll, Act.put, zs, zz, zk]; rfl
 refine one_ (i := 18) (N := some 9) (bA 22 1048575) rfl rfl (one_of HT_.out (by kernel_rfl)) (by decide) (fun K hK => ?_)
 refine box_step ?hg (N := 9) ?hd (cs := #[.int .i16 0, .slice none 0 0]) (t := 27) ?hr ?_; (case hd => rfl); (case hg => rfl); (case hr => first | (go_simp; done) | (go_simp; rfl))
 intro AJ hg HZ hbox hb
 have Ab := ak (hbox)
 have Au := ak ((by rw [hg]; exact (below_size (zH4 HB AE AI AL Ag)) : w.heap.size ≤ AJ))
 have Af := ak ((by rw [hg]; exact (below_size (zH4 HB AE AI AL Ag)) : w.heap.size ≤ AJ))
 have AP := nL AA hg
 have Aa := nG AA hg
 have AU := nL AB hg
 have AS := nG AB hg
 have AV := nL AC hg
 have AQ := nG AC hg
 have Ad := nL AW hg
 have Ae := nG AW hg
 replace AX := kR AX hb
 replace Am := kR Am hb
 replace AA := kK AA hb
 replace AB := kK AB hb
 replace AC := kK AC hb
 replace AW := kK AW hb
 replace HB := ak (below_step (zH4 HB AE AI AL Ag) hb)
 refine hK.out _ _ ⟨(blk_cell AA.out 0).trans rfl, (blk_cell AA.out 1).trans rfl⟩ (fun hHeld => ?_)
 clear hK K
 refine norm_ (a' := ?_) ?_ ?_
 rotate_left
 {
 show Act.put _ (some 9) _ = _
 simp only [Act.put, zs, zz, zk, i64_w, i32_w]
 rfl
 }
 exact norm_ (by first | (simp only [putAll, Act.put, zs, zz, zk]; done) | (simp only [putAll, Act.put, zs, zz, zk]; rfl)) (BL (.slice Bp Ar.length Bo, .slice Bw A5.length Bu, AJ, AH) _ ⟨hHeld, (zR AX.out), (zR Am.out), (zK AA.out), (zK AB.out), (zK AC.out), (zK Ab.out), (zK AW.out), Au.out, Af.out, AP.out, Aa.out, AU.out, AS.out, AV.out, AQ.out, Ad.out, Ae.out, At.out, Ag.out, AO.out, AY.out, AT.out, AM.out, AR.out, AN.out, (zH5 HB AE AI AL Ag Af)⟩)
 }
 }
 {
 skip
 rintro ⟨BF, BX, AJ⟩ Bm ⟨hS_, BW, BT, BU, BV, BS, BZ, Bk, Bj, Bl, Bi, A9, BB, BE, BJ, Ba⟩
 have Ay : Aside0 (Kd.R (Kd.int .i16) 24 Bm w.heap.size (fun k_ => some k_ ≠ (BX : Value).ownBlock) BF Ar) := ⟨BW⟩
 have Aw : Aside0 (Kd.R (Kd.int .i16) 24 Bm w.heap.size (fun k_ => some k_ ≠ (BF : Value).ownBlock) BX A5) := ⟨BT⟩
 have Ax : Aside0 (Bm.heap[AD]? = some (.cells #[.int .i16 AZ, .slice (some Ah) AF.length Ac] 27 (0, 0))) := ⟨BU⟩
 have Av : Aside0 (Bm.heap[AK]? = some (.cells #[.int .i16 0, .slice none 0 0] 27 (0, 0))) := ⟨BV⟩
 have BO : Aside0 (Bm.heap[AG]? = some (.cells #[.int .i16 0, .slice none 0 0] 27 (0, 0))) := ⟨BS⟩
 have BQ : Aside0 (Bm.heap[AJ]? = some (.cells #[.int .i16 0, .slice none 0 0] 27 (0, 0))) := ⟨BZ⟩
 have BR : Aside0 (w.heap.size ≤ AJ) := ⟨Bk⟩
 have Be : Aside0 (w.heap.size ≤ AJ) := ⟨Bj⟩
 have BY : Aside0 (AD ≠ AJ) := ⟨Bl⟩
 have Bf : Aside0 (AJ ≠ AD) := ⟨Bi⟩
 have BA : Aside0 (AK ≠ AJ) := ⟨A9⟩
 have BD : Aside0 (AJ ≠ AK) := ⟨BB⟩
 have A8 : Aside0 (AG ≠ AJ) := ⟨BE⟩
 have BK : Aside0 (AJ ≠ AG) := ⟨BJ⟩
 have Bc : Aside0 (Below w.heap.size w Bm) := ⟨Ba⟩
 clear AA AB AC HB BW BT BU BV BS BZ Bk Bj Bl Bi A9 BB BE BJ Ba
 have AX := Ay
 have Am := Aw
 have AA := Ax
 have AB := Av
 have AC := BO
 have Ab := BQ
 have Au := BR
 have Af := Be
 have AP := BY
 have Aa := Bf
 have AU := BA
 have AS := BD
 have AV := A8
 have AQ := BK
 have HB := Bc
 clear Ay Aw Ax Av BO BQ BR Be BY Bf BA BD A8 BK Bc
 have hHeld : Bm.cell? ⟨AD, 0, none⟩ = some (.int .i16 AZ) ∧ Bm.cell? ⟨AD, 1, none⟩ = some (.slice (some Ah) AF.length Ac) := hS_
 obtain ⟨Bp, Bo, Bd⟩ := Kd.R_slice AX.out
 (first | subst Bd | (injection Bd with f1_ f2_ f3_; have BH := f1_.symm; have BG := f3_.symm; clear f1_ f2_ f3_; subst BH; subst BG))
 obtain ⟨Bw, Bu, Bn⟩ := Kd.R_slice Am.out
 (first | subst Bn | (injection Bn with f1_ f2_ f3_; have BH := f1_.symm; have BG := f3_.symm; clear f1_ f2_ f3_; subst BH; subst BG))
 refine norm_ (a' := ?_) ?_ ?_
 rotate_left
 · simp only [putAll, Act.put, zs, zz, zk]; rfl
 refine one_ (i := 19) (N := some 10) (bA 22 1048575) rfl rfl (one_of HT_.out (by kernel_rfl)) (by decide) (fun K hK => ?_)
 refine box_step ?hg (N := 10) ?hd (cs := #[.int .i16 0, .slice none 0 0]) (t := 27) ?hr ?_; (case hd => rfl); (case hg => rfl); (case hr => first | (go_simp; done) | (go_simp; rfl))
 intro AH hg HZ hbox hb
 have AW := ak (hbox)
 have At := ak ((by rw [hg]; exact (below_size (zH4 HB AE AI AL Af)) : w.heap.size ≤ AH))
 have Ag := ak ((by rw [hg]; exact (below_size (zH4 HB AE AI AL Af)) : w.heap.size ≤ AH))
 have AO := nL AA hg
 have AY := nG AA hg
 have AT := nL AB hg
 have AM := nG AB hg
 have AR := nL AC hg
 have AN := nG AC hg
 have Ae := nL Ab hg
 have Ad := nG Ab hg
 replace AX := kR AX hb
 replace Am := kR Am hb
 replace AA := kK AA hb
 replace AB := kK AB hb
 replace AC := kK AC hb
 replace Ab := kK Ab hb
 replace HB := ak (below_step (zH4 HB AE AI AL Af) hb)
 refine hK.out _ _ ⟨(blk_cell AA.out 0).trans rfl, (blk_cell AA.out 1).trans rfl⟩ (fun hHeld => ?_)
 clear hK K
 refine norm_ (a' := ?_) ?_ ?_
 rotate_left
 {
 show Act.put _ (some 10) _ = _
 simp only [Act.put, zs, zz, zk, i64_w, i32_w]
 rfl
 }
 exact norm_ (by first | (simp only [putAll, Act.put, zs, zz, zk]; done) | (simp only [putAll, Act.put, zs, zz, zk]; rfl)) (BL (.slice Bp Ar.length Bo, .slice Bw A5.length Bu, AJ, AH) _ ⟨hHeld, (zR AX.out), (zR Am.out), (zK AA.out), (zK AB.out), (zK AC.out), (zK Ab.out), (zK AW.out), Au.out, Af.out, AP.out, Aa.out, AU.out, AS.out, AV.out, AQ.out, Ad.out, Ae.out, At.out, Ag.out, AO.out, AY.out, AT.out, AM.out, AR.out, AN.out, (zH5 HB AE AI AL Af Ag)⟩)
 }
 }
 rintro ⟨BF, BX, AJ, AH⟩ CA ⟨hS_, BW, BT, BU, BV, BS, BZ, Bk, Bj, Bl, Bi, A9, BB, BE, BJ, Ba, B5, CM, CI, CE, B0, B2, CC, CN, By, Cd, DW⟩
 have Ay : Aside0 (Kd.R (Kd.int .i16) 24 CA w.heap.size (fun k_ => some k_ ≠ (BX : Value).ownBlock) BF Ar) := ⟨BW⟩
 have Aw : Aside0 (Kd.R (Kd.int .i16) 24 CA w.heap.size (fun k_ => some k_ ≠ (BF : Value).ownBlock) BX A5) := ⟨BT⟩
 have Ax : Aside0 (CA.heap[AD]? = some (.cells #[.int .i16 AZ, .slice (some Ah) AF.length Ac] 27 (0, 0))) := ⟨BU⟩
 have Av : Aside0 (CA.heap[AK]? = some (.cells #[.int .i16 0, .slice none 0 0] 27 (0, 0))) := ⟨BV⟩
 have BO : Aside0 (CA.heap[AG]? = some (.cells #[.int .i16 0, .slice none 0 0] 27 (0, 0))) := ⟨BS⟩
 have BQ : Aside0 (CA.heap[AJ]? = some (.cells #[.int .i16 0, .slice none 0 0] 27 (0, 0))) := ⟨BZ⟩
 have BR : Aside0 (CA.heap[AH]? = some (.cells #[.int .i16 0, .slice none 0 0] 27 (0, 0))) := ⟨Bk⟩
 have Be : Aside0 (w.heap.size ≤ AJ) := ⟨Bj⟩
 have BY : Aside0 (w.heap.size ≤ AJ) := ⟨Bl⟩
 have Bf : Aside0 (AD ≠ AJ) := ⟨Bi⟩
 have BA : Aside0 (AJ ≠ AD) := ⟨A9⟩
 have BD : Aside0 (AK ≠ AJ) := ⟨BB⟩
 have A8 : Aside0 (AJ ≠ AK) := ⟨BE⟩
 have BK : Aside0 (AG ≠ AJ) := ⟨BJ⟩
 have Bc : Aside0 (AJ ≠ AG) := ⟨Ba⟩
 have B6 : Aside0 (AH ≠ AJ) := ⟨B5⟩
 have B3 : Aside0 (AJ ≠ AH) := ⟨CM⟩
 have CD : Aside0 (w.heap.size ≤ AH) := ⟨CI⟩
 have CL : Aside0 (w.heap.size ≤ AH) := ⟨CE⟩
 have CJ : Aside0 (AD ≠ AH) := ⟨B0⟩
 have B7 : Aside0 (AH ≠ AD) := ⟨B2⟩
 have CF : Aside0 (AK ≠ AH) := ⟨CC⟩
 have B1 : Aside0 (AH ≠ AK) := ⟨CN⟩
 have B8 : Aside0 (AG ≠ AH) := ⟨By⟩
 have Ce : Aside0 (AH ≠ AG) := ⟨Cd⟩
 have Dg : Aside0 (Below w.heap.size w CA) := ⟨DW⟩
 clear AA AB AC HB BW BT BU BV BS BZ Bk Bj Bl Bi A9 BB BE BJ Ba B5 CM CI CE B0 B2 CC CN By Cd DW
 have AX := Ay
 have Am := Aw
 have AA := Ax
 have AB := Av
 have AC := BO
 have Ab := BQ
 have AW := BR
 have Au := Be
 have Af := BY
 have AP := Bf
 have Aa := BA
 have AU := BD
 have AS := A8
 have AV := BK
 have AQ := Bc
 have Ad := B6
 have Ae := B3
 have At := CD
 have Ag := CL
 have AO := CJ
 have AY := B7
 have AT := CF
 have AM := B1
 have AR := B8
 have AN := Ce
 have HB := Dg
 clear Ay Aw Ax Av BO BQ BR Be BY Bf BA BD A8 BK Bc B6 B3 CD CL CJ B7 CF B1 B8 Ce Dg
 have hHeld : CA.cell? ⟨AD, 0, none⟩ = some (.int .i16 AZ) ∧ CA.cell? ⟨AD, 1, none⟩ = some (.slice (some Ah) AF.length Ac) := hS_
 obtain ⟨Bw, Bu, Bn⟩ := Kd.R_slice AX.out
 (first | subst Bn | (injection Bn with f1_ f2_ f3_; have BH := f1_.symm; have BG := f3_.symm; clear f1_ f2_ f3_; subst BH; subst BG))
 obtain ⟨DC, DA, DL⟩ := Kd.R_slice Am.out
 (first | subst DL | (injection DL with f1_ f2_ f3_; have BH := f1_.symm; have BG := f3_.symm; clear f1_ f2_ f3_; subst BH; subst BG))
 refine norm_ (a' := ?_) ?_ ?_
 rotate_left
 · simp only [putAll, Act.put, zs, zz, zk]; rfl
 refine one_ (i := 20) (N := none) (bA 22 2097151) rfl rfl (one_of HT_.out (by kernel_rfl)) (by decide) (fun K hK => ?_)
 have Hd : CA.cell? ⟨AJ, 0, none⟩ = some (.int .i16 0) := (blk_cell Ab.out 0).trans rfl
 have Gd := blk_frozen Ab.out 0
 have EF := AP.out
 have Er := AU.out
 have D1 := AV.out
 have D2 := Ad.out
 have FF := Aa.out
 have EV := AS.out
 have Eu := AQ.out
 have Fa := Ae.out
 have HU : CA.cell? ⟨AJ, 1, none⟩ = some (.slice none 0 0) := (blk_cell Ab.out 1).trans rfl
 have Gk := blk_frozen Ab.out 1
 have Eg := AP.out
 have Em := AU.out
 have E7 := AV.out
 have El := Ad.out
 have EW := Aa.out
 have FC := AS.out
 have EE := AQ.out
 have Fk := Ae.out
 refine skip_ (w1 := ?_) (by rfl) rfl ?_ ?_
 rotate_left
 · go_simp; rfl
 refine hK.out _ _ ⟨((cell_far (p := ⟨AJ, _, none⟩) AP.out _).trans (((cell_far (p := ⟨AJ, _, none⟩) AP.out _).trans (hHeld.1)))), ((cell_far (p := ⟨AJ, _, none⟩) AP.out _).trans (((cell_far (p := ⟨AJ, _, none⟩) AP.out _).trans (hHeld.2))))⟩ (fun hHeld => ?_)
 clear hK K
 refine one_ (i := 21) (N := none) (bA 22 4194303) rfl rfl (one_of HT_.out (by kernel_rfl)) (by decide) (fun K hK => ?_)
 have HQ : CA.cell? ⟨AH, 0, none⟩ = some (.int .i16 0) := (blk_cell AW.out 0).trans rfl
 have GY := blk_frozen AW.out 0
 have ED := AO.out
 have Eo := AT.out
 have FT := AR.out
 have Ek := Ae.out
 have FU := AY.out
 have FQ := AM.out
 have FZ := AN.out
 have Fj := Ad.out
 have HW : CA.cell? ⟨AH, 1, none⟩ = some (.slice none 0 0) := (blk_cell AW.out 1).trans rfl
 have HF := blk_frozen AW.out 1
 have FX := AO.out
 have Dr := AT.out
 have E6 := AR.out
 have FR := Ae.out
 have EA := AY.out
 have Ey := AM.out
 have E1 := AN.out
 have ET := Ad.out
 refine skip_ (w1 := ?_) (by rfl) rfl ?_ ?_
 rotate_left
 · go_simp; rfl
 refine hK.out _ _ ⟨((cell_far (p := ⟨AH, _, none⟩) AO.out _).trans (((cell_far (p := ⟨AH, _, none⟩) AO.out _).trans (hHeld.1)))), ((cell_far (p := ⟨AH, _, none⟩) AO.out _).trans (((cell_far (p := ⟨AH, _, none⟩) AO.out _).trans (hHeld.2))))⟩ (fun hHeld => ?_)
 clear hK K
 refine done_ (done_of HT_.out (by kernel_rfl)) ?_
 have G7 := AY.out
 have G4 := AO.out
 have HH := AM.out
 have GU := AT.out
 have GI := AN.out
 have Gi := AR.out
 have GJ := Ad.out
 have G6 := Ae.out
 have Cq : CA.cell? ⟨AH, 0, none⟩ = some (.int .i16 0) := (blk_cell AW.out 0).trans rfl
 have Cr : CA.cell? ⟨AH, 1, none⟩ = some (.slice none 0 0) := (blk_cell AW.out 1).trans rfl
 have Cu := blk_frozen AW.out 0
 have Ck := blk_frozen AW.out 1
 try go_wp2
 go_loopg [65] k (fun kq HR w' => ∃ (As : Int) (Az : List Int) (Ak : List Int) (BM : Value) (Bb : Value), HR = .int .i64 As ∧ Aside0 (impl_CutRope.l0 kq (rd AF a1) (A5.length : Int) As (rd AF a1) Az (IntKind.i16.wrap (AZ - (rd AF a1))) Ak = some (r1, r2, r3, r4, r5)) ∧ Aside0 (kq ≤ k) ∧ Aside0 (Kd.R (Kd.int .i16) 24 w' w.heap.size (fun k_ => some k_ ≠ (Bb : Value).ownBlock) BM Az) ∧ Aside0 (Kd.R (Kd.int .i16) 24 w' w.heap.size (fun k_ => some k_ ≠ (BM : Value).ownBlock) Bb Ak) ∧ Aside0 (w'.heap[AD]? = some (.cells #[.int .i16 AZ, (.slice (some Ah) AF.length Ac)] 27 (0, 0))) ∧ Aside0 (w'.heap[AK]? = some (.cells #[.int .i16 0, (.slice none 0 0)] 27 (0, 0))) ∧ Aside0 (w'.heap[AG]? = some (.cells #[.int .i16 0, (.slice none 0 0)] 27 (0, 0))) ∧ Aside0 (w'.heap[AJ]? = some (.cells #[.int .i16 (rd AF a1), BM] 27 (0, 0))) ∧ Aside0 (w'.heap[AH]? = some (.cells #[.int .i16 (IntKind.i16.wrap (AZ - (rd AF a1))), Bb] 27 (0, 0))) ∧ Aside0 (Below w.heap.size w w'))
 case atStart => exact ⟨(0), (Ar), (A5), (.slice Bw Ar.length Bu), (.slice DC A5.length DA), rfl, H', ⟨Nat.le_refl _⟩, ⟨Kd.R_mono (Kd.R_far (p := ⟨AH, 1, none⟩) (Kd.R_far (p := ⟨AH, 0, none⟩) (Kd.R_far (p := ⟨AJ, 1, none⟩) (Kd.R_far (p := ⟨AJ, 0, none⟩) (Kd.R_types (Kd.R_types AX.out Ab.out (by decide)) AW.out (by decide)) (fun _ hk => hk.1.2) (.int .i16 (rd AF a1))) (fun _ hk => hk.1.2) (.slice Bw Ar.length Bu)) (fun _ hk => hk.2) (.int .i16 (IntKind.i16.wrap (AZ - (rd AF a1))))) (fun _ hk => hk.2) (.slice DC A5.length DA)) (fun _ hk => hk.1.1)⟩, ⟨Kd.R_mono (Kd.R_far (p := ⟨AH, 1, none⟩) (Kd.R_far (p := ⟨AH, 0, none⟩) (Kd.R_far (p := ⟨AJ, 1, none⟩) (Kd.R_far (p := ⟨AJ, 0, none⟩) (Kd.R_types (Kd.R_types Am.out Ab.out (by decide)) AW.out (by decide)) (fun _ hk => hk.1.2) (.int .i16 (rd AF a1))) (fun _ hk => hk.1.2) (.slice Bw Ar.length Bu)) (fun _ hk => hk.2) (.int .i16 (IntKind.i16.wrap (AZ - (rd AF a1))))) (fun _ hk => hk.2) (.slice DC A5.length DA)) (fun _ hk => hk.1.1)⟩, ⟨by refine blk_far ?_ AO.out _; refine blk_far ?_ AO.out _; refine blk_far ?_ AP.out _; refine blk_far ?_ AP.out _; exact AA.out⟩, ⟨by refine blk_far ?_ AT.out _; refine blk_far ?_ AT.out _; refine blk_far ?_ AU.out _; refine blk_far ?_ AU.out _; exact AB.out⟩, ⟨by refine blk_far ?_ AR.out _; refine blk_far ?_ AR.out _; refine blk_far ?_ AV.out _; refine blk_far ?_ AV.out _; exact AC.out⟩, ⟨by refine blk_far ?_ Ae.out _; refine blk_far ?_ Ae.out _; refine blk_put (cs := #[.int .i16 (rd AF a1), .slice none 0 0]) ?_ 1 _ rfl; refine blk_put (cs := #[.int .i16 0, .slice none 0 0]) ?_ 0 _ rfl; exact Ab.out⟩, ⟨by refine blk_put (cs := #[.int .i16 (IntKind.i16.wrap (AZ - (rd AF a1))), .slice none 0 0]) ?_ 1 _ rfl; refine blk_put (cs := #[.int .i16 0, .slice none 0 0]) ?_ 0 _ rfl; refine blk_far ?_ Ad.out _; refine blk_far ?_ Ad.out _; exact AW.out⟩, ⟨zH5 HB AE AI AL Af Ag⟩⟩
 case round => (
 clear H'
 obtain ⟨As, Az, Ak, BM, Bb, rfl, HA, Gz, A1, Al, AA, AB, AC, Ab, AW, HB⟩ := hrel
 cases gk with
 | zero => exact absurd HA.out (by simp [impl_CutRope.l0])
 | succ k1 => (
 have H := HA.out
 clear HA
 simp only [impl_CutRope.l0] at H
 by_cases DF : As < (A5.length : Int)
 {
 rw [if_pos DF] at H
 have DJ : decide (As < (A5.length : Int)) = true := decide_eq_true DF
 clear DF
 by_cases D5 : 0 ≤ As
 {
 rw [if_pos D5] at H
 have GZ : decide (0 ≤ As) = true := decide_eq_true D5
 clear D5
 by_cases D4 : As < (Ak.length : Int)
 {
 rw [if_pos D4] at H
 have HE : decide (As < (Ak.length : Int)) = true := decide_eq_true D4
 clear D4
 obtain ⟨C6, B4⟩ : ∃ y_ : List Int, y_ = (Ak.set (As : Int).toNat (IntKind.i16.wrap ((rd Ak As) - (rd AF a1)))) := ⟨_, rfl⟩
 replace H : (impl_CutRope.l0 k1 (rd AF a1) (A5.length : Int) (wrap64 (As + 1)) (rd AF a1) Az (IntKind.i16.wrap (AZ - (rd AF a1))) C6) = some (r1, r2, r3, r4, r5) := by first | (rw [B4]; with_reducible exact H) | (have Fr := (Option.bind_some _ _).symm.trans H; rw [B4]; with_reducible exact Fr) | (have Fr := (Option.bind_some _ _).symm.trans H; with_reducible exact Fr) | with_reducible exact H | (rw [B4]; exact H) | exact H
 have Dj := ak B4
 clear B4
 have H' := ak H
 clear H
 have GW := AY.out
 have Gc := AO.out
 have GK := AM.out
 have G0 := AT.out
 have Gl := AN.out
 have Gu := AR.out
 have HL := Ad.out
 have GP := Ae.out
 have FH : wr.cell? ⟨AH, 0, none⟩ = some (.int .i16 (IntKind.i16.wrap (AZ - (rd AF a1)))) := (blk_cell AW.out 0).trans rfl
 have D9 : wr.cell? ⟨AH, 1, none⟩ = some (Bb) := (blk_cell AW.out 1).trans rfl
 have En := blk_frozen AW.out 0
 have FO := blk_frozen AW.out 1
 obtain ⟨Ha, Cf, Fw⟩ := Kd.R_slice Al.out
 subst Fw
 have DD : 0 ≤ (As : Int) := of_decide_eq_true (by assumption)
 have C7 : As < (Ak.length : Int) := of_decide_eq_true (by assumption)
 obtain ⟨G9, F2, Cp⟩ := Kd.at_int (Kd.R_reads' Al.out).2.2 As DD C7
 cases F2
 replace DD := eq_true DD
 replace C7 := eq_true C7
 have GH : 0 ≤ (As : Int) := of_decide_eq_true (by assumption)
 have F3 : (As : Int) < ((Ak.length : Int) : Int) := of_decide_eq_true (by assumption)
 obtain ⟨CO, HS, Da, DQ, Fv, He, DH⟩ := Kd.R_form Al.out (by omega)
 (first | cases Da | (injection Da with ea_ en_ ec_; (first | subst ea_ | (injection ea_ with ea_; subst ea_)); subst ec_; clear en_))
 have GF := ak DQ
 have HP := ak DH
 clear DQ Fv DH
 (first | simp only [add_plain] at Cp | skip)
 obtain ⟨F4, F9⟩ := Kd.R_celln 0 Al.out (As : Int) GH F3
 replace GH := eq_true GH
 replace F3 := eq_true F3
 have C8 := Kd.R_putg Al.out (As : Int) (IntKind.i16.wrap ((rd Ak As) - (rd AF a1)))
 go_wp2_with (first | ((with_reducible refine gate_store (t := 24) (p := 75) rfl ?_); refine store_event (t := 24) (p := 75) (v := ?vo_w79) (w1 := (wr.setCell ⟨CO, (As : Int).toNat, none⟩ (.int .i16 (IntKind.i16.wrap ((rd Ak As) - (rd AF a1)))))) ?hg ?ho ?hn ?hr ?_; (case ho => rfl); (case hg => rfl); (case hn => rfl); (case hr => first | (go_simp; done) | (go_simp; rfl)); intro F5 hw; have hg : wr.grownBy F5 (some CO) := (by rw [hw]; exact C8.2); have HI : Kd.R (Kd.int .i16) 24 F5 w.heap.size (fun k_ => some k_ ≠ (BM : Value).ownBlock) (.slice (some ⟨CO, 0, none⟩) Ak.length Cf) C6 := (by rw [hw, Dj.out]; exact C8.1); clear C8; replace A1 := ak (Kd.R_after (v := (.slice (some ⟨CO, 0, none⟩) Ak.length Cf)) (v1 := (.slice (some ⟨CO, 0, none⟩) Ak.length Cf)) (ok := (fun _ => True)) (Kd.R_mono A1.out (fun _ hk => ⟨trivial, hk⟩)) hg (.inl rfl)); replace AA := ak (blk_grown (g := AD) (o := .cells #[.int .i16 AZ, .slice (some Ah) AF.length Ac] 27 (0, 0)) (zK AA.out) hg (Kd.R_ne Al.out AA.out (by decide))); replace AB := ak (blk_grown (g := AK) (o := .cells #[.int .i16 0, .slice none 0 0] 27 (0, 0)) (zK AB.out) hg (Kd.R_ne Al.out AB.out (by decide))); replace AC := ak (blk_grown (g := AG) (o := .cells #[.int .i16 0, .slice none 0 0] 27 (0, 0)) (zK AC.out) hg (Kd.R_ne Al.out AC.out (by decide))); replace Ab := ak (blk_grown (g := AJ) (o := .cells #[.int .i16 (rd AF a1), BM] 27 (0, 0)) (zK Ab.out) hg (Kd.R_ne Al.out Ab.out (by decide))); replace AW := ak (blk_grown (g := AH) (o := .cells #[.int .i16 (IntKind.i16.wrap (AZ - (rd AF a1))), .slice (some ⟨CO, 0, none⟩) Ak.length Cf] 27 (0, 0)) (zK AW.out) hg (Kd.R_ne Al.out AW.out (by decide))); replace Al := ak (HI); replace HB := ak ((by rw [hw]; exact below_set (HB.out) GF.out : Below w.heap.size w F5)); clear hg hw HI))
 go_roundg k1
 case measure => have := Gz.out; omega
 case rel => exact ⟨(wrap64 (As + 1)), (Az), (C6), (BM), (.slice (some ⟨CO, 0, none⟩) Ak.length Cf), rfl, H', ⟨by have := Gz.out; omega⟩, ⟨Kd.R_mono A1.out (fun _ hk => hk.2)⟩, ⟨(zR Al.out)⟩, ⟨(zK AA.out)⟩, ⟨(zK AB.out)⟩, ⟨(zK AC.out)⟩, ⟨(zK Ab.out)⟩, ⟨(zK AW.out)⟩, ⟨zH5 HB AE AI AL Af Ag⟩⟩
 }
 · rw [if_neg D4] at H; exact absurd H (by simp)
 }
 · rw [if_neg D5] at H; exact absurd H (by simp)
 }
 {
 rw [if_neg DF] at H
 have DJ : decide (As < (A5.length : Int)) = false := decide_eq_false DF
 clear DF
 simp only [Option.some.injEq, Prod.mk.injEq] at H
 obtain ⟨rfl, rfl, rfl, rfl, rfl⟩ := H
 try go_wp2
 replace A1 := ak (Kd.R_drew A1.out)
 replace Al := ak (Kd.R_drew Al.out)
 replace AA := ak (blk_drew AA.out)
 replace AB := ak (blk_drew AB.out)
 replace AC := ak (blk_drew AC.out)
 replace Ab := ak (blk_drew Ab.out)
 replace AW := ak (blk_drew AW.out)
 replace HB := ak (below_drew1 HB.out)
 obtain ⟨Co, Cs, DN⟩ := Kd.R_slice A1.out
 (first | subst DN | (injection DN with f1_ f2_ f3_; have BH := f1_.symm; have BG := f3_.symm; clear f1_ f2_ f3_; subst BH; subst BG))
 obtain ⟨Cv, Cl, DZ⟩ := Kd.R_slice Al.out
 (first | subst DZ | (injection DZ with f1_ f2_ f3_; have BH := f1_.symm; have BG := f3_.symm; clear f1_ f2_ f3_; subst BH; subst BG))
 refine start_ (n := 5) (S := fun w' => w'.cell? ⟨AJ, 0, none⟩ = some (.int .i16 (rd AF a1)) ∧ w'.cell? ⟨AJ, 1, none⟩ = some (.slice Co Az.length Cs) ∧ w'.cell? ⟨AH, 0, none⟩ = some (.int .i16 (IntKind.i16.wrap (AZ - (rd AF a1)))) ∧ w'.cell? ⟨AH, 1, none⟩ = some (.slice Cv Ak.length Cl)) (ds := []) (bA 5 0) (by kernel_rfl) rfl rfl ⟨(blk_cell Ab.out 0).trans rfl, (blk_cell Ab.out 1).trans rfl, (blk_cell AW.out 0).trans rfl, (blk_cell AW.out 1).trans rfl⟩ (fun hHeld => ?_)
 generalize wr.drew = Ef at A1 Al AA AB AC Ab AW HB hHeld ⊢
 refine take_ (i := 0) (N := some 77) (v := ?_) (a' := ?_) (bA 5 1) rfl rfl (by kernel_rfl) (fun _ _ _ h => h) (Or.inl ⟨by rfl, ?_⟩) hHeld ?_ ?_
 rotate_left
 {
 rintro w' ⟨s0, s1, s2, s3⟩
 go_simp
 with_reducible rfl
 }
 rotate_left
 · simp only [Act.put, zs, zz, zk, i64_w, i32_w]; rfl
 refine take_ (i := 1) (N := some 78) (v := ?_) (a' := ?_) (bA 5 3) rfl rfl (by kernel_rfl) (fun _ _ _ h => h) (Or.inl ⟨by rfl, ?_⟩) hHeld ?_ ?_
 rotate_left
 {
 rintro w' ⟨s0, s1, s2, s3⟩
 go_simp
 with_reducible rfl
 }
 rotate_left
 · simp only [Act.put, zs, zz, zk, i64_w, i32_w]; rfl
 refine one_ (i := 2) (N := none) (bA 5 7) rfl rfl (by kernel_rfl) (by decide) (fun K hK => ?_)
 have Hb : Ef.cell? ⟨AK, 0, none⟩ = some (.int .i16 0) := (blk_cell AB.out 0).trans rfl
 have Go := blk_frozen AB.out 0
 have Es := Ao.out
 have Ec := Ai.out
 have EM := AS.out
 have D8 := AM.out
 have FD := Ap.out
 have EN := Aj.out
 have Dy := AU.out
 have FY := AT.out
 have HX : Ef.cell? ⟨AK, 1, none⟩ = some (.slice none 0 0) := (blk_cell AB.out 1).trans rfl
 have G8 := blk_frozen AB.out 1
 have Ea := Ao.out
 have Ev := Ai.out
 have FI := AS.out
 have D0 := AM.out
 have EQ := Ap.out
 have FE := Aj.out
 have E9 := AU.out
 have ER := AT.out
 refine skip_ (w1 := ?_) (by rfl) rfl ?_ ?_
 rotate_left
 · go_simp; rfl
 refine hK.out _ _ ⟨((cell_far (p := ⟨AK, _, none⟩) AS.out _).trans (((cell_far (p := ⟨AK, _, none⟩) AS.out _).trans (hHeld.1)))), ((cell_far (p := ⟨AK, _, none⟩) AS.out _).trans (((cell_far (p := ⟨AK, _, none⟩) AS.out _).trans (hHeld.2.1)))), ((cell_far (p := ⟨AK, _, none⟩) AM.out _).trans (((cell_far (p := ⟨AK, _, none⟩) AM.out _).trans (hHeld.2.2.1)))), ((cell_far (p := ⟨AK, _, none⟩) AM.out _).trans (((cell_far (p := ⟨AK, _, none⟩) AM.out _).trans (hHeld.2.2.2))))⟩ (fun hHeld => ?_)
 clear hK K
 refine one_ (i := 3) (N := none) (bA 5 15) rfl rfl (by kernel_rfl) (by decide) (fun K hK => ?_)
 have HM : Ef.cell? ⟨AG, 0, none⟩ = some (.int .i16 0) := (blk_cell AC.out 0).trans rfl
 have Ga := blk_frozen AC.out 0
 have FN := An.out
 have E3 := Aj.out
 have FB := AQ.out
 have Ex := AN.out
 have Fl := Aq.out
 have Dv := Ai.out
 have EY := AV.out
 have FA := AR.out
 have HN : Ef.cell? ⟨AG, 1, none⟩ = some (.slice none 0 0) := (blk_cell AC.out 1).trans rfl
 have Gj := blk_frozen AC.out 1
 have Fn := An.out
 have Dt := Aj.out
 have FK := AQ.out
 have Ed := AN.out
 have FP := Aq.out
 have Du := Ai.out
 have D3 := AV.out
 have Eb := AR.out
 refine skip_ (w1 := ?_) (by rfl) rfl ?_ ?_
 rotate_left
 · go_simp; rfl
 refine hK.out _ _ ⟨((cell_far (p := ⟨AG, _, none⟩) AQ.out _).trans (((cell_far (p := ⟨AG, _, none⟩) AQ.out _).trans (hHeld.1)))), ((cell_far (p := ⟨AG, _, none⟩) AQ.out _).trans (((cell_far (p := ⟨AG, _, none⟩) AQ.out _).trans (hHeld.2.1)))), ((cell_far (p := ⟨AG, _, none⟩) AN.out _).trans (((cell_far (p := ⟨AG, _, none⟩) AN.out _).trans (hHeld.2.2.1)))), ((cell_far (p := ⟨AG, _, none⟩) AN.out _).trans (((cell_far (p := ⟨AG, _, none⟩) AN.out _).trans (hHeld.2.2.2))))⟩ (fun hHeld => ?_)
 clear hK K
 refine pure_ (i := 4) (N := some 6) (v := ?_) (a' := ?_) (bA 5 31) rfl rfl (by kernel_rfl) (fun _ _ _ h => h) (Or.inl ⟨by rfl, ?_⟩) ?_ ?_
 rotate_left
 {
 intro w'
 go_simp
 with_reducible rfl
 }
 rotate_left
 · simp only [Act.put, zs, zz, zk, i64_w, i32_w]; rfl
 refine done_ (by kernel_rfl) ?_
 try go_wp2
 refine bodyPost_ret (results_list (rs := [.cell 4 27, .cell 5 27, .tmp 6]) rfl (by simp) (.cell AK 27 #[.int .i16 (rd AF a1), .slice Co Az.length Cs] (0, 0) _ rfl (by refine blk_far ?_ Aj.out _; refine blk_far ?_ Aj.out _; refine blk_put (cs := #[.int .i16 (rd AF a1), .slice none 0 0]) ?_ 1 _ rfl; refine blk_put (cs := #[.int .i16 0, .slice none 0 0]) ?_ 0 _ rfl; exact AB.out) Tryz.underlying27 rfl (by kernel_rfl) (.cell AG 27 #[.int .i16 (IntKind.i16.wrap (AZ - (rd AF a1))), .slice Cv Ak.length Cl] (0, 0) _ rfl (by refine blk_put (cs := #[.int .i16 (IntKind.i16.wrap (AZ - (rd AF a1))), .slice none 0 0]) ?_ 1 _ rfl; refine blk_put (cs := #[.int .i16 0, .slice none 0 0]) ?_ 0 _ rfl; refine blk_far ?_ Ai.out _; refine blk_far ?_ Ai.out _; exact AC.out) Tryz.underlying27 rfl (by kernel_rfl) (.tmp .nil)))) rfl ?_
 exact ⟨_, _, by first | rfl | (simp [errW_none, errW_some] <;> rfl) | (simp only [← BP]; first | rfl | (simp [errW_none, errW_some] <;> rfl)) | (simp [*, errW_none, errW_some] <;> rfl), Kd.R_mono (Kd.R_far (p := ⟨AG, 1, none⟩) (Kd.R_far (p := ⟨AG, 0, none⟩) (Kd.R_far (p := ⟨AK, 1, none⟩) (Kd.R_far (p := ⟨AK, 0, none⟩) (Kd.R_types (Kd.R_types A1.out AB.out (by decide)) AC.out (by decide)) (fun _ hk => hk.1.2) (.int .i16 (rd AF a1))) (fun _ hk => hk.1.2) (.slice Co Az.length Cs)) (fun _ hk => hk.2) (.int .i16 (IntKind.i16.wrap (AZ - (rd AF a1))))) (fun _ hk => hk.2) (.slice Cv Ak.length Cl)) (fun _ hk => hk.1.1), Kd.R_mono (Kd.R_far (p := ⟨AG, 1, none⟩) (Kd.R_far (p := ⟨AG, 0, none⟩) (Kd.R_far (p := ⟨AK, 1, none⟩) (Kd.R_far (p := ⟨AK, 0, none⟩) (Kd.R_types (Kd.R_types Al.out AB.out (by decide)) AC.out (by decide)) (fun _ hk => hk.1.2) (.int .i16 (rd AF a1))) (fun _ hk => hk.1.2) (.slice Co Az.length Cs)) (fun _ hk => hk.2) (.int .i16 (IntKind.i16.wrap (AZ - (rd AF a1))))) (fun _ hk => hk.2) (.slice Cv Ak.length Cl)) (fun _ hk => hk.1.1), zH5 HB AE AI AL Af Ag⟩
 }
 )
 )
 }
 · rw [if_neg Do] at H; exact absurd H (by simp)
 }
 · rw [if_neg Dl] at H; exact absurd H (by simp)
 }
 · rw [if_neg Dp] at H; exact absurd H (by simp)
 }
 · rw [if_neg EK] at H; exact absurd H (by simp)
 }
 · rw [if_neg E2] at H; exact absurd H (by simp)
 }
 }
 }
 {
 replace c7 := Bool.eq_false_iff.mpr c7
 subst c7
 rw [if_neg (show ¬ (false = true) by decide)] at H
 simp only [Option.some.injEq, Prod.mk.injEq] at H
 obtain ⟨rfl, rfl, rfl, rfl, rfl⟩ := H
 go_enter Tryz.func16, Tryz.ntmps16
 go_wp2_with (first | ((with_reducible refine gate_dst (N := 2) rfl ?_); refine box_event ?hg (N := 2) ?hd (cs := #[.int .i16 AZ, .slice A0 AF.length Ac]) (t := 27) ?hr ?_; (case hd => rfl); (case hg => rfl); (case hr => first | (go_simp; done) | (go_simp; rfl)); intro AD hg Ho hbox hb; have AA := ak (hbox); have Ca := gS HB hg; have AE := gS HB hg; replace HB := kB HB hb; clear hb hbox hg) | ((with_reducible refine gate_dst (N := 4) rfl ?_); refine box_event ?hg (N := 4) ?hd (cs := #[.int .i16 0, .slice none 0 0]) (t := 27) ?hr ?_; (case hd => rfl); (case hg => rfl); (case hr => first | (go_simp; done) | (go_simp; rfl)); intro AK hg Hi hbox hb; have AB := ak (hbox); have CW := gS1 HB AE hg; have AI := gS1 HB AE hg; have Ao := nL AA hg; have Ap := nG AA hg; replace AA := kK AA hb; replace HB := kB1 HB AE hb; clear hb hbox hg) | ((with_reducible refine gate_dst (N := 5) rfl ?_); refine box_event ?hg (N := 5) ?hd (cs := #[.int .i16 0, .slice none 0 0]) (t := 27) ?hr ?_; (case hd => rfl); (case hg => rfl); (case hr => first | (go_simp; done) | (go_simp; rfl)); intro AG hg Ct hbox hb; have AC := ak (hbox); have CZ := ak ((by rw [hg]; exact (below_size (zH2 HB AE AI)) : w.heap.size ≤ AG)); have AL := ak ((by rw [hg]; exact (below_size (zH2 HB AE AI)) : w.heap.size ≤ AG)); have An := nL AA hg; have Aq := nG AA hg; have Aj := nL AB hg; have Ai := nG AB hg; replace AA := kK AA hb; replace AB := kK AB hb; replace HB := kB2 HB AE AI hb; clear hb hbox hg; have GX := Ao.out; have G3 := Ap.out; have Gp := An.out; have Gq := Aq.out; obtain ⟨ES, EH, Et, EO⟩ := cz2 Ct AA) | ((with_reducible refine gate_callee (f := 42) rfl ?_); refine goesL_ (some 14) rfl rfl Tryz.func42 (by kernel_rfl) rfl #[.slice A0 AF.length Ac] rfl gl_ ?_; (with_reducible refine (impl_size_int16.calls _ _ AF A2 _ ?side1 ?side2 A3.out).mono ?_); (case side1 => exact sQ (Kd.C_below BI.out HB.out)); (case side2 => exact BN.out); rintro e w' ⟨rfl, ⟨nd, rfl⟩⟩; refine ⟨_, rfl, ?_⟩; (try (rw [drewN_self Ct]; generalize BC : World.drewN Ct _ = Ct; have Ay : Aside0 (Ct.heap[AD]? = some (.cells #[.int .i16 AZ, .slice A0 AF.length Ac] 27 (0, 0))) := ⟨by rw [← BC]; exact (zK AA.out)⟩; have Aw : Aside0 (Ct.heap[AK]? = some (.cells #[.int .i16 0, .slice none 0 0] 27 (0, 0))) := ⟨by rw [← BC]; exact (zK AB.out)⟩; have Ax : Aside0 (Ct.heap[AG]? = some (.cells #[.int .i16 0, .slice none 0 0] 27 (0, 0))) := ⟨by rw [← BC]; exact (zK AC.out)⟩; have Av : Aside0 (Below w.heap.size w Ct) := ⟨by rw [← BC]; exact (zH3 HB AE AI AL)⟩; clear AA AB AC HB BC; have AA := Ay; have AB := Aw; have AC := Ax; have HB := Av; clear Ay Aw Ax Av)); obtain ⟨hcy_0, hcy_1, hfy_0, hfy_1⟩ := cz2 Ct AA) | ((with_reducible refine gate_callee (f := 13) rfl ?_); refine goesL_ (some 18) rfl rfl Tryz.func13 (by kernel_rfl) rfl #[.agg #[.int .i16 AZ, .slice A0 AF.length Ac]] rfl gl_ ?_; (with_reducible refine (impl_ValidRope.calls k AZ _ _ AF true _ ?side1 ?side2 A4.out).mono ?_); (case side1 => exact sQ (Kd.C_below BI.out HB.out)); (case side2 => exact BN.out); rintro e Cw ⟨rfl, hb⟩; refine ⟨_, rfl, ?_⟩; replace AA := kK AA hb; replace AB := kK AB hb; replace AC := kK AC hb; replace HB := kB3 HB AE AI AL hb; (try clear hb)) | ((with_reducible refine gate_callee (f := 41) rfl ?_); refine goesL_ (some 25) rfl rfl Tryz.func41 (by kernel_rfl) rfl #[.int .i64 a1, .int .i64 0, .int .i64 (wrap64 (A2 - 1))] rfl gl_ ?_; (with_reducible refine (impl_within.calls a1 0 (wrap64 (A2 - 1)) false _ A6.out).mono ?_); rintro e w' ⟨rfl, ⟨nd, rfl⟩⟩; refine ⟨_, rfl, ?_⟩; (try (rw [drewN_self Cw]; generalize BC : World.drewN Cw _ = Cw; have Ay : Aside0 (Cw.heap[AD]? = some (.cells #[.int .i16 AZ, .slice A0 AF.length Ac] 27 (0, 0))) := ⟨by rw [← BC]; exact (zK AA.out)⟩; have Aw : Aside0 (Cw.heap[AK]? = some (.cells #[.int .i16 0, .slice none 0 0] 27 (0, 0))) := ⟨by rw [← BC]; exact (zK AB.out)⟩; have Ax : Aside0 (Cw.heap[AG]? = some (.cells #[.int .i16 0, .slice none 0 0] 27 (0, 0))) := ⟨by rw [← BC]; exact (zK AC.out)⟩; have Av : Aside0 (Below w.heap.size w Cw) := ⟨by rw [← BC]; exact (zH3 HB AE AI AL)⟩; clear AA AB AC HB BC; have AA := Ay; have AB := Aw; have AC := Ax; have HB := Av; clear Ay Aw Ax Av)); have Gf := Aj.out; have Gy := Ai.out; obtain ⟨EG, Ds, E0, Ff⟩ := cz2 Cw AB; obtain ⟨FM, Ej, EI, D6⟩ := cz2 Cw AC))
 refine bodyPost_ret (results_list (rs := [.cell 4 27, .cell 5 27, .tmp 6]) rfl (by simp) (.cell AK 27 #[.int .i16 0, .slice none 0 0] (0, 0) _ rfl (by refine blk_far ?_ Aj.out _; refine blk_far ?_ Aj.out _; refine blk_put (cs := #[.int .i16 0, .slice none 0 0]) ?_ 1 _ rfl; refine blk_put (cs := #[.int .i16 0, .slice none 0 0]) ?_ 0 _ rfl; exact AB.out) Tryz.underlying27 rfl (by kernel_rfl) (.cell AG 27 #[.int .i16 0, .slice none 0 0] (0, 0) _ rfl (by refine blk_put (cs := #[.int .i16 0, .slice none 0 0]) ?_ 1 _ rfl; refine blk_put (cs := #[.int .i16 0, .slice none 0 0]) ?_ 0 _ rfl; refine blk_far ?_ Ai.out _; refine blk_far ?_ Ai.out _; exact AC.out) Tryz.underlying27 rfl (by kernel_rfl) (.tmp .nil)))) rfl ?_
 exact ⟨_, _, rfl, by first | exact Kd.R_nil _ _ _ _ _ | exact Kd.N_nil _ _ _ _ _ | exact Kd.V_nil _ _ _ _ _ | exact Kd.Q_nil _ _ _ _ _ | exact Kd.S_nil _ _ _ _ _, by first | exact Kd.R_nil _ _ _ _ _ | exact Kd.N_nil _ _ _ _ _ | exact Kd.V_nil _ _ _ _ _ | exact Kd.Q_nil _ _ _ _ _ | exact Kd.S_nil _ _ _ _ _, zH3 HB AE AI AL⟩
 }
 }
 {
 replace c5 := Bool.eq_false_iff.mpr c5
 subst c5
 rw [if_neg (show ¬ (false = true) by decide)] at H
 simp only [Option.some.injEq, Prod.mk.injEq] at H
 obtain ⟨rfl, rfl, rfl, rfl, rfl⟩ := H
 go_enter Tryz.func16, Tryz.ntmps16
 go_wp2_with (first | ((with_reducible refine gate_dst (N := 2) rfl ?_); refine box_event ?hg (N := 2) ?hd (cs := #[.int .i16 AZ, .slice A0 AF.length Ac]) (t := 27) ?hr ?_; (case hd => rfl); (case hg => rfl); (case hr => first | (go_simp; done) | (go_simp; rfl)); intro AD hg Hl hbox hb; have AA := ak (hbox); have Ca := gS HB hg; have AE := gS HB hg; replace HB := kB HB hb; clear hb hbox hg) | ((with_reducible refine gate_dst (N := 4) rfl ?_); refine box_event ?hg (N := 4) ?hd (cs := #[.int .i16 0, .slice none 0 0]) (t := 27) ?hr ?_; (case hd => rfl); (case hg => rfl); (case hr => first | (go_simp; done) | (go_simp; rfl)); intro AK hg Hj hbox hb; have AB := ak (hbox); have CW := gS1 HB AE hg; have AI := gS1 HB AE hg; have Ao := nL AA hg; have Ap := nG AA hg; replace AA := kK AA hb; replace HB := kB1 HB AE hb; clear hb hbox hg) | ((with_reducible refine gate_dst (N := 5) rfl ?_); refine box_event ?hg (N := 5) ?hd (cs := #[.int .i16 0, .slice none 0 0]) (t := 27) ?hr ?_; (case hd => rfl); (case hg => rfl); (case hr => first | (go_simp; done) | (go_simp; rfl)); intro AG hg Cx hbox hb; have AC := ak (hbox); have CZ := ak ((by rw [hg]; exact (below_size (zH2 HB AE AI)) : w.heap.size ≤ AG)); have AL := ak ((by rw [hg]; exact (below_size (zH2 HB AE AI)) : w.heap.size ≤ AG)); have An := nL AA hg; have Aq := nG AA hg; have Aj := nL AB hg; have Ai := nG AB hg; replace AA := kK AA hb; replace AB := kK AB hb; replace HB := kB2 HB AE AI hb; clear hb hbox hg; have Fy := Ao.out; have GG := Ap.out; have GA := An.out; have F1 := Aq.out; obtain ⟨DY, DT, DV, Dn⟩ := cz2 Cx AA) | ((with_reducible refine gate_callee (f := 42) rfl ?_); refine goesL_ (some 14) rfl rfl Tryz.func42 (by kernel_rfl) rfl #[.slice A0 AF.length Ac] rfl gl_ ?_; (with_reducible refine (impl_size_int16.calls _ _ AF A2 _ ?side1 ?side2 A3.out).mono ?_); (case side1 => exact sQ (Kd.C_below BI.out HB.out)); (case side2 => exact BN.out); rintro e w' ⟨rfl, ⟨nd, rfl⟩⟩; refine ⟨_, rfl, ?_⟩; (try (rw [drewN_self Cx]; generalize BC : World.drewN Cx _ = Cx; have Ay : Aside0 (Cx.heap[AD]? = some (.cells #[.int .i16 AZ, .slice A0 AF.length Ac] 27 (0, 0))) := ⟨by rw [← BC]; exact (zK AA.out)⟩; have Aw : Aside0 (Cx.heap[AK]? = some (.cells #[.int .i16 0, .slice none 0 0] 27 (0, 0))) := ⟨by rw [← BC]; exact (zK AB.out)⟩; have Ax : Aside0 (Cx.heap[AG]? = some (.cells #[.int .i16 0, .slice none 0 0] 27 (0, 0))) := ⟨by rw [← BC]; exact (zK AC.out)⟩; have Av : Aside0 (Below w.heap.size w Cx) := ⟨by rw [← BC]; exact (zH3 HB AE AI AL)⟩; clear AA AB AC HB BC; have AA := Ay; have AB := Aw; have AC := Ax; have HB := Av; clear Ay Aw Ax Av)); obtain ⟨hcy_0, hcy_1, hfy_0, hfy_1⟩ := cz2 Cx AA) | ((with_reducible refine gate_callee (f := 13) rfl ?_); refine goesL_ (some 18) rfl rfl Tryz.func13 (by kernel_rfl) rfl #[.agg #[.int .i16 AZ, .slice A0 AF.length Ac]] rfl gl_ ?_; (with_reducible refine (impl_ValidRope.calls k AZ _ _ AF false _ ?side1 ?side2 A4.out).mono ?_); (case side1 => exact sQ (Kd.C_below BI.out HB.out)); (case side2 => exact BN.out); rintro e Dq ⟨rfl, hb⟩; refine ⟨_, rfl, ?_⟩; replace AA := kK AA hb; replace AB := kK AB hb; replace AC := kK AC hb; replace HB := kB3 HB AE AI AL hb; (try clear hb); have Fs := Aj.out; have F6 := Ai.out; obtain ⟨Di, DG, De, Df⟩ := cz2 Dq AB; obtain ⟨Dd, DK, DX, DU⟩ := cz2 Dq AC))
 refine bodyPost_ret (results_list (rs := [.cell 4 27, .cell 5 27, .tmp 6]) rfl (by simp) (.cell AK 27 #[.int .i16 0, .slice none 0 0] (0, 0) _ rfl (by refine blk_far ?_ Aj.out _; refine blk_far ?_ Aj.out _; refine blk_put (cs := #[.int .i16 0, .slice none 0 0]) ?_ 1 _ rfl; refine blk_put (cs := #[.int .i16 0, .slice none 0 0]) ?_ 0 _ rfl; exact AB.out) Tryz.underlying27 rfl (by kernel_rfl) (.cell AG 27 #[.int .i16 0, .slice none 0 0] (0, 0) _ rfl (by refine blk_put (cs := #[.int .i16 0, .slice none 0 0]) ?_ 1 _ rfl; refine blk_put (cs := #[.int .i16 0, .slice none 0 0]) ?_ 0 _ rfl; refine blk_far ?_ Ai.out _; refine blk_far ?_ Ai.out _; exact AC.out) Tryz.underlying27 rfl (by kernel_rfl) (.tmp .nil)))) rfl ?_
 exact ⟨_, _, rfl, by first | exact Kd.R_nil _ _ _ _ _ | exact Kd.N_nil _ _ _ _ _ | exact Kd.V_nil _ _ _ _ _ | exact Kd.Q_nil _ _ _ _ _ | exact Kd.S_nil _ _ _ _ _, by first | exact Kd.R_nil _ _ _ _ _ | exact Kd.N_nil _ _ _ _ _ | exact Kd.V_nil _ _ _ _ _ | exact Kd.Q_nil _ _ _ _ _ | exact Kd.S_nil _ _ _ _ _, zH3 HB AE AI AL⟩
 }
end Go.Proofs.YtlggjfhoecaelaaGreatDoor.P
