-- Printed by wip/print (my turned copy of the kit's print) out of the translation; Lean checks it.
import Derived.Test.YtooidjdgfoioiaaP0
import Derived.Test.YtooidjdgfoioiaaP2
import Derived.Test.YtooidjdgfoioiaaP3
import Derived.Test.YtooidjdgfoioiaaP6
import Derived.Test.YtooidjdgfoioiaaP15
import Derived.Test.YtooidjdgfoioiaaP16
namespace Go.Proofs.Ytooidjdgfoioiaa.P
open Go.RowKit Go.Proofs.YtooidjdgfoioiaaW.PrintWords Go.Proofs.YtooidjdgfoioiaaW.PrintLast Go.Proofs.YtooidjdgfoioiaaW.PrintMore
attribute [local go_sem] max2_int min2_int max_two min_two max_three min_three max_four min_four   -- for this text's walks alone
set_option linter.unusedVariables false
set_option linter.unusedSimpArgs false

/-! ### spec_SlacksOf: function 34 -/
mutual
def spec_SlacksOf.j0 : Nat → List (S65) → List (S62) → List Int → Bool → Int → Int → Int → Int → Int → Int → Int → Int → Int → Int → Int → Int → Int → List Int → Option (List Int × Int)
  | 0, _, _, _, _, _, _, _, _, _, _, _, _, _, _, _, _, _, _ => none
  | k + 1, x2, x3, AP, AQ, AD, AC, AB, AK, AA, AL, AI, AE, AH, AG, AF, AJ, AN, AM => if AQ = true then (some (AP, 1)) else (if (x3.length : Int) = (x2.length : Int) then ((spec_l03Cells.f k AD AC AB AK AA AL AI AE AH AG AF AJ x3).bind fun AO => (spec_SlacksOf.j1 k x2 x3 AP (!AO) AD AC AB AK AA AL AI AE AH AG AF AJ AN AM)) else (spec_SlacksOf.j1 k x2 x3 AP true AD AC AB AK AA AL AI AE AH AG AF AJ AN AM))
def spec_SlacksOf.j1 : Nat → List (S65) → List (S62) → List Int → Bool → Int → Int → Int → Int → Int → Int → Int → Int → Int → Int → Int → Int → Int → List Int → Option (List Int × Int)
  | 0, _, _, _, _, _, _, _, _, _, _, _, _, _, _, _, _, _, _ => none
  | k + 1, x2, x3, AP, AQ, AD, AC, AB, AM, AA, AN, AJ, AE, AI, AG, AF, AK, AL, AH => if AQ = true then (some (AP, 2)) else ((spec_l03Gaps.f k AL AH x2).bind fun AO => (spec_SlacksOf.l0 k x3 AP AO 1 AD AC AB AM AA AN AJ AE AI AG AF AK))
def spec_SlacksOf.l0 : Nat → List (S62) → List Int → List Int → Int → Int → Int → Int → Int → Int → Int → Int → Int → Int → Int → Int → Int → Option (List Int × Int)
  | 0, _, _, _, _, _, _, _, _, _, _, _, _, _, _, _, _ => none
  | k + 1, x3, AO, AP, AN, AL, AG, AD, AF, AB, AH, AC, AJ, AI, AA, AK, AE => if AN < (x3.length : Int) then (if 0 ≤ (wrap64 (AN - 1)) then (if (wrap64 (AN - 1)) < (x3.length : Int) then (if 0 ≤ AN then ((spec_StepsBetween.f k AL AG AD AF AB AH AC AJ AI AA AK AE ((rd_T62 x3 (wrap64 (AN - 1))).f0) ((rd_T62 x3 (wrap64 (AN - 1))).f1) ((rd_T62 x3 AN).f0) ((rd_T62 x3 AN).f1)).bind fun AM => (if AM.2 = 0 then (if (wrap64 (AN - 1)) < (AP.length : Int) then (if AO.length < 17592186044416 then (spec_SlacksOf.l0 k x3 (AO ++ [wrap64 ((rd AP (wrap64 (AN - 1))) - AM.1)]) AP (wrap64 (AN + 1)) AL AG AD AF AB AH AC AJ AI AA AK AE) else (none)) else (none)) else (some ((([] : List Int)), AM.2)))) else (none)) else (none)) else (none)) else (some (AO, 0))
end
def spec_SlacksOf.f (k : Nat) (AC : Int) (AE : Int) (AL : Int) (AG : Int) (AH : Int) (AM : Int) (AK : Int) (AD : Int) (AN : Int) (AJ : Int) (AA : Int) (AB : Int) (AI : Int) (AF : List Int) (l2 : List (S65)) (l3 : List (S62)) : Option (List Int × Int) := (some (([] : List Int) : List Int)).bind fun AO => ((spec_l01Ok.f k AC AE AL AG AH AM AK AD AN AJ AA AB).bind fun AQ => (if AQ = true then ((spec_l03Holds.f k AI AF l2).bind fun AP => (spec_SlacksOf.j0 k l2 l3 AO (!AP) AC AE AL AG AH AM AK AD AN AJ AA AB AI AF)) else (spec_SlacksOf.j0 k l2 l3 AO true AC AE AL AG AH AM AK AD AN AJ AA AB AI AF)))
def spec_SlacksOf.T10 : Bool × List (List Nat × List Nat) := (true, [([], []), ([], []), ([], []), ([2], [2]), ([1, 3], [1, 3]), ([4], [4]), ([], []), ([], []), ([6, 7], [6, 7]), ([8], [8]), ([0, 5, 9], [0, 5, 9]), ([10], [10]), ([11], [11]), ([11], [11]), ([12, 10, 0, 1, 2, 3, 4, 5, 6, 7, 8, 9, 10, 11, 12], [12]), ([13, 14, 0, 1, 2, 3, 4, 5, 6, 7, 8, 9, 10, 11, 12, 13, 14], [13])])
def spec_SlacksOf.B10 : List Nat := [0, 0, 0, 4, 14, 30, 0, 0, 192, 448, 1023, 2047, 4095, 4095, 8191, 32767]
theorem spec_SlacksOf.tab10 : rtab .any (opsOf Try.f34 10) = spec_SlacksOf.T10 := by kernel_rfl
theorem spec_SlacksOf.bits10 : waitsOk spec_SlacksOf.T10.2 spec_SlacksOf.B10 = true := by kernel_rfl
set_option maxHeartbeats 8000000 in
set_option maxRecDepth 100000 in
theorem spec_SlacksOf.calls (k : Nat) (A6 : Int) (Ay : Int) (A5 : Int) (Aw : Int) (Az : Int) (A0 : Int) (A9 : Int) (A7 : Int) (Ax : Int) (A4 : Int) (At : Int) (As : Int) (BD : Int) (A8 : Option Addr) (A1 : Nat) (Ar : List Int) (A2 : Option Addr) (c2 : Nat) (l2 : List (S65)) (A3 : Option Addr) (c3 : Nat) (l3 : List (S62)) (r1 : List Int) (r2 : Int) (w : World) (Bc : Kd.C (Kd.int .i16) w A8 Ar.length Ar) (BY : Ar.length ≤ A1) (Co : Kd.C k65 w A2 l2.length l2) (Ck : l2.length ≤ c2) (Cq : Kd.C k62 w A3 l3.length l3) (Cm : l3.length ≤ c3) (h : spec_SlacksOf.f k A6 Ay A5 Aw Az A0 A9 A7 Ax A4 At As BD Ar l2 l3 = some (r1, r2)) :
    Calls Try.prog 34 #[.agg #[.int .i8 A6, .int .i8 Ay, .int .u16 A5, .int .u16 Aw, .int .u16 Az, .int .u16 A0, .int .u16 A9, .int .u16 A7, .int .u16 Ax, .int .u16 A4, .int .u16 At, .int .u16 As], .agg #[.int .i16 BD, .slice A8 Ar.length A1], .slice A2 l2.length c2, .slice A3 l3.length c3] w fun e w' => ∃ v0_ : Value, e = .returned (.tuple #[v0_, .int .i64 r2]) ∧ Kd.R (Kd.int .i64) 2 w' w.heap.size (fun _ => True) v0_ r1 ∧ Below w.heap.size w w' := by
 have C3 := Try.underlying35
 have C6 := Try.underlying32
 have C4 := Try.underlying62
 have Bb := ak Bc
 have Ba := ak BY
 clear Bc BY
 have Cv := ak Co
 have Cp := ak Ck
 clear Co Ck
 have CI := ak Cq
 have C7 := ak Cm
 clear Cq Cm
 have HB := ak (Below.refl w.heap.size w)
 have H := h
 unfold spec_SlacksOf.f at H
 clear h
 obtain ⟨BM, BE⟩ : ∃ y_ : List Int, y_ = (([] : List Int)) := ⟨_, rfl⟩
 replace H : ((spec_l01Ok.f k A6 Ay A5 Aw Az A0 A9 A7 Ax A4 At As).bind fun Bf => (if Bf = true then ((spec_l03Holds.f k BD Ar l2).bind fun BW => (spec_SlacksOf.j0 k l2 l3 BM (!BW) A6 Ay A5 Aw Az A0 A9 A7 Ax A4 At As BD Ar)) else (spec_SlacksOf.j0 k l2 l3 BM true A6 Ay A5 Aw Az A0 A9 A7 Ax A4 At As BD Ar))) = some (r1, r2) := by first | (rw [BE]; with_reducible exact H) | (have BR := (Option.bind_some _ _).symm.trans H; rw [BE]; with_reducible exact BR) | (have BR := (Option.bind_some _ _).symm.trans H; with_reducible exact BR) | with_reducible exact H | (rw [BE]; exact H) | exact H
 have BX := ak BE
 clear BE
 have Cc := ak H
 clear H
 go_enter Try.func34, Try.ntmps34
 go_upto_region 2 with (first | ((with_reducible refine gate_dst (N := 4) rfl ?_); refine box_event ?hg (N := 4) ?hd (cs := #[.int .i8 A6, .int .i8 Ay, .int .u16 A5, .int .u16 Aw, .int .u16 Az, .int .u16 A0, .int .u16 A9, .int .u16 A7, .int .u16 Ax, .int .u16 A4, .int .u16 At, .int .u16 As]) (t := 35) ?hr ?_; (case hd => rfl); (case hg => rfl); (case hr => first | (go_simp; done) | (go_simp; rfl)); intro AP hg w6 hbox hb; have AA := ak (hbox); have Cs := gS HB hg; have AR := gS HB hg; replace HB := kB HB hb; clear hb hbox hg) | ((with_reducible refine gate_dst (N := 5) rfl ?_); refine box_event ?hg (N := 5) ?hd (cs := #[.int .i16 BD, .slice A8 Ar.length A1]) (t := 32) ?hr ?_; (case hd => rfl); (case hg => rfl); (case hr => first | (go_simp; done) | (go_simp; rfl)); intro Au hg w7 hbox hb; have AO := ak (hbox); have Cn := gS1 HB AR hg; have AT := gS1 HB AR hg; have Bn := nL AA hg; have Bl := nG AA hg; replace AA := kK AA hb; replace HB := kB1 HB AR hb; clear hb hbox hg) | ((with_reducible refine gate_dst (N := 15) rfl ?_); refine Kd.R_lit (Kd.int .i64) _ 2 ?hg (N := 15) ?hd (xs := ([] : List Int)) (inner := []) (ok := fun _ => True) (okp := fun _ => True) ?hr ?hp (fun _ hk => hk) trivial (Below.refl _ _) (Nat.le_refl _) (by simp) ?_; (case hd => rfl); (case hg => rfl); (case hr => first | (go_simp; done) | (go_simp; rfl)); (case hp => exact (Reps.none _ _)); intro Bs w8 Bz hb CZ BS; clear CZ BS; (first | rw [← BX.out] at Bz | (simp only [Int.reduceToNat] at Bz; rw [← BX.out] at Bz)); have BQ := ak (Kd.R_lower Bz (below_size (zH2 HB AR AT))); replace AA := kK AA hb; replace AO := kK AO hb; replace HB := kB2 HB AR AT hb; clear hb Bz))
 (try simp only [Act.put, zs, zz, zk])
 go_cut [22] (fun Cz wc => ∃ (kq : Nat) (BP : Bool) (Aj : Int) (Ai : Int) (Ah : Int) (An : Int) (Am : Int) (Ao : Int) (Ae : Int) (Al : Int) (Ag : Int) (Af : Int) (Ak : Int) (Ap : Int) (AU : Int), Cz = .bool BP ∧ Aside0 (spec_SlacksOf.j0 kq l2 l3 BM BP Aj Ai Ah An Am Ao Ae Al Ag Af Ak Ap AU Ar = some (r1, r2)) ∧ Aside0 (kq ≤ k) ∧ Aside0 (Kd.R (Kd.int .i64) 2 wc w.heap.size (fun _ => True) Bs BM) ∧ Aside0 (wc.heap[AP]? = some (.cells #[.int .i8 Aj, .int .i8 Ai, .int .u16 Ah, .int .u16 An, .int .u16 Am, .int .u16 Ao, .int .u16 Ae, .int .u16 Al, .int .u16 Ag, .int .u16 Af, .int .u16 Ak, .int .u16 Ap] 35 (0, 0))) ∧ Aside0 (wc.heap[Au]? = some (.cells #[.int .i16 AU, (.slice A8 Ar.length A1)] 32 (0, 0))) ∧ Aside0 (Below w.heap.size w wc))
 case first => (
 have H := Cc.out
 clear Cc
 replace H := Option.bind_eq_some_iff.mp H
 obtain ⟨Bf, Bv, H⟩ := H
 have Cg := ak Bv
 clear Bv
 by_cases CV : Bf = true
 {
 subst CV
 rw [if_pos rfl] at H
 replace H := Option.bind_eq_some_iff.mp H
 obtain ⟨BW, Bw, H⟩ := H
 have C2 := ak Bw
 clear Bw
 have H' := ak H
 clear H
 go_wp2_with (first | ((with_reducible refine gate_callee (f := 40) rfl ?_); refine goesL_ (some 16) rfl rfl Try.func40 (by kernel_rfl) rfl #[.pointer (some ⟨AP, 0, none⟩)] rfl gl_ ?_; (with_reducible refine (spec_l01Ok.calls k AP A6 Ay A5 Aw Az A0 A9 A7 Ax A4 At As true _ ?side1 Cg.out).mono ?_); (case side1 => exact (zK AA.out)); rintro e w' ⟨rfl, ⟨nd, rfl⟩⟩; refine ⟨_, rfl, ?_⟩) | (go_at_call 69; (with_reducible refine (spec_l03Holds.calls k Au BD A8 A1 Ar _ _ l2 BW _ ?side1 ?side2 ?side3 ?side4 ?side5 C2.out).mono ?_); (case side1 => exact sQ (Kd.C_below Bb.out (zH2 HB AR AT))); (case side2 => exact Ba.out); (case side3 => exact sQ (Kd.C_below Cv.out (zH2 HB AR AT))); (case side4 => exact Cp.out); (case side5 => exact (zK AO.out)); rintro e DE ⟨rfl, hb⟩; replace BQ := kR BQ hb; replace AA := kK AA hb; replace AO := kK AO hb; replace HB := kB2 HB AR AT hb; (try clear hb)))
 go_meet
 case rel => exact ⟨_, (!BW), (A6), (Ay), (A5), (Aw), (Az), (A0), (A9), (A7), (Ax), (A4), (At), (As), (BD), rfl, H', ⟨by omega⟩, ⟨(zR BQ.out)⟩, ⟨(zK AA.out)⟩, ⟨(zK AO.out)⟩, ⟨zH2 HB AR AT⟩⟩
 }
 {
 replace CV := Bool.eq_false_iff.mpr CV
 subst CV
 rw [if_neg (show ¬ (false = true) by decide)] at H
 have H' := ak H
 clear H
 go_wp2_with (first | ((with_reducible refine gate_callee (f := 40) rfl ?_); refine goesL_ (some 16) rfl rfl Try.func40 (by kernel_rfl) rfl #[.pointer (some ⟨AP, 0, none⟩)] rfl gl_ ?_; (with_reducible refine (spec_l01Ok.calls k AP A6 Ay A5 Aw Az A0 A9 A7 Ax A4 At As false _ ?side1 Cg.out).mono ?_); (case side1 => exact (zK AA.out)); rintro e w' ⟨rfl, ⟨nd, rfl⟩⟩; refine ⟨_, rfl, ?_⟩))
 go_meet
 case rel => exact ⟨_, (true), (A6), (Ay), (A5), (Aw), (Az), (A0), (A9), (A7), (Ax), (A4), (At), (As), (BD), rfl, H', ⟨by omega⟩, ⟨(zR BQ.out)⟩, ⟨(zK AA.out)⟩, ⟨(zK AO.out)⟩, ⟨zH2 HB AR AT⟩⟩
 }
 )
 case rest => (
 clear Cc
 obtain ⟨kq, BP, Aj, Ai, Ah, An, Am, Ao, Ae, Al, Ag, Af, Ak, Ap, AU, rfl, HA, CR, AQ, AA, AO, HB⟩ := hcut
 cases kq with
 | zero => exact absurd HA.out (by simp [spec_SlacksOf.j0])
 | succ Ci => (
 have H := HA.out
 clear HA
 simp only [spec_SlacksOf.j0] at H
 by_cases Bo : BP = true
 {
 subst Bo
 rw [if_pos rfl] at H
 simp only [Option.some.injEq, Prod.mk.injEq] at H
 obtain ⟨rfl, rfl⟩ := H
 go_wp2
 go_ret2
 exact ⟨_, rfl, AQ.out, zH2 HB AR AT⟩
 }
 {
 replace Bo := Bool.eq_false_iff.mpr Bo
 subst Bo
 rw [if_neg (show ¬ (false = true) by decide)] at H
 have Bd := ak H
 clear H
 go_upto_region 4 with (fail)
 go_cut [33] (fun Cx wc => ∃ (kq : Nat) (BC : Bool) (AJ : Int) (AG : Int) (AH : Int) (AK : Int) (AF : Int) (AD : Int) (AL : Int) (AI : Int) (AM : Int) (AB : Int) (AE : Int) (AC : Int), Cx = .bool BC ∧ Aside0 (spec_SlacksOf.j1 kq l2 l3 BM BC AJ AG AH AK AF AD AL AI AM AB AE AC AU Ar = some (r1, r2)) ∧ Aside0 (kq ≤ Ci) ∧ Aside0 (Kd.R (Kd.int .i64) 2 wc w.heap.size (fun _ => True) Bs BM) ∧ Aside0 (wc.heap[AP]? = some (.cells #[.int .i8 AJ, .int .i8 AG, .int .u16 AH, .int .u16 AK, .int .u16 AF, .int .u16 AD, .int .u16 AL, .int .u16 AI, .int .u16 AM, .int .u16 AB, .int .u16 AE, .int .u16 AC] 35 (0, 0))) ∧ Aside0 (wc.heap[Au]? = some (.cells #[.int .i16 AU, (.slice A8 Ar.length A1)] 32 (0, 0))) ∧ Aside0 (Below w.heap.size w wc))
 case first => (
 have H := Bd.out
 clear Bd
 by_cases BV : (l3.length : Int) = (l2.length : Int)
 {
 rw [if_pos BV] at H
 have BH : ((l3.length : Int) == (l2.length : Int)) = true := beq_iff_eq.mpr BV
 have CL : ((l3.length : Int) != (l2.length : Int)) = false := bne_eq_false_iff_eq.mpr BV
 have CG : (l3.length == l2.length) = true := by first | simpa using BV | (simp at BV ⊢; omega)
 clear BV
 (first | rw [BH] | (simp only [i64_w, i32_w]; rw [BH]) | skip)
 replace H := Option.bind_eq_some_iff.mp H
 obtain ⟨B9, CA, H⟩ := H
 have Cy := ak CA
 clear CA
 have H' := ak H
 clear H
 go_wp2_with (first | (go_at_call 41; (with_reducible refine (spec_l03Cells.calls Ci AP Aj Ai Ah An Am Ao Ae Al Ag Af Ak Ap _ _ l3 B9 _ ?side1 ?side2 ?side3 Cy.out).mono ?_); (case side1 => exact sQ (Kd.C_below CI.out HB.out)); (case side2 => exact C7.out); (case side3 => exact (zK AA.out)); rintro e DC ⟨rfl, hb⟩; replace AQ := kR AQ hb; replace AA := kK AA hb; replace AO := kK AO hb; replace HB := kB2 HB AR AT hb; (try clear hb)))
 go_meet
 case rel => exact ⟨_, (!B9), (Aj), (Ai), (Ah), (An), (Am), (Ao), (Ae), (Al), (Ag), (Af), (Ak), (Ap), rfl, H', ⟨by have := CR.out; first | omega | exact Nat.le_refl _⟩, ⟨(zR AQ.out)⟩, ⟨(zK AA.out)⟩, ⟨(zK AO.out)⟩, ⟨zH2 HB AR AT⟩⟩
 }
 {
 rw [if_neg BV] at H
 have BH : ((l3.length : Int) == (l2.length : Int)) = false := beq_eq_false_iff_ne.mpr BV
 have CL : ((l3.length : Int) != (l2.length : Int)) = true := bne_iff_ne.mpr BV
 have CG : (l3.length == l2.length) = false := by first | simpa using BV | (simp at BV ⊢; omega)
 (first | rw [BH] | (simp only [i64_w, i32_w]; rw [BH]) | skip)
 have H' := ak H
 clear H
 go_wp2
 go_meet
 case rel => exact ⟨_, (true), (Aj), (Ai), (Ah), (An), (Am), (Ao), (Ae), (Al), (Ag), (Af), (Ak), (Ap), rfl, H', ⟨by have := CR.out; first | omega | exact Nat.le_refl _⟩, ⟨(zR AQ.out)⟩, ⟨(zK AA.out)⟩, ⟨(zK AO.out)⟩, ⟨zH2 HB AR AT⟩⟩
 }
 )
 case rest => (
 clear Bd
 obtain ⟨kq, BC, AJ, AG, AH, AK, AF, AD, AL, AI, AM, AB, AE, AC, rfl, HA, CF, AQ, AA, AO, HB⟩ := hcut
 cases kq with
 | zero => exact absurd HA.out (by simp [spec_SlacksOf.j1])
 | succ Bj => (
 have H := HA.out
 clear HA
 simp only [spec_SlacksOf.j1] at H
 by_cases CN : BC = true
 {
 subst CN
 rw [if_pos rfl] at H
 simp only [Option.some.injEq, Prod.mk.injEq] at H
 obtain ⟨rfl, rfl⟩ := H
 go_wp2
 go_ret2
 exact ⟨_, rfl, AQ.out, zH2 HB AR AT⟩
 }
 {
 replace CN := Bool.eq_false_iff.mpr CN
 subst CN
 rw [if_neg (show ¬ (false = true) by decide)] at H
 replace H := Option.bind_eq_some_iff.mp H
 obtain ⟨Av, Bp, H⟩ := H
 have C5 := ak Bp
 clear Bp
 have H' := ak H
 clear H
 go_wp2_with (first | ((with_reducible refine gate_callee (f := 70) rfl ?_); refine goesL_ (some 36) rfl rfl Try.func70 (by kernel_rfl) rfl #[.pointer (some ⟨Au, 0, none⟩), .slice A2 l2.length c2] rfl gl_ ?_; (with_reducible refine (spec_l03Gaps.calls Bj Au AU A8 A1 Ar _ _ l2 Av _ ?side1 ?side2 ?side3 ?side4 ?side5 C5.out).mono ?_); (case side1 => exact sQ (Kd.C_below Bb.out HB.out)); (case side2 => exact Ba.out); (case side3 => exact sQ (Kd.C_below Cv.out HB.out)); (case side4 => exact Cp.out); (case side5 => exact (zK AO.out)); rintro e DH ⟨CK, rfl, Cd, hb⟩; refine ⟨_, rfl, ?_⟩; have CJ := ak (Kd.R_lower (Kd.R_new' Cd (Kd.R_lt (zR AQ.out))) (below_size (zH2 HB AR AT))); replace AQ := kE AQ Cd hb; replace AA := kK AA hb; replace AO := kK AO hb; replace HB := kB2 HB AR AT hb; (try clear hb); (try clear Cd)))
 go_loopg [10, 12] Bj (fun kq Cj Cw w' => ∃ (BB : List Int) (AN : Int), Cw = .int .i64 AN ∧ Aside0 (spec_SlacksOf.l0 kq l3 BB Av AN AJ AG AH AK AF AD AL AI AM AB AE AC = some (r1, r2)) ∧ Aside0 (kq ≤ Bj) ∧ Aside0 (Kd.R (Kd.int .i64) 2 w' w.heap.size (fun k_ => some k_ ≠ (CK : Value).ownBlock) Cj BB) ∧ Aside0 (Kd.R (Kd.int .i64) 2 w' w.heap.size (fun k_ => some k_ ≠ (Cj : Value).ownBlock) CK Av) ∧ Aside0 (w'.heap[AP]? = some (.cells #[.int .i8 AJ, .int .i8 AG, .int .u16 AH, .int .u16 AK, .int .u16 AF, .int .u16 AD, .int .u16 AL, .int .u16 AI, .int .u16 AM, .int .u16 AB, .int .u16 AE, .int .u16 AC] 35 (0, 0))) ∧ Aside0 (w'.heap[Au]? = some (.cells #[.int .i16 AU, (.slice A8 Ar.length A1)] 32 (0, 0))) ∧ Aside0 (Below w.heap.size w w'))
 case atStart => exact ⟨(BM), (1), rfl, H', ⟨Nat.le_refl _⟩, ⟨Kd.R_mono AQ.out (fun _ hk => hk.2)⟩, ⟨Kd.R_mono CJ.out (fun _ hk => hk.2)⟩, ⟨(zK AA.out)⟩, ⟨(zK AO.out)⟩, ⟨zH2 HB AR AT⟩⟩
 case round => (
 clear H'
 obtain ⟨BB, AN, rfl, HA, Cu, AQ, AV, AA, AO, HB⟩ := hrel
 cases gk with
 | zero => exact absurd HA.out (by simp [spec_SlacksOf.l0])
 | succ k3 => (
 have H := HA.out
 clear HA
 simp only [spec_SlacksOf.l0] at H
 by_cases Bm : AN < (l3.length : Int)
 {
 rw [if_pos Bm] at H
 have B3 : decide (AN < (l3.length : Int)) = true := decide_eq_true Bm
 clear Bm
 obtain ⟨AS, BA⟩ : ∃ j_ : Int, (wrap64 (AN - 1)) = j_ := ⟨_, rfl⟩
 first | rw [BA] at H | simp only [BA] at H
 have CY : (IntKind.i64.wrap (AN - 1)) = AS := (i64_w _).trans BA
 by_cases CU : 0 ≤ (AS)
 {
 rw [if_pos CU] at H
 have Ch : decide (0 ≤ (AS)) = true := decide_eq_true CU
 clear CU
 by_cases CT : (AS) < (l3.length : Int)
 {
 rw [if_pos CT] at H
 have Cl : decide ((AS) < (l3.length : Int)) = true := decide_eq_true CT
 clear CT
 by_cases CS : 0 ≤ AN
 {
 rw [if_pos CS] at H
 have Cf : decide (0 ≤ AN) = true := decide_eq_true CS
 clear CS
 replace H := Option.bind_eq_some_iff.mp H
 obtain ⟨⟨BT, BI⟩, Bu, H⟩ := H
 have Ct := ak Bu
 clear Bu
 by_cases Bg : BI = 0
 {
 rw [if_pos Bg] at H
 have CH : (BI == 0) = true := beq_iff_eq.mpr Bg
 have B8 : (BI != 0) = false := bne_eq_false_iff_eq.mpr Bg
 clear Bg
 by_cases CP : (AS) < (Av.length : Int)
 {
 rw [if_pos CP] at H
 have Cr : decide ((AS) < (Av.length : Int)) = true := decide_eq_true CP
 clear CP
 by_cases CQ : BB.length < 17592186044416
 {
 rw [if_pos CQ] at H
 have CD := ak CQ
 clear CQ
 obtain ⟨Br, BG⟩ : ∃ y_ : List Int, y_ = (BB ++ [wrap64 ((rd Av (AS)) - BT)]) := ⟨_, rfl⟩
 replace H : (spec_SlacksOf.l0 k3 l3 Br Av (wrap64 (AN + 1)) AJ AG AH AK AF AD AL AI AM AB AE AC) = some (r1, r2) := by first | (rw [BG]; with_reducible exact H) | (have BR := (Option.bind_some _ _).symm.trans H; rw [BG]; with_reducible exact BR) | (have BR := (Option.bind_some _ _).symm.trans H; with_reducible exact BR) | with_reducible exact H | (rw [BG]; exact H) | exact H
 have CC := ak BG
 clear BG
 have H' := ak H
 clear H
 try go_wp2
 replace AQ := ak (Kd.R_drew AQ.out)
 replace AV := ak (Kd.R_drew AV.out)
 replace AA := ak (blk_drew AA.out)
 replace AO := ak (blk_drew AO.out)
 replace HB := ak (below_drew1 HB.out)
 have BN : 0 ≤ ((AS) : Int) := of_decide_eq_true (by assumption)
 have BK : (AS) < (l3.length : Int) := of_decide_eq_true (by assumption)
 obtain ⟨Aq, Bk, AY, AZ⟩ := at_T62 CI.out (AS) BN BK
 have Ac := AZ
 have Ab := AY
 cases Bk
 replace AY := (HB.out.cell (World.block_lt_of_cell? w _ AY)).trans AY
 replace AZ := (HB.out.cell (World.block_lt_of_cell? w _ AZ)).trans AZ
 replace BN := eq_true BN
 replace BK := eq_true BK
 have BJ : 0 ≤ (AN : Int) := of_decide_eq_true (by assumption)
 have BL : AN < (l3.length : Int) := of_decide_eq_true (by assumption)
 obtain ⟨BU, Bi, AW, AX⟩ := at_T62 CI.out AN BJ BL
 have Aa := AX
 have Ad := AW
 obtain rfl : Aq = BU := (by injection Bi)
 replace AW := (HB.out.cell (World.block_lt_of_cell? w _ AW)).trans AW
 replace AX := (HB.out.cell (World.block_lt_of_cell? w _ AX)).trans AX
 replace BJ := eq_true BJ
 replace BL := eq_true BL
 refine start_ (n := 16) (S := fun w' => w'.cell? ⟨AP, 0, none⟩ = some (.int .i8 AJ) ∧ w'.cell? ⟨AP, 1, none⟩ = some (.int .i8 AG) ∧ w'.cell? ⟨AP, 2, none⟩ = some (.int .u16 AH) ∧ w'.cell? ⟨AP, 3, none⟩ = some (.int .u16 AK) ∧ w'.cell? ⟨AP, 4, none⟩ = some (.int .u16 AF) ∧ w'.cell? ⟨AP, 5, none⟩ = some (.int .u16 AD) ∧ w'.cell? ⟨AP, 6, none⟩ = some (.int .u16 AL) ∧ w'.cell? ⟨AP, 7, none⟩ = some (.int .u16 AI) ∧ w'.cell? ⟨AP, 8, none⟩ = some (.int .u16 AM) ∧ w'.cell? ⟨AP, 9, none⟩ = some (.int .u16 AB) ∧ w'.cell? ⟨AP, 10, none⟩ = some (.int .u16 AE) ∧ w'.cell? ⟨AP, 11, none⟩ = some (.int .u16 AC) ∧ w'.cell? (Aq.add (((AS)).toNat * 2)) = some (.int .i8 ((rd_T62 l3 (AS)).f0)) ∧ w'.cell? ⟨(Aq.add (((AS)).toNat * 2)).block, (Aq.add (((AS)).toNat * 2)).off + 1, none⟩ = some (.int .i8 ((rd_T62 l3 (AS)).f1)) ∧ w'.cell? (Aq.add ((AN).toNat * 2)) = some (.int .i8 ((rd_T62 l3 AN).f0)) ∧ w'.cell? ⟨(Aq.add ((AN).toNat * 2)).block, (Aq.add ((AN).toNat * 2)).off + 1, none⟩ = some (.int .i8 ((rd_T62 l3 AN).f1))) (ds := []) (bA 16 0) (by kernel_rfl) rfl rfl ⟨(blk_cell AA.out 0).trans rfl, (blk_cell AA.out 1).trans rfl, (blk_cell AA.out 2).trans rfl, (blk_cell AA.out 3).trans rfl, (blk_cell AA.out 4).trans rfl, (blk_cell AA.out 5).trans rfl, (blk_cell AA.out 6).trans rfl, (blk_cell AA.out 7).trans rfl, (blk_cell AA.out 8).trans rfl, (blk_cell AA.out 9).trans rfl, (blk_cell AA.out 10).trans rfl, (blk_cell AA.out 11).trans rfl, ((HB.out.cell (World.block_lt_of_cell? w _ Ab)).trans Ab), ((HB.out.cell (World.block_lt_of_cell? w _ Ac)).trans Ac), ((HB.out.cell (World.block_lt_of_cell? w _ Ad)).trans Ad), ((HB.out.cell (World.block_lt_of_cell? w _ Aa)).trans Aa)⟩ (fun hHeld => ?_); refine with_tabW spec_SlacksOf.tab10 spec_SlacksOf.bits10 (fun HT_ HW_ => ?_)
 generalize wr.drew = DA at AQ AV AA AO HB AY AZ AW AX hHeld ⊢
 refine pU 1 45 (bA 16 2) HT_ ?_
 refine pU 2 46 (bA 16 6) HT_ ?_
 refine pU 3 47 (bA 16 14) HT_ ?_
 refine pU 4 48 (bA 16 30) HT_ ?_
 refine pU 6 50 (bA 16 94) HT_ ?_
 refine pU 7 51 (bA 16 222) HT_ ?_
 refine pU 8 52 (bA 16 478) HT_ ?_
 refine tK 0 44 (bA 16 479) HT_ HW_ hHeld ?_
 refine tK 5 49 (bA 16 511) HT_ HW_ hHeld ?_
 refine tK 9 53 (bA 16 1023) HT_ HW_ hHeld ?_
 refine one_ (i := 10) (N := some 54) (bA 16 2047) rfl rfl (one_of HT_.out (by kernel_rfl)) (by decide) (fun K hK => ?_)
 refine goes_ Try.func42 (by kernel_rfl) rfl #[.agg #[.int .i8 AJ, .int .i8 AG, .int .u16 AH, .int .u16 AK, .int .u16 AF, .int .u16 AD, .int .u16 AL, .int .u16 AI, .int .u16 AM, .int .u16 AB, .int .u16 AE, .int .u16 AC], .agg #[.int .i8 ((rd_T62 l3 (AS)).f0), .int .i8 ((rd_T62 l3 (AS)).f1)], .agg #[.int .i8 ((rd_T62 l3 AN).f0), .int .i8 ((rd_T62 l3 AN).f1)]] (by rfl) rfl rfl (by (try simp only [List.map_toArray, List.map_cons, List.map_nil]); first | done | (simp only [BA]; rfl) | rfl | (simp only [List.length_drop, List.length_take]; rfl)) ?_
 with_reducible refine (spec_StepsBetween.calls k3 AJ AG AH AK AF AD AL AI AM AB AE AC ((rd_T62 l3 (AS)).f0) ((rd_T62 l3 (AS)).f1) ((rd_T62 l3 AN).f0) ((rd_T62 l3 AN).f1) BT BI _ Ct.out).mono ?_
 rintro e DD ⟨rfl, hb⟩
 refine ⟨_, rfl, ?_⟩
 replace AQ := kR AQ hb
 replace AV := kR AV hb
 replace AA := kK AA hb
 replace AO := kK AO hb
 replace HB := kB2 HB AR AT hb
 refine hK.out _ _ ⟨(blk_cell AA.out 0).trans rfl, (blk_cell AA.out 1).trans rfl, (blk_cell AA.out 2).trans rfl, (blk_cell AA.out 3).trans rfl, (blk_cell AA.out 4).trans rfl, (blk_cell AA.out 5).trans rfl, (blk_cell AA.out 6).trans rfl, (blk_cell AA.out 7).trans rfl, (blk_cell AA.out 8).trans rfl, (blk_cell AA.out 9).trans rfl, (blk_cell AA.out 10).trans rfl, (blk_cell AA.out 11).trans rfl, ((HB.out.cell (World.block_lt_of_cell? w _ Ab)).trans Ab), ((HB.out.cell (World.block_lt_of_cell? w _ Ac)).trans Ac), ((HB.out.cell (World.block_lt_of_cell? w _ Ad)).trans Ad), ((HB.out.cell (World.block_lt_of_cell? w _ Aa)).trans Aa)⟩ (fun hHeld => ?_)
 clear hK K
 refine norm_ (a' := ?_) ?_ ?_
 rotate_left
 {
 show Act.put _ (some 54) _ = _
 simp only [Act.put, zs, zz, zk, i64_w, i32_w]
 rfl
 }
 refine pU 11 43 (bA 16 4095) HT_ ?_
 refine pU 12 55 (bA 16 8191) HT_ ?_
 refine pU 13 56 (bA 16 16383) HT_ ?_
 refine pU 14 13 (bA 16 32767) HT_ ?_
 refine pU 15 14 (bA 16 65535) HT_ ?_
 refine done_ (done_of HT_.out (by kernel_rfl)) ?_
 obtain ⟨C1, Cb, CX⟩ := Kd.R_slice AV.out
 subst CX
 have Bh : 0 ≤ ((AS) : Int) := of_decide_eq_true (by assumption)
 have Be : (AS) < (Av.length : Int) := of_decide_eq_true (by assumption)
 obtain ⟨Bt, Ca, CO⟩ := Kd.at_int (Kd.R_reads' AV.out).2.2 (AS) Bh Be
 cases Ca
 replace Bh := eq_true Bh
 replace Be := eq_true Be
 try go_wp2_with (first | ((with_reducible refine gate_builtin (b := .append) (xs := #[.tmp 61, .tmp 69]) rfl ?_); at_builtin; refine Kd.R_append (Kd.int .i64) (w0 := w) w.heap.size rfl (.tmp 61) (.tmp 69) 66 2 (.int .i64 0) 8 rfl Try.underlying66 info2 rfl (by decide) (by omega) u10 BB (wrap64 ((rd Av (AS)) - BT)) [.int .i64 (wrap64 ((rd Av (AS)) - BT))] (fun k_ => some k_ ≠ (.slice (some Bt) Av.length Cb : Value).ownBlock) (fun _ => False) rfl rfl ?aP (fun _ hk => hk.elim) ?aF ?aO ?aB ?aS ?aL ?_; (case aP => exact rfl); (case aB => exact (zH2 HB AR AT)); (case aF => exact (fun k_ hk => Kd.fresh' (Kd.R_lt (zR AV.out)) k_ hk)); (case aO => exact (zR AQ.out)); (case aS => exact (below_size (zH2 HB AR AT))); (case aL => have := CD.out; omega); intro C0 DF ho hb hg hat; rw [← CC.out] at ho; have CB := ak (Kd.R_after (ok := (fun _ => True)) (Kd.R_mono AV.out (fun _ hk => ⟨trivial, by first | exact hk | exact own_len_ hk⟩)) hg hat); have Bq := ak (blk_grown (g := AP) (o := .cells #[.int .i8 AJ, .int .i8 AG, .int .u16 AH, .int .u16 AK, .int .u16 AF, .int .u16 AD, .int .u16 AL, .int .u16 AI, .int .u16 AM, .int .u16 AB, .int .u16 AE, .int .u16 AC] 35 (0, 0)) (zK AA.out) hg (Kd.R_ne AQ.out AA.out (by decide))); have By := ak (blk_grown (g := Au) (o := .cells #[.int .i16 AU, .slice A8 Ar.length A1] 32 (0, 0)) (zK AO.out) hg (Kd.R_ne AQ.out AO.out (by decide))); have CE := ak (hb); have CM := ak (ho); clear AV AA AO HB AQ; have AV := CB; have AA := Bq; have AO := By; have HB := CE; have B0 := CM; clear CB Bq By CE CM; clear ho hb hg hat))
 go_roundg k3
 case measure => have := CR.out; have := CF.out; have := Cu.out; omega
 case rel => exact ⟨(Br), (wrap64 (AN + 1)), rfl, H', ⟨by have := CR.out; have := CF.out; have := Cu.out; omega⟩, ⟨(zR B0.out)⟩, ⟨Kd.R_mono AV.out (fun _ hk => hk.2)⟩, ⟨(zK AA.out)⟩, ⟨(zK AO.out)⟩, ⟨zH2 HB AR AT⟩⟩
 }
 · rw [if_neg CQ] at H; exact absurd H (by simp)
 }
 · rw [if_neg CP] at H; exact absurd H (by simp)
 }
 {
 rw [if_neg Bg] at H
 have CH : (BI == 0) = false := beq_eq_false_iff_ne.mpr Bg
 have B8 : (BI != 0) = true := bne_iff_ne.mpr Bg
 obtain ⟨CW, BF⟩ : ∃ y_ : List Int, y_ = (([] : List Int)) := ⟨_, rfl⟩
 replace H : (some (CW, BI)) = some (r1, r2) := by first | (rw [BF]; with_reducible exact H) | (have BR := (Option.bind_some _ _).symm.trans H; rw [BF]; with_reducible exact BR) | (have BR := (Option.bind_some _ _).symm.trans H; with_reducible exact BR) | with_reducible exact H | (rw [BF]; exact H) | exact H
 have BZ := ak BF
 clear BF
 simp only [Option.some.injEq, Prod.mk.injEq] at H
 obtain ⟨rfl, rfl⟩ := H
 try go_wp2
 replace AQ := ak (Kd.R_drew AQ.out)
 replace AV := ak (Kd.R_drew AV.out)
 replace AA := ak (blk_drew AA.out)
 replace AO := ak (blk_drew AO.out)
 replace HB := ak (below_drew1 HB.out)
 have BN : 0 ≤ ((AS) : Int) := of_decide_eq_true (by assumption)
 have BK : (AS) < (l3.length : Int) := of_decide_eq_true (by assumption)
 obtain ⟨Aq, Bk, AY, AZ⟩ := at_T62 CI.out (AS) BN BK
 have Ac := AZ
 have Ab := AY
 cases Bk
 replace AY := (HB.out.cell (World.block_lt_of_cell? w _ AY)).trans AY
 replace AZ := (HB.out.cell (World.block_lt_of_cell? w _ AZ)).trans AZ
 replace BN := eq_true BN
 replace BK := eq_true BK
 have BJ : 0 ≤ (AN : Int) := of_decide_eq_true (by assumption)
 have BL : AN < (l3.length : Int) := of_decide_eq_true (by assumption)
 obtain ⟨BU, Bi, AW, AX⟩ := at_T62 CI.out AN BJ BL
 have Aa := AX
 have Ad := AW
 obtain rfl : Aq = BU := (by injection Bi)
 replace AW := (HB.out.cell (World.block_lt_of_cell? w _ AW)).trans AW
 replace AX := (HB.out.cell (World.block_lt_of_cell? w _ AX)).trans AX
 replace BJ := eq_true BJ
 replace BL := eq_true BL
 refine start_ (n := 16) (S := fun w' => w'.cell? ⟨AP, 0, none⟩ = some (.int .i8 AJ) ∧ w'.cell? ⟨AP, 1, none⟩ = some (.int .i8 AG) ∧ w'.cell? ⟨AP, 2, none⟩ = some (.int .u16 AH) ∧ w'.cell? ⟨AP, 3, none⟩ = some (.int .u16 AK) ∧ w'.cell? ⟨AP, 4, none⟩ = some (.int .u16 AF) ∧ w'.cell? ⟨AP, 5, none⟩ = some (.int .u16 AD) ∧ w'.cell? ⟨AP, 6, none⟩ = some (.int .u16 AL) ∧ w'.cell? ⟨AP, 7, none⟩ = some (.int .u16 AI) ∧ w'.cell? ⟨AP, 8, none⟩ = some (.int .u16 AM) ∧ w'.cell? ⟨AP, 9, none⟩ = some (.int .u16 AB) ∧ w'.cell? ⟨AP, 10, none⟩ = some (.int .u16 AE) ∧ w'.cell? ⟨AP, 11, none⟩ = some (.int .u16 AC) ∧ w'.cell? (Aq.add (((AS)).toNat * 2)) = some (.int .i8 ((rd_T62 l3 (AS)).f0)) ∧ w'.cell? ⟨(Aq.add (((AS)).toNat * 2)).block, (Aq.add (((AS)).toNat * 2)).off + 1, none⟩ = some (.int .i8 ((rd_T62 l3 (AS)).f1)) ∧ w'.cell? (Aq.add ((AN).toNat * 2)) = some (.int .i8 ((rd_T62 l3 AN).f0)) ∧ w'.cell? ⟨(Aq.add ((AN).toNat * 2)).block, (Aq.add ((AN).toNat * 2)).off + 1, none⟩ = some (.int .i8 ((rd_T62 l3 AN).f1))) (ds := []) (bA 16 0) (by kernel_rfl) rfl rfl ⟨(blk_cell AA.out 0).trans rfl, (blk_cell AA.out 1).trans rfl, (blk_cell AA.out 2).trans rfl, (blk_cell AA.out 3).trans rfl, (blk_cell AA.out 4).trans rfl, (blk_cell AA.out 5).trans rfl, (blk_cell AA.out 6).trans rfl, (blk_cell AA.out 7).trans rfl, (blk_cell AA.out 8).trans rfl, (blk_cell AA.out 9).trans rfl, (blk_cell AA.out 10).trans rfl, (blk_cell AA.out 11).trans rfl, ((HB.out.cell (World.block_lt_of_cell? w _ Ab)).trans Ab), ((HB.out.cell (World.block_lt_of_cell? w _ Ac)).trans Ac), ((HB.out.cell (World.block_lt_of_cell? w _ Ad)).trans Ad), ((HB.out.cell (World.block_lt_of_cell? w _ Aa)).trans Aa)⟩ (fun hHeld => ?_); refine with_tabW spec_SlacksOf.tab10 spec_SlacksOf.bits10 (fun HT_ HW_ => ?_)
 generalize wr.drew = DG at AQ AV AA AO HB AY AZ AW AX hHeld ⊢
 refine pU 1 45 (bA 16 2) HT_ ?_
 refine pU 2 46 (bA 16 6) HT_ ?_
 refine pU 3 47 (bA 16 14) HT_ ?_
 refine pU 4 48 (bA 16 30) HT_ ?_
 refine pU 6 50 (bA 16 94) HT_ ?_
 refine pU 7 51 (bA 16 222) HT_ ?_
 refine pU 8 52 (bA 16 478) HT_ ?_
 refine tK 0 44 (bA 16 479) HT_ HW_ hHeld ?_
 refine tK 5 49 (bA 16 511) HT_ HW_ hHeld ?_
 refine tK 9 53 (bA 16 1023) HT_ HW_ hHeld ?_
 refine one_ (i := 10) (N := some 54) (bA 16 2047) rfl rfl (one_of HT_.out (by kernel_rfl)) (by decide) (fun K hK => ?_)
 refine goes_ Try.func42 (by kernel_rfl) rfl #[.agg #[.int .i8 AJ, .int .i8 AG, .int .u16 AH, .int .u16 AK, .int .u16 AF, .int .u16 AD, .int .u16 AL, .int .u16 AI, .int .u16 AM, .int .u16 AB, .int .u16 AE, .int .u16 AC], .agg #[.int .i8 ((rd_T62 l3 (AS)).f0), .int .i8 ((rd_T62 l3 (AS)).f1)], .agg #[.int .i8 ((rd_T62 l3 AN).f0), .int .i8 ((rd_T62 l3 AN).f1)]] (by rfl) rfl rfl (by (try simp only [List.map_toArray, List.map_cons, List.map_nil]); first | done | (simp only [BA]; rfl) | rfl | (simp only [List.length_drop, List.length_take]; rfl)) ?_
 with_reducible refine (spec_StepsBetween.calls k3 AJ AG AH AK AF AD AL AI AM AB AE AC ((rd_T62 l3 (AS)).f0) ((rd_T62 l3 (AS)).f1) ((rd_T62 l3 AN).f0) ((rd_T62 l3 AN).f1) BT BI _ Ct.out).mono ?_
 rintro e DB ⟨rfl, hb⟩
 refine ⟨_, rfl, ?_⟩
 replace AQ := kR AQ hb
 replace AV := kR AV hb
 replace AA := kK AA hb
 replace AO := kK AO hb
 replace HB := kB2 HB AR AT hb
 refine hK.out _ _ ⟨(blk_cell AA.out 0).trans rfl, (blk_cell AA.out 1).trans rfl, (blk_cell AA.out 2).trans rfl, (blk_cell AA.out 3).trans rfl, (blk_cell AA.out 4).trans rfl, (blk_cell AA.out 5).trans rfl, (blk_cell AA.out 6).trans rfl, (blk_cell AA.out 7).trans rfl, (blk_cell AA.out 8).trans rfl, (blk_cell AA.out 9).trans rfl, (blk_cell AA.out 10).trans rfl, (blk_cell AA.out 11).trans rfl, ((HB.out.cell (World.block_lt_of_cell? w _ Ab)).trans Ab), ((HB.out.cell (World.block_lt_of_cell? w _ Ac)).trans Ac), ((HB.out.cell (World.block_lt_of_cell? w _ Ad)).trans Ad), ((HB.out.cell (World.block_lt_of_cell? w _ Aa)).trans Aa)⟩ (fun hHeld => ?_)
 clear hK K
 refine norm_ (a' := ?_) ?_ ?_
 rotate_left
 {
 show Act.put _ (some 54) _ = _
 simp only [Act.put, zs, zz, zk, i64_w, i32_w]
 rfl
 }
 refine pU 11 43 (bA 16 4095) HT_ ?_
 refine pU 12 55 (bA 16 8191) HT_ ?_
 refine pU 13 56 (bA 16 16383) HT_ ?_
 refine pU 14 13 (bA 16 32767) HT_ ?_
 refine pU 15 14 (bA 16 65535) HT_ ?_
 refine done_ (done_of HT_.out (by kernel_rfl)) ?_
 try go_wp2_with (first | ((with_reducible refine gate_dst (N := 59) rfl ?_); refine Kd.R_lit (Kd.int .i64) _ 2 ?hg (N := 59) ?hd (xs := ([] : List Int)) (inner := []) (ok := fun _ => True) (okp := fun _ => True) ?hr ?hp (fun _ hk => hk) trivial (Below.refl _ _) (Nat.le_refl _) (by simp) ?_; (case hd => rfl); (case hg => rfl); (case hr => first | (go_simp; done) | (go_simp; rfl)); (case hp => exact (Reps.none _ _)); intro C8 C9 BO hb CZ BS; clear CZ BS; (first | rw [← BZ.out] at BO | (simp only [Int.reduceToNat] at BO; rw [← BZ.out] at BO)); have CB := ak (Kd.R_elder' (zR AQ.out) (Kd.R_base BO) hb); have Bq := ak (Kd.R_elder' (zR AV.out) (Kd.R_base BO) hb); have By := ak (Kd.R_lower (Kd.R_new' (Kd.R_new' BO (Kd.R_lt (zR AQ.out))) (Kd.R_lt (zR AV.out))) (below_size (zH2 HB AR AT))); have CE := ak (blk_below (g := AP) (o := .cells #[.int .i8 AJ, .int .i8 AG, .int .u16 AH, .int .u16 AK, .int .u16 AF, .int .u16 AD, .int .u16 AL, .int .u16 AI, .int .u16 AM, .int .u16 AB, .int .u16 AE, .int .u16 AC] 35 (0, 0)) (zK AA.out) hb); have CM := ak (blk_below (g := Au) (o := .cells #[.int .i16 AU, .slice A8 Ar.length A1] 32 (0, 0)) (zK AO.out) hb); have Ce := ak (below_step (zH2 HB AR AT) hb); clear AQ AV AA AO HB; have AQ := CB; have AV := Bq; have Bx := By; have AA := CE; have AO := CM; have HB := Ce; clear CB Bq By CE CM Ce; clear hb BO))
 go_ret2
 exact ⟨_, by first | rfl | (simp [errW_none, errW_some] <;> rfl) | (simp only [← BA]; first | rfl | (simp [errW_none, errW_some] <;> rfl)) | (simp [*, errW_none, errW_some] <;> rfl), Kd.R_mono Bx.out (fun _ hk => trivial), zH2 HB AR AT⟩
 }
 }
 · rw [if_neg CS] at H; exact absurd H (by simp)
 }
 · rw [if_neg CT] at H; exact absurd H (by simp)
 }
 · rw [if_neg CU] at H; exact absurd H (by simp)
 }
 {
 rw [if_neg Bm] at H
 have B3 : decide (AN < (l3.length : Int)) = false := decide_eq_false Bm
 clear Bm
 simp only [Option.some.injEq, Prod.mk.injEq] at H
 obtain ⟨rfl, rfl⟩ := H
 go_wp2
 go_ret2
 exact ⟨_, rfl, Kd.R_mono AQ.out (fun _ hk => trivial), zH2 HB AR AT⟩
 }
 )
 )
 }
 )
 )
 }
 )
 )
/-! ### impl_size_int16: function 65 -/
def impl_size_int16.f (l0 : List Int) : Option (Int) := some (l0.length : Int)
set_option maxHeartbeats 8000000 in
set_option maxRecDepth 100000 in
theorem impl_size_int16.calls (A0 : Option Addr) (c0 : Nat) (l0 : List Int) (r : Int) (w : World) (AB : Kd.C (Kd.int .i16) w A0 l0.length l0) (AA : l0.length ≤ c0) (h : impl_size_int16.f l0 = some r) :
    Calls Try.prog 65 #[.slice A0 l0.length c0] w fun e w' => e = .returned (.int .i64 r) ∧ Drawn0 w w' := by
 have AD := ak AB
 have AC := ak AA
 clear AB AA
 have H := h
 unfold impl_size_int16.f at H
 clear h
 obtain rfl := Option.some.inj H
 go_enter Try.func65, Try.ntmps65
 go_wp2
 go_ret
 exact ⟨by first | rfl | (simp; done) | (simp [*]; done), by repeat (first | exact Drawn0.refl _ | apply Drawn0.step)⟩
/-! ### impl_Rope_isHold: function 95 -/
def impl_Rope_isHold.f (AG : Int) (AA : List Int) (AC : Int) (AB : Int) : Option (Bool) := (impl_within.f (wrap64 (AC)) 0 999).bind fun AE => (if AE = true then ((impl_size_int16.f AA).bind fun AF => ((impl_within.f (wrap64 (AB)) 0 (wrap64 (AF - 1))).bind fun AD => (some AD))) else (some false))
set_option maxHeartbeats 8000000 in
set_option maxRecDepth 100000 in
theorem impl_Rope_isHold.calls (AK : Int) (AJ : Option Addr) (AM : Nat) (AE : List Int) (AI : Int) (AL : Int) (r : Bool) (w : World) (Ag : Kd.C (Kd.int .i16) w AJ AE.length AE) (Af : AE.length ≤ AM) (h : impl_Rope_isHold.f AK AE AI AL = some r) :
    Calls Try.prog 95 #[.agg #[.int .i16 AK, .slice AJ AE.length AM], .agg #[.int .i16 AI, .int .i8 AL]] w fun e w' => e = .returned (.bool r) ∧ Below w.heap.size w w' := by
 have At := Try.underlying32
 have As := Try.underlying65
 have Ae := ak Ag
 have Ad := ak Af
 clear Ag Af
 have HB := ak (Below.refl w.heap.size w)
 have H := h
 unfold impl_Rope_isHold.f at H
 clear h
 replace H := Option.bind_eq_some_iff.mp H
 obtain ⟨An, Aq, H⟩ := H
 have A3 := ak Aq
 clear Aq
 by_cases c4 : An = true
 {
 subst c4
 rw [if_pos rfl] at H
 replace H := Option.bind_eq_some_iff.mp H
 obtain ⟨Ac, Ap, H⟩ := H
 have A5 := ak Ap
 clear Ap
 replace H := Option.bind_eq_some_iff.mp H
 obtain ⟨Aj, Ar, H⟩ := H
 have A6 := ak Ar
 clear Ar
 obtain rfl := Option.some.inj H
 go_enter Try.func95, Try.ntmps95
 go_wp2_with (first | ((with_reducible refine gate_dst (N := 2) rfl ?_); refine box_event ?hg (N := 2) ?hd (cs := #[.int .i16 AK, .slice AJ AE.length AM]) (t := 32) ?hr ?_; (case hd => rfl); (case hg => rfl); (case hr => first | (go_simp; done) | (go_simp; rfl)); intro AG hg w7 hbox hb; have AA := ak (hbox); have AT := gS HB hg; have AB := gS HB hg; replace HB := kB HB hb; clear hb hbox hg) | ((with_reducible refine gate_dst (N := 3) rfl ?_); refine box_event ?hg (N := 3) ?hd (cs := #[.int .i16 AI, .int .i8 AL]) (t := 65) ?hr ?_; (case hd => rfl); (case hg => rfl); (case hr => first | (go_simp; done) | (go_simp; rfl)); intro AS hg w8 hbox hb; have AF := ak (hbox); have AR := gS1 HB AB hg; have AH := gS1 HB AB hg; have AC := nL AA hg; have AD := nG AA hg; replace AA := kK AA hb; replace HB := kB1 HB AB hb; clear hb hbox hg; have Al := AD.out; have Ak := AC.out; obtain ⟨AY, Ab, Aa, AW⟩ := cz2 w8 AF) | (go_at_call 64; (with_reducible refine (impl_within.calls (wrap64 (AI)) 0 999 true _ A3.out).mono ?_); rintro e w' ⟨rfl, ⟨nd, rfl⟩⟩; obtain ⟨AQ, AP, AN, AO⟩ := cz2 w8 AA) | (go_at_call 65; (with_reducible refine (impl_size_int16.calls _ _ AE Ac _ ?side1 ?side2 A5.out).mono ?_); (case side1 => exact sQ (Kd.C_below Ae.out (zH2 HB AB AH))); (case side2 => exact Ad.out); rintro e w' ⟨rfl, ⟨nd, rfl⟩⟩) | (go_at_call 64; (with_reducible refine (impl_within.calls (wrap64 (AL)) 0 (wrap64 (Ac - 1)) Aj _ A6.out).mono ?_); rintro e w' ⟨rfl, ⟨nd, rfl⟩⟩))
 try (have AQ : w8.cell? ⟨AG, 0, none⟩ = some (.int .i16 AK) := (blk_cell AA.out 0).trans rfl; have AP : w8.cell? ⟨AG, 1, none⟩ = some (.slice AJ AE.length AM) := (blk_cell AA.out 1).trans rfl; have AN := blk_frozen AA.out 0; have AO := blk_frozen AA.out 1)
 repeat (go_quiet (first | ((with_reducible refine gate_dst (N := 2) rfl ?_); refine box_event ?hg (N := 2) ?hd (cs := #[.int .i16 AK, .slice AJ AE.length AM]) (t := 32) ?hr ?_; (case hd => rfl); (case hg => rfl); (case hr => first | (go_simp; done) | (go_simp; rfl)); intro AG hg w7 hbox hb; have AA := ak (hbox); have AT := gS HB hg; have AB := gS HB hg; replace HB := kB HB hb; clear hb hbox hg) | ((with_reducible refine gate_dst (N := 3) rfl ?_); refine box_event ?hg (N := 3) ?hd (cs := #[.int .i16 AI, .int .i8 AL]) (t := 65) ?hr ?_; (case hd => rfl); (case hg => rfl); (case hr => first | (go_simp; done) | (go_simp; rfl)); intro AS hg w8 hbox hb; have AF := ak (hbox); have AR := gS1 HB AB hg; have AH := gS1 HB AB hg; have AC := nL AA hg; have AD := nG AA hg; replace AA := kK AA hb; replace HB := kB1 HB AB hb; clear hb hbox hg; have Al := AD.out; have Ak := AC.out; obtain ⟨AY, Ab, Aa, AW⟩ := cz2 w8 AF) | (go_at_call 64; (with_reducible refine (impl_within.calls (wrap64 (AI)) 0 999 true _ A3.out).mono ?_); rintro e w' ⟨rfl, ⟨nd, rfl⟩⟩; (try first | exact ⟨rfl, _, World.drewN_drewN _ _ _⟩ | exact ⟨rfl, _, Eq.trans (World.drewN_drewN _ _ _) (congrArg (World.drewN _) (Nat.add_assoc _ _ _))⟩); try (have AQ : w8.cell? ⟨AG, 0, none⟩ = some (.int .i16 AK) := (blk_cell AA.out 0).trans rfl; have AP : w8.cell? ⟨AG, 1, none⟩ = some (.slice AJ AE.length AM) := (blk_cell AA.out 1).trans rfl; have AN := blk_frozen AA.out 0; have AO := blk_frozen AA.out 1)) | (go_at_call 65; (with_reducible refine (impl_size_int16.calls _ _ AE Ac _ ?side1 ?side2 A5.out).mono ?_); (case side1 => exact sQ (Kd.C_below Ae.out (zH2 HB AB AH))); (case side2 => exact Ad.out); rintro e w' ⟨rfl, ⟨nd, rfl⟩⟩; (try first | exact ⟨rfl, _, World.drewN_drewN _ _ _⟩ | exact ⟨rfl, _, Eq.trans (World.drewN_drewN _ _ _) (congrArg (World.drewN _) (Nat.add_assoc _ _ _))⟩)) | (go_at_call 64; (with_reducible refine (impl_within.calls (wrap64 (AL)) 0 (wrap64 (Ac - 1)) Aj _ A6.out).mono ?_); rintro e w' ⟨rfl, ⟨nd, rfl⟩⟩; (try first | exact ⟨rfl, _, World.drewN_drewN _ _ _⟩ | exact ⟨rfl, _, Eq.trans (World.drewN_drewN _ _ _) (congrArg (World.drewN _) (Nat.add_assoc _ _ _))⟩))); try go_wp2_with (first | ((with_reducible refine gate_dst (N := 2) rfl ?_); refine box_event ?hg (N := 2) ?hd (cs := #[.int .i16 AK, .slice AJ AE.length AM]) (t := 32) ?hr ?_; (case hd => rfl); (case hg => rfl); (case hr => first | (go_simp; done) | (go_simp; rfl)); intro AG hg w7 hbox hb; have AA := ak (hbox); have AT := gS HB hg; have AB := gS HB hg; replace HB := kB HB hb; clear hb hbox hg) | ((with_reducible refine gate_dst (N := 3) rfl ?_); refine box_event ?hg (N := 3) ?hd (cs := #[.int .i16 AI, .int .i8 AL]) (t := 65) ?hr ?_; (case hd => rfl); (case hg => rfl); (case hr => first | (go_simp; done) | (go_simp; rfl)); intro AS hg w8 hbox hb; have AF := ak (hbox); have AR := gS1 HB AB hg; have AH := gS1 HB AB hg; have AC := nL AA hg; have AD := nG AA hg; replace AA := kK AA hb; replace HB := kB1 HB AB hb; clear hb hbox hg; have Al := AD.out; have Ak := AC.out; obtain ⟨AY, Ab, Aa, AW⟩ := cz2 w8 AF) | (go_at_call 64; (with_reducible refine (impl_within.calls (wrap64 (AI)) 0 999 true _ A3.out).mono ?_); rintro e w' ⟨rfl, ⟨nd, rfl⟩⟩; (try first | exact ⟨rfl, _, World.drewN_drewN _ _ _⟩ | exact ⟨rfl, _, Eq.trans (World.drewN_drewN _ _ _) (congrArg (World.drewN _) (Nat.add_assoc _ _ _))⟩); try (have AQ : w8.cell? ⟨AG, 0, none⟩ = some (.int .i16 AK) := (blk_cell AA.out 0).trans rfl; have AP : w8.cell? ⟨AG, 1, none⟩ = some (.slice AJ AE.length AM) := (blk_cell AA.out 1).trans rfl; have AN := blk_frozen AA.out 0; have AO := blk_frozen AA.out 1)) | (go_at_call 65; (with_reducible refine (impl_size_int16.calls _ _ AE Ac _ ?side1 ?side2 A5.out).mono ?_); (case side1 => exact sQ (Kd.C_below Ae.out (zH2 HB AB AH))); (case side2 => exact Ad.out); rintro e w' ⟨rfl, ⟨nd, rfl⟩⟩; (try first | exact ⟨rfl, _, World.drewN_drewN _ _ _⟩ | exact ⟨rfl, _, Eq.trans (World.drewN_drewN _ _ _) (congrArg (World.drewN _) (Nat.add_assoc _ _ _))⟩)) | (go_at_call 64; (with_reducible refine (impl_within.calls (wrap64 (AL)) 0 (wrap64 (Ac - 1)) Aj _ A6.out).mono ?_); rintro e w' ⟨rfl, ⟨nd, rfl⟩⟩; (try first | exact ⟨rfl, _, World.drewN_drewN _ _ _⟩ | exact ⟨rfl, _, Eq.trans (World.drewN_drewN _ _ _) (congrArg (World.drewN _) (Nat.add_assoc _ _ _))⟩))))
 go_ret
 exact ⟨rfl, zH2 HB AB AH⟩
 }
 {
 replace c4 := Bool.eq_false_iff.mpr c4
 subst c4
 rw [if_neg (show ¬ (false = true) by decide)] at H
 obtain rfl := Option.some.inj H
 go_enter Try.func95, Try.ntmps95
 go_wp2_with (first | ((with_reducible refine gate_dst (N := 2) rfl ?_); refine box_event ?hg (N := 2) ?hd (cs := #[.int .i16 AK, .slice AJ AE.length AM]) (t := 32) ?hr ?_; (case hd => rfl); (case hg => rfl); (case hr => first | (go_simp; done) | (go_simp; rfl)); intro AG hg Ao hbox hb; have AA := ak (hbox); have AT := gS HB hg; have AB := gS HB hg; replace HB := kB HB hb; clear hb hbox hg) | ((with_reducible refine gate_dst (N := 3) rfl ?_); refine box_event ?hg (N := 3) ?hd (cs := #[.int .i16 AI, .int .i8 AL]) (t := 65) ?hr ?_; (case hd => rfl); (case hg => rfl); (case hr => first | (go_simp; done) | (go_simp; rfl)); intro AS hg Am hbox hb; have AF := ak (hbox); have AR := gS1 HB AB hg; have AH := gS1 HB AB hg; have AC := nL AA hg; have AD := nG AA hg; replace AA := kK AA hb; replace HB := kB1 HB AB hb; clear hb hbox hg; have Ah := AD.out; have Ai := AC.out; obtain ⟨AU, AZ, AV, AX⟩ := cz2 Am AF) | (go_at_call 64; (with_reducible refine (impl_within.calls (wrap64 (AI)) 0 999 false _ A3.out).mono ?_); rintro e w' ⟨rfl, ⟨nd, rfl⟩⟩))
 repeat (go_quiet (first | ((with_reducible refine gate_dst (N := 2) rfl ?_); refine box_event ?hg (N := 2) ?hd (cs := #[.int .i16 AK, .slice AJ AE.length AM]) (t := 32) ?hr ?_; (case hd => rfl); (case hg => rfl); (case hr => first | (go_simp; done) | (go_simp; rfl)); intro AG hg Ao hbox hb; have AA := ak (hbox); have AT := gS HB hg; have AB := gS HB hg; replace HB := kB HB hb; clear hb hbox hg) | ((with_reducible refine gate_dst (N := 3) rfl ?_); refine box_event ?hg (N := 3) ?hd (cs := #[.int .i16 AI, .int .i8 AL]) (t := 65) ?hr ?_; (case hd => rfl); (case hg => rfl); (case hr => first | (go_simp; done) | (go_simp; rfl)); intro AS hg Am hbox hb; have AF := ak (hbox); have AR := gS1 HB AB hg; have AH := gS1 HB AB hg; have AC := nL AA hg; have AD := nG AA hg; replace AA := kK AA hb; replace HB := kB1 HB AB hb; clear hb hbox hg; have Ah := AD.out; have Ai := AC.out; obtain ⟨AU, AZ, AV, AX⟩ := cz2 Am AF) | (go_at_call 64; (with_reducible refine (impl_within.calls (wrap64 (AI)) 0 999 false _ A3.out).mono ?_); rintro e w' ⟨rfl, ⟨nd, rfl⟩⟩; (try first | exact ⟨rfl, _, World.drewN_drewN _ _ _⟩ | exact ⟨rfl, _, Eq.trans (World.drewN_drewN _ _ _) (congrArg (World.drewN _) (Nat.add_assoc _ _ _))⟩))); try go_wp2_with (first | ((with_reducible refine gate_dst (N := 2) rfl ?_); refine box_event ?hg (N := 2) ?hd (cs := #[.int .i16 AK, .slice AJ AE.length AM]) (t := 32) ?hr ?_; (case hd => rfl); (case hg => rfl); (case hr => first | (go_simp; done) | (go_simp; rfl)); intro AG hg Ao hbox hb; have AA := ak (hbox); have AT := gS HB hg; have AB := gS HB hg; replace HB := kB HB hb; clear hb hbox hg) | ((with_reducible refine gate_dst (N := 3) rfl ?_); refine box_event ?hg (N := 3) ?hd (cs := #[.int .i16 AI, .int .i8 AL]) (t := 65) ?hr ?_; (case hd => rfl); (case hg => rfl); (case hr => first | (go_simp; done) | (go_simp; rfl)); intro AS hg Am hbox hb; have AF := ak (hbox); have AR := gS1 HB AB hg; have AH := gS1 HB AB hg; have AC := nL AA hg; have AD := nG AA hg; replace AA := kK AA hb; replace HB := kB1 HB AB hb; clear hb hbox hg; have Ah := AD.out; have Ai := AC.out; obtain ⟨AU, AZ, AV, AX⟩ := cz2 Am AF) | (go_at_call 64; (with_reducible refine (impl_within.calls (wrap64 (AI)) 0 999 false _ A3.out).mono ?_); rintro e w' ⟨rfl, ⟨nd, rfl⟩⟩; (try first | exact ⟨rfl, _, World.drewN_drewN _ _ _⟩ | exact ⟨rfl, _, Eq.trans (World.drewN_drewN _ _ _) (congrArg (World.drewN _) (Nat.add_assoc _ _ _))⟩))))
 go_ret
 exact ⟨rfl, zH2 HB AB AH⟩
 }
/-! ### impl_ValidHolds_1: function 97 -/
def impl_ValidHolds_1.f (AA : Int) (AC : Int) (AB : Int) (AD : Int) : Option (Bool) := some (AA == AB)
set_option maxHeartbeats 8000000 in
set_option maxRecDepth 100000 in
theorem impl_ValidHolds_1.calls (AC : Int) (AD : Int) (b1 : Nat) (AG : Int) (AI : Int) (r : Bool) (w : World) (AR : w.heap[b1]? = some (.cells #[.int .i16 AG, .int .i8 AI] 65 (0, 0))) (h : impl_ValidHolds_1.f AC AD AG AI = some r) :
    Calls Try.prog 97 #[.agg #[.int .i16 AC, .int .i8 AD], .pointer (some ⟨b1, 0, none⟩)] w fun e w' => e = .returned (.bool r) ∧ Below w.heap.size w w' := by
 have AV := Try.underlying65
 have AF := ak AR
 clear AR
 have HB := ak (Below.refl w.heap.size w)
 have H := h
 unfold impl_ValidHolds_1.f at H
 clear h
 obtain rfl := Option.some.inj H
 go_enter Try.func97, Try.ntmps97
 go_wp2_with (first | ((with_reducible refine gate_dst (N := 2) rfl ?_); refine box_event ?hg (N := 2) ?hd (cs := #[.int .i16 AC, .int .i8 AD]) (t := 65) ?hr ?_; (case hd => rfl); (case hg => rfl); (case hr => first | (go_simp; done) | (go_simp; rfl)); intro AT hg w3 hbox hb; have AE := ak (hbox); have AS := gS HB hg; have AH := gS HB hg; have AA := nL AF hg; have AB := nG AF hg; replace AF := kK AF hb; replace HB := kB HB hb; clear hb hbox hg; have AU := AB.out; have AW := AA.out; obtain ⟨AQ, AL, AM, AO⟩ := cz2 w3 AE; obtain ⟨AN, AK, AJ, AP⟩ := cz2 w3 AF))
 go_ret
 exact ⟨rfl, zBG HB.out AH.out⟩
end Go.Proofs.Ytooidjdgfoioiaa.P
