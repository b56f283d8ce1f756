-- Printed by wip/print (my turned copy of the kit's print) out of the translation; Lean checks it.
import Derived.Test.YtooidjdgfoioiaaP0
import Derived.Test.YtooidjdgfoioiaaP6
import Derived.Test.YtooidjdgfoioiaaP7
import Derived.Test.YtooidjdgfoioiaaP11
import Derived.Test.YtooidjdgfoioiaaP20
namespace Go.Proofs.Ytooidjdgfoioiaa.P
open Go.RowKit Go.Proofs.YtooidjdgfoioiaaW.PrintWords Go.Proofs.YtooidjdgfoioiaaW.PrintLast Go.Proofs.YtooidjdgfoioiaaW.PrintMore
attribute [local go_sem] max2_int min2_int max_two min_two max_three min_three max_four min_four   -- for this text's walks alone
set_option linter.unusedVariables false
set_option linter.unusedSimpArgs false

/-! ### impl_SlacksOf: function 31 -/
mutual
def impl_SlacksOf.j0 : Nat → List (S65) → List (S62) → List Int → Bool → Int → Int → Int → Int → Int → Int → Int → Int → Int → Int → Int → Int → Option (List Int × Int)
  | 0, _, _, _, _, _, _, _, _, _, _, _, _, _, _, _, _ => none
  | k + 1, x2, x3, AO, AP, AD, AH, AC, AL, AI, AK, AE, AJ, AG, AA, AF, AB => if AP = true then (some (([] : List Int), 1)) else (if (x3.length : Int) = (x2.length : Int) then ((impl_cellCode.f k AD AH AC AL AI AK AE AJ AG AA AF AB x3).bind fun AN => (if AN = 0 then ((impl_stepsAlong.f k AD AH AC AL AI AK AE AJ AG AA AF AB x3).bind fun AM => (if AM.2 = 0 then (impl_SlacksOf.l0 k AO AM.1 (AO.length : Int) 0) else (some (([] : List Int), AM.2)))) else (some (([] : List Int), AN)))) else (some (([] : List Int), 2)))
def impl_SlacksOf.l0 : Nat → List Int → List Int → Int → Int → Option (List Int × Int)
  | 0, _, _, _, _ => none
  | k + 1, AB, AC, AD, AA => if AA < AD then (if 0 ≤ AA then (if AA < (AB.length : Int) then (if AA < (AC.length : Int) then (impl_SlacksOf.l0 k (AB.set (AA : Int).toNat (wrap64 ((rd AB AA) - (rd AC AA)))) AC AD (wrap64 (AA + 1))) else (none)) else (none)) else (none)) else (some (AB, 0))
end
def impl_SlacksOf.f (k : Nat) (AD : Int) (AF : Int) (AK : Int) (AG : Int) (AH : Int) (AL : Int) (AJ : Int) (AE : Int) (AM : Int) (AI : Int) (AA : Int) (AB : Int) (AO : Int) (AN : List Int) (l2 : List (S65)) (l3 : List (S62)) : Option (List Int × Int) := (impl_GapsOf.f k AO AN l2).bind fun AC => (if AC.2 = 0 then ((impl_ValidRoom.f AD AF AK AG AH AL AJ AE AM AI AA AB).bind fun AP => (impl_SlacksOf.j0 k l2 l3 AC.1 (!AP) AD AF AK AG AH AL AJ AE AM AI AA AB)) else (impl_SlacksOf.j0 k l2 l3 AC.1 true AD AF AK AG AH AL AJ AE AM AI AA AB))
def impl_SlacksOf.T15 : Bool × List (List Nat × List Nat) := (true, [([], []), ([], []), ([0, 1], [0, 1]), ([2], [2]), ([], []), ([], []), ([4, 5], [4, 5]), ([6], [6]), ([3, 7], [3, 7]), ([0, 1, 0, 1, 2, 3, 4, 5, 6, 7, 8], [0, 1]), ([9, 8, 0, 1, 2, 3, 4, 5, 6, 7, 8], [8, 9])])
def impl_SlacksOf.B15 : List Nat := [0, 0, 3, 7, 0, 0, 48, 112, 255, 511, 1023]
theorem impl_SlacksOf.tab15 : rtab .any (opsOf Try.f31 15) = impl_SlacksOf.T15 := by kernel_rfl
theorem impl_SlacksOf.bits15 : waitsOk impl_SlacksOf.T15.2 impl_SlacksOf.B15 = true := by kernel_rfl
set_option maxHeartbeats 8000000 in
set_option maxRecDepth 100000 in
theorem impl_SlacksOf.calls (k : Nat) (AU : Int) (AQ : Int) (AN : Int) (AM : Int) (AR : Int) (AS : Int) (AO : Int) (AV : Int) (AP : Int) (AT : Int) (AH : Int) (AG : Int) (Af : Int) (Ap : Option Addr) (Ao : Nat) (AZ : List Int) (A2 : Option Addr) (c2 : Nat) (l2 : List (S65)) (A3 : Option Addr) (c3 : Nat) (l3 : List (S62)) (r1 : List Int) (r2 : Int) (w : World) (Br : Kd.C (Kd.int .i16) w Ap AZ.length AZ) (Bn : AZ.length ≤ Ao) (EO : Kd.C k65 w A2 l2.length l2) (EM : l2.length ≤ c2) (EQ : Kd.C k62 w A3 l3.length l3) (Ee : l3.length ≤ c3) (h : impl_SlacksOf.f k AU AQ AN AM AR AS AO AV AP AT AH AG Af AZ l2 l3 = some (r1, r2)) :
    Calls Try.prog 31 #[.agg #[.int .i8 AU, .int .i8 AQ, .int .u16 AN, .int .u16 AM, .int .u16 AR, .int .u16 AS, .int .u16 AO, .int .u16 AV, .int .u16 AP, .int .u16 AT, .int .u16 AH, .int .u16 AG], .agg #[.int .i16 Af, .slice Ap AZ.length Ao], .slice A2 l2.length c2, .slice A3 l3.length c3] w fun e w' => ∃ v0_ : Value, e = .returned (.tuple #[v0_, .int .i64 r2]) ∧ Kd.R (Kd.int .i64) 2 w' w.heap.size (fun _ => True) v0_ r1 ∧ Below w.heap.size w w' := by
 have Ez := Try.underlying35
 have E0 := Try.underlying32
 have CN := ak Br
 have CJ := ak Bn
 clear Br Bn
 have Es := ak EO
 have Ey := ak EM
 clear EO EM
 have Ci := ak EQ
 have Cj := ak Ee
 clear EQ Ee
 have HB := ak (Below.refl w.heap.size w)
 have H := h
 unfold impl_SlacksOf.f at H
 clear h
 replace H := Option.bind_eq_some_iff.mp H
 obtain ⟨⟨AY, An⟩, EL, H⟩ := H
 have A5 := ak EL
 clear EL
 have EE := ak H
 clear H
 go_enter Try.func31, Try.ntmps31
 go_upto_region 2 with (first | ((with_reducible refine gate_dst (N := 4) rfl ?_); refine box_event ?hg (N := 4) ?hd (cs := #[.int .i8 AU, .int .i8 AQ, .int .u16 AN, .int .u16 AM, .int .u16 AR, .int .u16 AS, .int .u16 AO, .int .u16 AV, .int .u16 AP, .int .u16 AT, .int .u16 AH, .int .u16 AG]) (t := 35) ?hr ?_; (case hd => rfl); (case hg => rfl); (case hr => first | (go_simp; done) | (go_simp; rfl)); intro Bi hg w7 hbox hb; have AB := ak (hbox); have Ea := gS HB hg; have AE := gS HB hg; replace HB := kB HB hb; clear hb hbox hg) | ((with_reducible refine gate_dst (N := 5) rfl ?_); refine box_event ?hg (N := 5) ?hd (cs := #[.int .i16 Af, .slice Ap AZ.length Ao]) (t := 32) ?hr ?_; (case hd => rfl); (case hg => rfl); (case hr => first | (go_simp; done) | (go_simp; rfl)); intro Bp hg w8 hbox hb; have AD := ak (hbox); have Eg := gS1 HB AE hg; have AF := gS1 HB AE hg; have AJ := nL AB hg; have AL := nG AB hg; replace AB := kK AB hb; replace HB := kB1 HB AE hb; clear hb hbox hg; have El := AL.out; have Ew := AJ.out; obtain ⟨Am, Ak, Aj, Ag⟩ := cz2 w8 AD) | ((with_reducible refine gate_callee (f := 66) rfl ?_); refine goesL_ (some 18) rfl rfl Try.func66 (by kernel_rfl) rfl #[.agg #[.int .i16 Af, .slice Ap AZ.length Ao], .slice A2 l2.length c2] rfl gl_ ?_; (with_reducible refine (impl_GapsOf.calls k Af _ _ AZ _ _ l2 AY An _ ?side1 ?side2 ?side3 ?side4 A5.out).mono ?_); (case side1 => exact sQ (Kd.C_below CN.out HB.out)); (case side2 => exact CJ.out); (case side3 => exact sQ (Kd.C_below Es.out HB.out)); (case side4 => exact Ey.out); rintro e Ej ⟨EA, rfl, Az, hb⟩; refine ⟨_, rfl, ?_⟩; have Ah := ak (Kd.R_lower Az (below_size (zH2 HB AE AF))); replace AB := kK AB hb; replace AD := kK AD hb; replace HB := kB2 HB AE AF hb; (try clear hb); (try clear Az)))
 (try simp only [Act.put, zs, zz, zk])
 go_cut [21] (fun Et wc => ∃ (kq : Nat) (Ai : Bool), Et = .bool Ai ∧ Aside0 (impl_SlacksOf.j0 kq l2 l3 AY Ai AU AQ AN AM AR AS AO AV AP AT AH AG = some (r1, r2)) ∧ Aside0 (kq ≤ k) ∧ Aside0 (Kd.R (Kd.int .i64) 2 wc w.heap.size (fun _ => True) EA AY) ∧ Aside0 (wc.heap[Bi]? = some (.cells #[.int .i8 AU, .int .i8 AQ, .int .u16 AN, .int .u16 AM, .int .u16 AR, .int .u16 AS, .int .u16 AO, .int .u16 AV, .int .u16 AP, .int .u16 AT, .int .u16 AH, .int .u16 AG] 35 (0, 0))) ∧ Aside0 (wc.heap[Bp]? = some (.cells #[.int .i16 Af, (.slice Ap AZ.length Ao)] 32 (0, 0))) ∧ Aside0 (Below w.heap.size w wc))
 case first => (
 have H := EE.out
 clear EE
 by_cases B9 : An = 0
 {
 rw [if_pos B9] at H
 have Ac : (An == 0) = true := beq_iff_eq.mpr B9
 have Ce : (An != 0) = false := bne_eq_false_iff_eq.mpr B9
 clear B9
 (first | rw [Ac] | (simp only [i64_w, i32_w]; rw [Ac]) | skip)
 replace H := Option.bind_eq_some_iff.mp H
 obtain ⟨CG, CY, H⟩ := H
 have Ek := ak CY
 clear CY
 have H' := ak H
 clear H
 have EU := AJ.out
 have EX := AL.out
 obtain ⟨DR, D0, C2, DX, D6, D7, DL, Dg, Ct, Dn, CM, Cc, C9, DV, DS, Dc, Co, DW, Dd, Dy, Di, Cp, Cl, CF⟩ := cz12 Ej AB
 go_wp2_with (first | (go_at_call 45; (with_reducible refine (impl_ValidRoom.calls AU AQ AN AM AR AS AO AV AP AT AH AG CG _ Ek.out).mono ?_); rintro e E1 ⟨rfl, hb⟩; replace Ah := kR Ah hb; replace AB := kK AB hb; replace AD := kK AD hb; replace HB := kB2 HB AE AF hb; (try clear hb)))
 go_meet
 case rel => exact ⟨_, (!CG), rfl, H', ⟨by omega⟩, ⟨(zR Ah.out)⟩, ⟨(zK AB.out)⟩, ⟨(zK AD.out)⟩, ⟨zH2 HB AE AF⟩⟩
 }
 {
 rw [if_neg B9] at H
 have Ac : (An == 0) = false := beq_eq_false_iff_ne.mpr B9
 have Ce : (An != 0) = true := bne_iff_ne.mpr B9
 (first | rw [Ac] | (simp only [i64_w, i32_w]; rw [Ac]) | skip)
 have H' := ak H
 clear H
 go_wp2
 go_meet
 case rel => exact ⟨_, (true), rfl, H', ⟨by omega⟩, ⟨(zR Ah.out)⟩, ⟨(zK AB.out)⟩, ⟨(zK AD.out)⟩, ⟨zH2 HB AE AF⟩⟩
 }
 )
 case rest => (
 clear EE
 obtain ⟨kq, Ai, rfl, HA, Ed, AC, AB, AD, HB⟩ := hcut
 cases kq with
 | zero => exact absurd HA.out (by simp [impl_SlacksOf.j0])
 | succ CC => (
 have H := HA.out
 clear HA
 simp only [impl_SlacksOf.j0] at H
 by_cases CP : Ai = true
 {
 subst CP
 rw [if_pos rfl] at H
 simp only [Option.some.injEq, Prod.mk.injEq] at H
 obtain ⟨rfl, rfl⟩ := H
 go_wp2
 go_ret2
 exact ⟨_, rfl, by first | exact Kd.R_nil _ _ _ _ _ | exact Kd.N_nil _ _ _ _ _ | exact Kd.V_nil _ _ _ _ _ | exact Kd.Q_nil _ _ _ _ _ | exact Kd.S_nil _ _ _ _ _, zH2 HB AE AF⟩
 }
 {
 replace CP := Bool.eq_false_iff.mpr CP
 subst CP
 rw [if_neg (show ¬ (false = true) by decide)] at H
 by_cases Aq : (l3.length : Int) = (l2.length : Int)
 {
 rw [if_pos Aq] at H
 have Bm : ((l3.length : Int) == (l2.length : Int)) = true := beq_iff_eq.mpr Aq
 have Bj : ((l3.length : Int) != (l2.length : Int)) = false := bne_eq_false_iff_eq.mpr Aq
 have Bt : (l3.length == l2.length) = true := by first | simpa using Aq | (simp at Aq ⊢; omega)
 clear Aq
 replace H := Option.bind_eq_some_iff.mp H
 obtain ⟨Ab, Cd, H⟩ := H
 have D9 := ak Cd
 clear Cd
 by_cases Bk : Ab = 0
 {
 rw [if_pos Bk] at H
 have Bv : (Ab == 0) = true := beq_iff_eq.mpr Bk
 have Bs : (Ab != 0) = false := bne_eq_false_iff_eq.mpr Bk
 clear Bk
 replace H := Option.bind_eq_some_iff.mp H
 obtain ⟨⟨AW, Ae⟩, Cf, H⟩ := H
 have ES := ak Cf
 clear Cf
 by_cases Bh : Ae = 0
 {
 rw [if_pos Bh] at H
 have Bq : (Ae == 0) = true := beq_iff_eq.mpr Bh
 have Bo : (Ae != 0) = false := bne_eq_false_iff_eq.mpr Bh
 clear Bh
 have H' := ak H
 clear H
 have EW := AJ.out
 have ET := AL.out
 obtain ⟨BQ, Bb, BY, BA, A0, Ba, Bc, BF, A8, BT, As, Ax, BG, BZ, A6, BN, BW, BL, BD, Bg, BH, BX, Au, At⟩ := cz12 wc AB
 go_wp2_with (first | ((with_reducible refine gate_callee (f := 46) rfl ?_); refine goesL_ (some 37) rfl rfl Try.func46 (by kernel_rfl) rfl #[.agg #[.int .i8 AU, .int .i8 AQ, .int .u16 AN, .int .u16 AM, .int .u16 AR, .int .u16 AS, .int .u16 AO, .int .u16 AV, .int .u16 AP, .int .u16 AT, .int .u16 AH, .int .u16 AG], .slice A3 l3.length c3] rfl gl_ ?_; (with_reducible refine (impl_cellCode.calls CC AU AQ AN AM AR AS AO AV AP AT AH AG _ _ l3 Ab _ ?side1 ?side2 D9.out).mono ?_); (case side1 => exact sQ (Kd.C_below Ci.out HB.out)); (case side2 => exact Cj.out); rintro e Ex ⟨rfl, hb⟩; refine ⟨_, rfl, ?_⟩; replace AC := kR AC hb; replace AB := kK AB hb; replace AD := kK AD hb; replace HB := kB2 HB AE AF hb; (try clear hb); obtain ⟨BJ, A7, BU, BK, BM, BC, BB, Be, BE, BI, Ar, Aw, Bd, BP, BO, BV, BR, A4, A1, A9, Bf, BS, Ay, Av⟩ := cz12 Ex AB) | ((with_reducible refine gate_callee (f := 47) rfl ?_); refine goesL_ (some 44) rfl rfl Try.func47 (by kernel_rfl) rfl #[.agg #[.int .i8 AU, .int .i8 AQ, .int .u16 AN, .int .u16 AM, .int .u16 AR, .int .u16 AS, .int .u16 AO, .int .u16 AV, .int .u16 AP, .int .u16 AT, .int .u16 AH, .int .u16 AG], .slice A3 l3.length c3] rfl gl_ ?_; (with_reducible refine (impl_stepsAlong.calls CC AU AQ AN AM AR AS AO AV AP AT AH AG _ _ l3 AW Ae _ ?side1 ?side2 ES.out).mono ?_); (case side1 => exact sQ (Kd.C_below Ci.out HB.out)); (case side2 => exact Cj.out); rintro e E5 ⟨B3, rfl, Az, hb⟩; refine ⟨_, rfl, ?_⟩; have Bl := ak (Kd.R_lower (Kd.R_new' Az (Kd.R_lt (zR AC.out))) (below_size (zH2 HB AE AF))); replace AC := kE AC Az hb; replace AB := kK AB hb; replace AD := kK AD hb; replace HB := kB2 HB AE AF hb; (try clear hb); (try clear Az); obtain ⟨Cm, Ch, EG⟩ := Kd.R_slice AC.out; subst EG))
 go_loopg [52] CC (fun kq Eh w' => ∃ (AK : List Int) (AA : Int), Eh = .int .i64 AA ∧ Aside0 (impl_SlacksOf.l0 kq AK AW (AY.length : Int) AA = some (r1, r2)) ∧ Aside0 (kq ≤ CC) ∧ Aside0 (Kd.R (Kd.int .i64) 2 w' w.heap.size (fun k_ => some k_ ≠ (B3 : Value).ownBlock) (.slice Cm AY.length Ch) AK) ∧ Aside0 (Kd.R (Kd.int .i64) 2 w' w.heap.size (fun k_ => some k_ ≠ ((.slice Cm AY.length Ch) : Value).ownBlock) B3 AW) ∧ Aside0 (w'.heap[Bi]? = some (.cells #[.int .i8 AU, .int .i8 AQ, .int .u16 AN, .int .u16 AM, .int .u16 AR, .int .u16 AS, .int .u16 AO, .int .u16 AV, .int .u16 AP, .int .u16 AT, .int .u16 AH, .int .u16 AG] 35 (0, 0))) ∧ Aside0 (w'.heap[Bp]? = some (.cells #[.int .i16 Af, (.slice Ap AZ.length Ao)] 32 (0, 0))) ∧ Aside0 (Below w.heap.size w w'))
 case atStart => exact ⟨(AY), (0), rfl, H', ⟨Nat.le_refl _⟩, ⟨Kd.R_mono AC.out (fun _ hk => hk.2)⟩, ⟨Kd.R_mono Bl.out (fun _ hk => hk.2)⟩, ⟨(zK AB.out)⟩, ⟨(zK AD.out)⟩, ⟨zH2 HB AE AF⟩⟩
 case round => (
 clear H'
 obtain ⟨AK, AA, rfl, HA, EP, AC, AX, AB, AD, HB⟩ := hrel
 have AI := (Kd.R_reads' AC.out).1
 rw [AI] at AC
 (try simp only [AI])
 (try simp only [AI] at AB)
 (try simp only [AI] at AD)
 (try simp only [AI] at AX)
 cases gk with
 | zero => exact absurd HA.out (by simp [impl_SlacksOf.l0])
 | succ k2 => (
 have H := HA.out
 clear HA
 simp only [impl_SlacksOf.l0] at H
 by_cases CD : AA < (AY.length : Int)
 {
 rw [if_pos CD] at H
 have Bu : decide (AA < (AY.length : Int)) = true := decide_eq_true CD
 clear CD
 by_cases Cw : 0 ≤ AA
 {
 rw [if_pos Cw] at H
 have EV : decide (0 ≤ AA) = true := decide_eq_true Cw
 clear Cw
 by_cases Dl : AA < (AK.length : Int)
 {
 rw [if_pos Dl] at H
 have ER : decide (AA < (AK.length : Int)) = true := decide_eq_true Dl
 clear Dl
 by_cases DT : AA < (AW.length : Int)
 {
 rw [if_pos DT] at H
 have EN : decide (AA < (AW.length : Int)) = true := decide_eq_true DT
 clear DT
 obtain ⟨CS, Ad⟩ : ∃ y_ : List Int, y_ = (AK.set (AA : Int).toNat (wrap64 ((rd AK AA) - (rd AW AA)))) := ⟨_, rfl⟩
 replace H : (impl_SlacksOf.l0 k2 CS AW (AY.length : Int) (wrap64 (AA + 1))) = some (r1, r2) := by first | (rw [Ad]; with_reducible exact H) | (have EK := (Option.bind_some _ _).symm.trans H; rw [Ad]; with_reducible exact EK) | (have EK := (Option.bind_some _ _).symm.trans H; with_reducible exact EK) | with_reducible exact H | (rw [Ad]; exact H) | exact H
 have CK := ak Ad
 clear Ad
 have H' := ak H
 clear H
 try go_wp2
 replace AC := ak (Kd.R_drew AC.out)
 replace AX := ak (Kd.R_drew AX.out)
 replace AB := ak (blk_drew AB.out)
 replace AD := ak (blk_drew AD.out)
 replace HB := ak (below_drew1 HB.out)
 have CB : 0 ≤ (AA : Int) := of_decide_eq_true (by assumption)
 have Bx : AA < (AK.length : Int) := of_decide_eq_true (by assumption)
 obtain ⟨Ec, EH, Aa⟩ := Kd.at_int (Kd.R_reads' AC.out).2.2 AA CB Bx
 cases EH
 replace CB := eq_true CB
 replace Bx := eq_true Bx
 obtain ⟨En, Eu, CV⟩ := Kd.R_slice AX.out
 (first | subst CV | (injection CV with f1_ f2_ f3_; have Em := f1_.symm; have Ei := f3_.symm; clear f1_ f2_ f3_; subst Em; subst Ei))
 have B0 : 0 ≤ (AA : Int) := of_decide_eq_true (by assumption)
 have Bw : AA < (AW.length : Int) := of_decide_eq_true (by assumption)
 obtain ⟨Cn, ED, Al⟩ := Kd.at_int (Kd.R_reads' AX.out).2.2 AA B0 Bw
 cases ED
 replace B0 := eq_true B0
 replace Bw := eq_true Bw
 have EJ : 0 ≤ (AA : Int) := of_decide_eq_true (by assumption)
 have EB : (AA : Int) < ((AK.length : Int) : Int) := of_decide_eq_true (by assumption)
 obtain ⟨B8, Eo, CX, CE, EF, Ev, CQ⟩ := Kd.R_form AC.out (by omega)
 (first | cases CX | (injection CX with ea_ en_ ec_; (first | subst ea_ | (injection ea_ with ea_; subst ea_)); subst ec_; clear en_))
 have EI := ak CE
 have EC := ak CQ
 clear CE EF CQ
 (first | simp only [add_plain] at Aa | skip)
 obtain ⟨By, CA⟩ := Kd.R_celln 0 AC.out (AA : Int) EJ EB
 replace EJ := eq_true EJ
 replace EB := eq_true EB
 have Bz := Kd.R_putn AC.out (AA : Int) (wrap64 ((rd AK AA) - (rd AW AA)))
 rw [← CK.out] at Bz
 have CZ := ak Bz
 clear Bz
 refine start_ (n := 11) (S := fun w' => w'.cell? ⟨B8, (AA).toNat, none⟩ = some (.int .i64 (rd AK AA)) ∧ w'.cell? (Cn.add (AA).toNat) = some (.int .i64 (rd AW AA))) (ds := [10]) (bA 11 0) (by kernel_rfl) rfl rfl ⟨Aa, Al⟩ (fun hHeld => ?_); refine with_tabW impl_SlacksOf.tab15 impl_SlacksOf.bits15 (fun HT_ HW_ => ?_)
 generalize wr.drew = E3 at AC AX AB AD HB EC CZ CA By Aa Al hHeld ⊢
 refine pU 0 55 (bA 11 1) HT_ ?_
 refine pU 1 56 (bA 11 3) HT_ ?_
 refine pU 2 57 (bA 11 7) HT_ ?_
 refine pU 4 59 (bA 11 23) HT_ ?_
 refine pU 5 60 (bA 11 55) HT_ ?_
 refine pU 6 61 (bA 11 119) HT_ ?_
 refine tK 3 58 (bA 11 127) HT_ HW_ hHeld ?_
 refine tK 7 62 (bA 11 255) HT_ HW_ hHeld ?_
 refine pU 8 63 (bA 11 511) HT_ ?_
 refine pU 9 64 (bA 11 1023) HT_ ?_
 refine last_ (i := 10) (N := none) #[true, true, true, true, true, true, true, true, true, true, true] rfl rfl (one_of HT_.out (by kernel_rfl)) (by decide) (fun K hK => ?_)
 refine skip_ (w1 := ?_) (by rfl) rfl ?_ ?_
 rotate_left
 · go_simp; rfl
 refine hK.out _ _ ?_
 clear hK K
 refine done_ (done_of HT_.out (by kernel_rfl)) ?_
 try go_wp2
 (try simp only [← AI])
 go_roundg k2
 case measure => have := Ed.out; have := EP.out; omega
 case rel => exact ⟨(CS), (wrap64 (AA + 1)), rfl, H', ⟨by have := Ed.out; have := EP.out; omega⟩, ⟨by (try simp only [AI]); (with_reducible repeat (first | apply Kd.R_alloc | apply Kd.R_drewN | apply Kd.R_drew)); exact CZ.out⟩, ⟨by (try simp only [AI]); (with_reducible repeat (first | apply Kd.R_alloc | apply Kd.R_drewN | apply Kd.R_drew)); exact Kd.R_mono (Kd.R_far (p := ⟨B8, (AA : Int).toNat, none⟩) (Kd.R_mono AX.out (fun k_ hk => (⟨hk, fun e_ => hk (by rw [e_]; rfl)⟩ : _ ∧ k_ ≠ B8))) (fun _ hk => hk.2) (.int .i64 (wrap64 ((rd AK AA) - (rd AW AA))))) (fun _ hk => hk.1)⟩, ⟨by (try simp only [AI]); refine blk_far ?_ (by have h_ := Kd.R_ne AC.out AB.out (by decide); intro e_; exact h_ (by rw [e_]; rfl)) _; exact AB.out⟩, ⟨by (try simp only [AI]); refine blk_far ?_ (by have h_ := Kd.R_ne AC.out AD.out (by decide); intro e_; exact h_ (by rw [e_]; rfl)) _; exact AD.out⟩, ⟨zH3 HB EI AE AF⟩⟩
 }
 · rw [if_neg DT] at H; exact absurd H (by simp)
 }
 · rw [if_neg Dl] at H; exact absurd H (by simp)
 }
 · rw [if_neg Cw] at H; exact absurd H (by simp)
 }
 {
 rw [if_neg CD] at H
 have Bu : decide (AA < (AY.length : Int)) = false := decide_eq_false CD
 have Ep : decide (AA < (AK.length : Int)) = false := by rw [← AI]; exact Bu
 clear CD
 simp only [Option.some.injEq, Prod.mk.injEq] at H
 obtain ⟨rfl, rfl⟩ := H
 go_wp2
 go_ret2
 exact ⟨_, rfl, Kd.R_mono AC.out (fun _ hk => trivial), zH2 HB AE AF⟩
 }
 )
 )
 }
 {
 rw [if_neg Bh] at H
 have Bq : (Ae == 0) = false := beq_eq_false_iff_ne.mpr Bh
 have Bo : (Ae != 0) = true := bne_iff_ne.mpr Bh
 simp only [Option.some.injEq, Prod.mk.injEq] at H
 obtain ⟨rfl, rfl⟩ := H
 have Ef := AJ.out
 have Eb := AL.out
 obtain ⟨Dq, DK, Cs, Cr, Dp, DC, DN, Cq, D8, C4, CO, CR, Cz, DO, C7, Dz, Cu, D2, D4, DP, Do, Dv, CI, Ck⟩ := cz12 wc AB
 go_wp2_with (first | ((with_reducible refine gate_callee (f := 46) rfl ?_); refine goesL_ (some 37) rfl rfl Try.func46 (by kernel_rfl) rfl #[.agg #[.int .i8 AU, .int .i8 AQ, .int .u16 AN, .int .u16 AM, .int .u16 AR, .int .u16 AS, .int .u16 AO, .int .u16 AV, .int .u16 AP, .int .u16 AT, .int .u16 AH, .int .u16 AG], .slice A3 l3.length c3] rfl gl_ ?_; (with_reducible refine (impl_cellCode.calls CC AU AQ AN AM AR AS AO AV AP AT AH AG _ _ l3 Ab _ ?side1 ?side2 D9.out).mono ?_); (case side1 => exact sQ (Kd.C_below Ci.out HB.out)); (case side2 => exact Cj.out); rintro e Er ⟨rfl, hb⟩; refine ⟨_, rfl, ?_⟩; replace AC := kR AC hb; replace AB := kK AB hb; replace AD := kK AD hb; replace HB := kB2 HB AE AF hb; (try clear hb); obtain ⟨Dw, C6, Dx, Dm, Db, Dk, Ds, D3, DI, D5, Cg, CU, Dh, DU, DD, C0, D1, DA, Du, C1, Da, Dr, CT, CL⟩ := cz12 Er AB) | ((with_reducible refine gate_callee (f := 47) rfl ?_); refine goesL_ (some 44) rfl rfl Try.func47 (by kernel_rfl) rfl #[.agg #[.int .i8 AU, .int .i8 AQ, .int .u16 AN, .int .u16 AM, .int .u16 AR, .int .u16 AS, .int .u16 AO, .int .u16 AV, .int .u16 AP, .int .u16 AT, .int .u16 AH, .int .u16 AG], .slice A3 l3.length c3] rfl gl_ ?_; (with_reducible refine (impl_stepsAlong.calls CC AU AQ AN AM AR AS AO AV AP AT AH AG _ _ l3 AW Ae _ ?side1 ?side2 ES.out).mono ?_); (case side1 => exact sQ (Kd.C_below Ci.out HB.out)); (case side2 => exact Cj.out); rintro e E2 ⟨B3, rfl, Az, hb⟩; refine ⟨_, rfl, ?_⟩; have Bl := ak (Kd.R_lower (Kd.R_new' Az (Kd.R_lt (zR AC.out))) (below_size (zH2 HB AE AF))); replace AC := kE AC Az hb; replace AB := kK AB hb; replace AD := kK AD hb; replace HB := kB2 HB AE AF hb; (try clear hb); (try clear Az)))
 go_ret2
 exact ⟨_, rfl, by first | exact Kd.R_nil _ _ _ _ _ | exact Kd.N_nil _ _ _ _ _ | exact Kd.V_nil _ _ _ _ _ | exact Kd.Q_nil _ _ _ _ _ | exact Kd.S_nil _ _ _ _ _, zH2 HB AE AF⟩
 }
 }
 {
 rw [if_neg Bk] at H
 have Bv : (Ab == 0) = false := beq_eq_false_iff_ne.mpr Bk
 have Bs : (Ab != 0) = true := bne_iff_ne.mpr Bk
 simp only [Option.some.injEq, Prod.mk.injEq] at H
 obtain ⟨rfl, rfl⟩ := H
 have EY := AJ.out
 have EZ := AL.out
 obtain ⟨DJ, DH, DY, DF, DE, De, C5, DB, Df, Cx, CH, Cb, C8, DQ, Cy, Cv, Dt, DM, DG, Dj, C3, DZ, Ca, CW⟩ := cz12 wc AB
 go_wp2_with (first | ((with_reducible refine gate_callee (f := 46) rfl ?_); refine goesL_ (some 37) rfl rfl Try.func46 (by kernel_rfl) rfl #[.agg #[.int .i8 AU, .int .i8 AQ, .int .u16 AN, .int .u16 AM, .int .u16 AR, .int .u16 AS, .int .u16 AO, .int .u16 AV, .int .u16 AP, .int .u16 AT, .int .u16 AH, .int .u16 AG], .slice A3 l3.length c3] rfl gl_ ?_; (with_reducible refine (impl_cellCode.calls CC AU AQ AN AM AR AS AO AV AP AT AH AG _ _ l3 Ab _ ?side1 ?side2 D9.out).mono ?_); (case side1 => exact sQ (Kd.C_below Ci.out HB.out)); (case side2 => exact Cj.out); rintro e E4 ⟨rfl, hb⟩; refine ⟨_, rfl, ?_⟩; replace AC := kR AC hb; replace AB := kK AB hb; replace AD := kK AD hb; replace HB := kB2 HB AE AF hb; (try clear hb)))
 go_ret2
 exact ⟨_, rfl, by first | exact Kd.R_nil _ _ _ _ _ | exact Kd.N_nil _ _ _ _ _ | exact Kd.V_nil _ _ _ _ _ | exact Kd.Q_nil _ _ _ _ _ | exact Kd.S_nil _ _ _ _ _, zH2 HB AE AF⟩
 }
 }
 {
 rw [if_neg Aq] at H
 have Bm : ((l3.length : Int) == (l2.length : Int)) = false := beq_eq_false_iff_ne.mpr Aq
 have Bj : ((l3.length : Int) != (l2.length : Int)) = true := bne_iff_ne.mpr Aq
 have Bt : (l3.length == l2.length) = false := by first | simpa using Aq | (simp at Aq ⊢; omega)
 simp only [Option.some.injEq, Prod.mk.injEq] at H
 obtain ⟨rfl, rfl⟩ := H
 go_wp2
 go_ret2
 exact ⟨_, rfl, by first | exact Kd.R_nil _ _ _ _ _ | exact Kd.N_nil _ _ _ _ _ | exact Kd.V_nil _ _ _ _ _ | exact Kd.Q_nil _ _ _ _ _ | exact Kd.S_nil _ _ _ _ _, zH2 HB AE AF⟩
 }
 }
 )
 )
end Go.Proofs.Ytooidjdgfoioiaa.P
