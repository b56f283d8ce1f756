-- Printed by wip/print (my turned copy of the kit's print) out of the translation; Lean checks it.
import Derived.Test.YtooidjdgfoioiaaP0
import Derived.Test.YtooidjdgfoioiaaP4
import Derived.Test.YtooidjdgfoioiaaP5
import Derived.Test.YtooidjdgfoioiaaP6
import Derived.Test.YtooidjdgfoioiaaP33
namespace Go.Proofs.Ytooidjdgfoioiaa.P
open Go.RowKit Go.Proofs.YtooidjdgfoioiaaW.PrintWords Go.Proofs.YtooidjdgfoioiaaW.PrintLast Go.Proofs.YtooidjdgfoioiaaW.PrintMore
attribute [local go_sem] max2_int min2_int max_two min_two max_three min_three max_four min_four   -- for this text's walks alone
set_option linter.unusedVariables false
set_option linter.unusedSimpArgs false

/-! ### spec_P6Pick: function 27 -/
def spec_P6Pick.f (l0 : List Int) (a1 : Int) : Option (Int) := (spec_l00From.f l0).bind fun AA => ((spec_l00Src_pick.f AA.1 AA.2.1 AA.2.2 a1).bind fun AB => (some AB.1))
set_option maxHeartbeats 8000000 in
set_option maxRecDepth 100000 in
theorem spec_P6Pick.calls (A0 : Option Addr) (c0 : Nat) (l0 : List Int) (a1 : Int) (r : Int) (w : World) (AL : Kd.C (Kd.int .u8) w A0 l0.length l0) (AK : l0.length ≤ c0) (h : spec_P6Pick.f l0 a1 = some r) :
    Calls Try.prog 27 #[.slice A0 l0.length c0, .int .i64 a1] w fun e w' => e = .returned (.int .i64 r) ∧ Below w.heap.size w w' := by
 have AO := ak AL
 have AN := ak AK
 clear AL AK
 have HB := ak (Below.refl w.heap.size w)
 have H := h
 unfold spec_P6Pick.f at H
 clear h
 replace H := Option.bind_eq_some_iff.mp H
 obtain ⟨⟨AE, AD, AC⟩, AI, H⟩ := H
 have A3 := ak AI
 clear AI
 replace H := Option.bind_eq_some_iff.mp H
 obtain ⟨⟨AG, AH, AF⟩, AJ, H⟩ := H
 have A4 := ak AJ
 clear AJ
 obtain rfl := Option.some.inj H
 go_enter Try.func27, Try.ntmps27
 go_wp2_with (first | ((with_reducible refine gate_callee (f := 60) rfl ?_); refine goesL_ (some 6) rfl rfl Try.func60 (by kernel_rfl) rfl #[.slice A0 l0.length c0] rfl gl_ ?_; (with_reducible refine (spec_l00From.calls _ _ l0 AE AD AC w _ ?side1 ?side2 ?side3 A3.out).mono ?_); (case side1 => repeat (first | (with_reducible first | exact HB.out | apply below_alloc | apply pw_below_drewN | apply below_drew1) | exact HB.out)); (case side2 => exact AO.out); (case side3 => exact AN.out); rintro e w5 ⟨AB, rfl, hi, hb, AM⟩; refine ⟨_, rfl, ?_⟩; have AA := ak (hi); replace HB := ak (hb); (try clear hb); (try clear AM); (try clear hi)) | ((with_reducible refine gate_callee (f := 62) rfl ?_); refine goesL_ (some 8) rfl rfl Try.func62 (by kernel_rfl) rfl #[.pointer (some ⟨AB, 0, none⟩), .int .i64 a1] rfl gl_ ?_; (with_reducible refine (spec_l00Src_pick.calls AB AE AD AC a1 AG AH AF w _ ?side1 ?side2 A4.out).mono ?_); (case side1 => repeat (first | (with_reducible first | exact AA.out | apply IsS123.alloc | apply IsS123.drewN | apply IsS123.drew | apply IsS123.set_1 | apply IsS123.set_2) | exact AA.out)); (case side2 => repeat (first | (with_reducible first | exact HB.out | apply below_alloc | apply pw_below_drewN | apply below_drew1 | refine below_set ?_ (IsS123.ge AA.out)) | exact HB.out)); rintro e w6 ⟨rfl, hi, hb, hk⟩; refine ⟨_, rfl, ?_⟩; replace HB := ak (hb); replace AA := ak (hi); (try clear hb); (try clear hk); (try clear hi)))
 go_ret
 exact ⟨rfl, by repeat (first | (with_reducible first | exact HB.out | apply below_alloc | apply pw_below_drewN | apply below_drew1 | refine below_set ?_ (IsS123.ge AA.out)) | exact HB.out)⟩
/-! ### spec_l01All: function 61 -/
mutual
def spec_l01All.l0 : Nat → List (S62) → Int → Int → Int → Int → Int → Int → Int → Int → Int → Int → Int → Int → Int → Option ((List (S62)))
  | 0, _, _, _, _, _, _, _, _, _, _, _, _, _, _ => none
  | k + 1, x3, x4, AD, AA, AE, AF, AH, AL, AC, AG, AB, AI, AJ, AK => if x4 < AA then (spec_l01All.l1 k x3 x4 0 AD AA AE AF AH AL AC AG AB AI AJ AK) else (some x3)
def spec_l01All.l1 : Nat → List (S62) → Int → Int → Int → Int → Int → Int → Int → Int → Int → Int → Int → Int → Int → Int → Option ((List (S62)))
  | 0, _, _, _, _, _, _, _, _, _, _, _, _, _, _, _ => none
  | k + 1, x3, x4, x5, AA, AJ, AD, AE, AG, AL, AC, AF, AB, AH, AI, AK => if x5 < AA then ((spec_l01Free.f AA AJ AD AE AG AL AC AF AB AH AI AK x5 x4).bind fun AM => (if AM = true then (if x3.length < 70368744177664 then (spec_l01All.l1 k (x3 ++ [(⟨x5, x4⟩ : S62)]) x4 (IntKind.i8.wrap (x5 + 1)) AA AJ AD AE AG AL AC AF AB AH AI AK) else (none)) else (spec_l01All.l1 k x3 x4 (IntKind.i8.wrap (x5 + 1)) AA AJ AD AE AG AL AC AF AB AH AI AK))) else (spec_l01All.l0 k x3 (IntKind.i8.wrap (x4 + 1)) AA AJ AD AE AG AL AC AF AB AH AI AK)
end
def spec_l01All.f (k : Nat) (AG : Int) (AI : Int) (AL : Int) (AE : Int) (AF : Int) (AD : Int) (AJ : Int) (AH : Int) (AK : Int) (AC : Int) (AB : Int) (AA : Int) : Option ((List (S62))) := spec_l01All.l0 k (([] : List (S62))) 0 AG AI AL AE AF AD AJ AH AK AC AB AA
set_option maxHeartbeats 8000000 in
set_option maxRecDepth 100000 in
theorem spec_l01All.calls (k : Nat) (b0 : Nat) (At : Int) (Aj : Int) (Ar : Int) (Ah : Int) (Al : Int) (An : Int) (Av : Int) (Au : Int) (Ai : Int) (Ao : Int) (Ag : Int) (Af : Int) (r : List (S62)) (w : World) (DB : w.heap[b0]? = some (.cells #[.int .i8 At, .int .i8 Aj, .int .u16 Ar, .int .u16 Ah, .int .u16 Al, .int .u16 An, .int .u16 Av, .int .u16 Au, .int .u16 Ai, .int .u16 Ao, .int .u16 Ag, .int .u16 Af] 35 (0, 0))) (h : spec_l01All.f k At Aj Ar Ah Al An Av Au Ai Ao Ag Af = some r) :
    Calls Try.prog 61 #[.pointer (some ⟨b0, 0, none⟩)] w fun e w' => ∃ v0_ : Value, e = .returned (v0_) ∧ Kd.R k62 62 w' w.heap.size (fun _ => True) v0_ r ∧ Below w.heap.size w w' := by
 have DF := Try.underlying62
 have Ab := ak DB
 clear DB
 have HB := ak (Below.refl w.heap.size w)
 have H := h
 unfold spec_l01All.f at H
 clear h
 obtain ⟨Bc, Ae⟩ : ∃ y_ : List (S62), y_ = (([] : List (S62))) := ⟨_, rfl⟩
 replace H : (spec_l01All.l0 k Bc 0 At Aj Ar Ah Al An Av Au Ai Ao Ag Af) = some r := by first | (rw [Ae]; with_reducible exact H) | (have BI := (Option.bind_some _ _).symm.trans H; rw [Ae]; with_reducible exact BI) | (have BI := (Option.bind_some _ _).symm.trans H; with_reducible exact BI) | with_reducible exact H | (rw [Ae]; exact H) | exact H
 have Aw := ak Ae
 clear Ae
 have H' := ak H
 clear H
 go_enter Try.func61, Try.ntmps61
 go_wp2_with (first | ((with_reducible refine gate_dst (N := 6) rfl ?_); refine Kd.R_lit k62 _ 62 ?hg (N := 6) ?hd (xs := ([] : List (S62))) (inner := []) (ok := fun _ => True) (okp := fun _ => True) ?hr ?hp (fun _ hk => hk) trivial (Below.refl _ _) (Nat.le_refl _) (by simp) ?_; (case hd => rfl); (case hg => rfl); (case hr => first | (go_simp; done) | (go_simp; rfl)); (case hp => exact (Reps.none _ _)); intro DE w2 BY hb DC Bb; clear DC Bb; (first | rw [← Aw.out] at BY | (simp only [Int.reduceToNat] at BY; rw [← Aw.out] at BY)); have BM := ak (Kd.R_lower BY (below_size (zB HB.out))); replace Ab := kK Ab hb; replace HB := kB HB hb; clear hb BY))
 go_loopg [3, 4] k (fun kq v3 v4 w' => ∃ (Ap : List (S62)) (AN : Int) (AW : Int) (AM : Int) (AV : Int) (AR : Int) (Aa : Int) (AX : Int) (AY : Int) (AU : Int) (AS : Int) (AZ : Int) (AQ : Int) (AT : Int), v4 = .int .i8 AN ∧ Aside0 (spec_l01All.l0 kq Ap AN AW AM AV AR Aa AX AY AU AS AZ AQ AT = some r) ∧ Aside0 (kq ≤ k) ∧ Aside0 (Kd.R k62 62 w' w.heap.size (fun _ => True) v3 Ap) ∧ Aside0 (w'.heap[b0]? = some (.cells #[.int .i8 AW, .int .i8 AM, .int .u16 AV, .int .u16 AR, .int .u16 Aa, .int .u16 AX, .int .u16 AY, .int .u16 AU, .int .u16 AS, .int .u16 AZ, .int .u16 AQ, .int .u16 AT] 35 (0, 0))) ∧ Aside0 (Below w.heap.size w w'))
 case atStart => exact ⟨(Bc), (0), (At), (Aj), (Ar), (Ah), (Al), (An), (Av), (Au), (Ai), (Ao), (Ag), (Af), rfl, H', ⟨Nat.le_refl _⟩, ⟨(zR BM.out)⟩, ⟨(zK Ab.out)⟩, ⟨zB HB.out⟩⟩
 case round => (
 clear H'
 obtain ⟨Ap, AN, AW, AM, AV, AR, Aa, AX, AY, AU, AS, AZ, AQ, AT, rfl, HA, BJ, AP, Ab, HB⟩ := hrel
 cases gk with
 | zero => exact absurd HA.out (by simp [spec_l01All.l0])
 | succ k1 => (
 have H := HA.out
 clear HA
 simp only [spec_l01All.l0] at H
 by_cases c4 : AN < AM
 {
 rw [if_pos c4] at H
 have Ba : decide (AN < AM) = true := decide_eq_true c4
 clear c4
 have H' := ak H
 clear H
 obtain ⟨BC, A3, Ay, BB, A2, BD, Az, A6, BA, A0, Aq, Ak, BE, BH, Ax, A4, A9, BF, A8, A1, A5, BG, As, Am⟩ := cz12 wr Ab
 go_wp2
 go_loopg [3, 5] k1 (fun kq v3 v5 w' => ∃ (Ac : List (S62)) (AO : Int) (AA : Int) (AE : Int) (AL : Int) (AJ : Int) (AH : Int) (AG : Int) (AF : Int) (AI : Int) (AB : Int) (AD : Int) (AC : Int) (AK : Int), v5 = .int .i8 AO ∧ Aside0 (spec_l01All.l1 kq Ac AN AO AA AE AL AJ AH AG AF AI AB AD AC AK = some r) ∧ Aside0 (kq ≤ k1) ∧ Aside0 (Kd.R k62 62 w' w.heap.size (fun _ => True) v3 Ac) ∧ Aside0 (w'.heap[b0]? = some (.cells #[.int .i8 AA, .int .i8 AE, .int .u16 AL, .int .u16 AJ, .int .u16 AH, .int .u16 AG, .int .u16 AF, .int .u16 AI, .int .u16 AB, .int .u16 AD, .int .u16 AC, .int .u16 AK] 35 (0, 0))) ∧ Aside0 (Below w.heap.size w w'))
 case atStart => exact ⟨(Ap), (0), (AW), (AM), (AV), (AR), (Aa), (AX), (AY), (AU), (AS), (AZ), (AQ), (AT), rfl, H', ⟨Nat.le_refl _⟩, ⟨(zR AP.out)⟩, ⟨(zK Ab.out)⟩, ⟨zB HB.out⟩⟩
 case round => (
 clear H'
 obtain ⟨Ac, AO, AA, AE, AL, AJ, AH, AG, AF, AI, AB, AD, AC, AK, rfl, HA, BK, AP, Ab, HB⟩ := hrel
 cases gk with
 | zero => exact absurd HA.out (by simp [spec_l01All.l1])
 | succ k2 => (
 have H := HA.out
 clear HA
 simp only [spec_l01All.l1] at H
 by_cases c6 : AO < AA
 {
 rw [if_pos c6] at H
 have C8 : decide (AO < AA) = true := decide_eq_true c6
 clear c6
 replace H := Option.bind_eq_some_iff.mp H
 obtain ⟨C7, DA, H⟩ := H
 have A7 := ak DA
 clear DA
 by_cases c8 : C7 = true
 {
 subst c8
 rw [if_pos rfl] at H
 by_cases c9 : Ac.length < 70368744177664
 {
 rw [if_pos c9] at H
 have C9 := ak c9
 clear c9
 obtain ⟨BV, Ad⟩ : ∃ y_ : List (S62), y_ = (Ac ++ [(⟨AO, AN⟩ : S62)]) := ⟨_, rfl⟩
 replace H : (spec_l01All.l1 k2 BV AN (IntKind.i8.wrap (AO + 1)) AA AE AL AJ AH AG AF AI AB AD AC AK) = some r := by first | (rw [Ad]; with_reducible exact H) | (have BI := (Option.bind_some _ _).symm.trans H; rw [Ad]; with_reducible exact BI) | (have BI := (Option.bind_some _ _).symm.trans H; with_reducible exact BI) | with_reducible exact H | (rw [Ad]; exact H) | exact H
 have BL := ak Ad
 clear Ad
 have H' := ak H
 clear H
 obtain ⟨Co, CW, CB, Cg, Cm, Cb, CD, Bv, Bw, Cl, Bd, BR, CS, By, Cv, Cx, Bu, CT, CR, Br, Ch, CK, BZ, BT⟩ := cz12 wr Ab
 go_wp2_with (first | ((with_reducible refine gate_callee (f := 84) rfl ?_); refine goesL_ (some 27) rfl rfl Try.func84 (by kernel_rfl) rfl #[.pointer (some ⟨b0, 0, none⟩), .agg #[.int .i8 AO, .int .i8 AN]] rfl gl_ ?_; (with_reducible refine (spec_l01Free.calls b0 AA AE AL AJ AH AG AF AI AB AD AC AK AO AN true _ ?side1 A7.out).mono ?_); (case side1 => exact (zK Ab.out)); rintro e DH ⟨rfl, hb⟩; refine ⟨_, rfl, ?_⟩; replace AP := kR AP hb; replace Ab := kK Ab hb; replace HB := kB HB hb; (try clear hb)) | ((with_reducible refine gate_builtin (b := .append) (xs := #[.tmp 28, .tmp 32]) rfl ?_); at_builtin; refine Kd.R_append k62 (w0 := w) w.heap.size rfl (.tmp 28) (.tmp 32) 37 62 (.agg #[(.int .i8 0), (.int .i8 0)]) 2 rfl Try.underlying37 info62 rfl (by decide) (by omega) u3 Ac (⟨AO, AN⟩ : S62) [.int .i8 AO, .int .i8 AN] (fun _ => True) (fun _ => False) rfl rfl ?aP (fun _ hk => hk.elim) ?aF ?aO ?aB ?aS ?aL ?_; (case aP => exact k62_mkM _ _ _ (⟨AO, AN⟩ : S62)); (case aB => exact (zB HB.out)); (case aF => exact (fun _ _ => trivial)); (case aO => exact (zR AP.out)); (case aS => exact (below_size (zB HB.out))); (case aL => have := C9.out; omega); intro DD DG ho hb hg hat; rw [← BL.out] at ho; have BP := ak (ho); replace Ab := ak (blk_grown (g := b0) (o := .cells #[.int .i8 AA, .int .i8 AE, .int .u16 AL, .int .u16 AJ, .int .u16 AH, .int .u16 AG, .int .u16 AF, .int .u16 AI, .int .u16 AB, .int .u16 AD, .int .u16 AC, .int .u16 AK] 35 (0, 0)) (zK Ab.out) hg (Kd.R_ne AP.out Ab.out (by decide))); replace HB := ak (hb); clear AP ho hb hg hat))
 go_roundg k2
 case measure => have := BJ.out; have := BK.out; omega
 case rel => exact ⟨(BV), (IntKind.i8.wrap (AO + 1)), (AA), (AE), (AL), (AJ), (AH), (AG), (AF), (AI), (AB), (AD), (AC), (AK), rfl, H', ⟨by have := BJ.out; have := BK.out; omega⟩, ⟨(zR BP.out)⟩, ⟨(zK Ab.out)⟩, ⟨zB HB.out⟩⟩
 }
 · rw [if_neg c9] at H; exact absurd H (by simp)
 }
 {
 replace c8 := Bool.eq_false_iff.mpr c8
 subst c8
 rw [if_neg (show ¬ (false = true) by decide)] at H
 have H' := ak H
 clear H
 obtain ⟨CJ, Bj, CA, CM, Cq, Cj, C3, C0, CF, Bx, Bf, Bi, Cw, CY, Bs, CC, Bl, CN, C4, Ci, Cp, Cn, Be, BU⟩ := cz12 wr Ab
 go_wp2_with (first | ((with_reducible refine gate_callee (f := 84) rfl ?_); refine goesL_ (some 27) rfl rfl Try.func84 (by kernel_rfl) rfl #[.pointer (some ⟨b0, 0, none⟩), .agg #[.int .i8 AO, .int .i8 AN]] rfl gl_ ?_; (with_reducible refine (spec_l01Free.calls b0 AA AE AL AJ AH AG AF AI AB AD AC AK AO AN false _ ?side1 A7.out).mono ?_); (case side1 => exact (zK Ab.out)); rintro e DI ⟨rfl, hb⟩; refine ⟨_, rfl, ?_⟩; replace AP := kR AP hb; replace Ab := kK Ab hb; replace HB := kB HB hb; (try clear hb)))
 go_roundg k2
 case measure => have := BJ.out; have := BK.out; omega
 case rel => exact ⟨(Ac), (IntKind.i8.wrap (AO + 1)), (AA), (AE), (AL), (AJ), (AH), (AG), (AF), (AI), (AB), (AD), (AC), (AK), rfl, H', ⟨by have := BJ.out; have := BK.out; omega⟩, ⟨(zR AP.out)⟩, ⟨(zK Ab.out)⟩, ⟨zB HB.out⟩⟩
 }
 }
 {
 rw [if_neg c6] at H
 have C8 : decide (AO < AA) = false := decide_eq_false c6
 clear c6
 have H' := ak H
 clear H
 obtain ⟨Bm, Ct, CO, B8, Cz, C1, Cy, CP, B9, CX, BX, BW, Cf, B0, Bq, CI, Bo, B3, CL, Cs, CU, Bp, Bh, BO⟩ := cz12 wr Ab
 go_wp2
 go_roundg k2
 case measure => have := BJ.out; have := BK.out; omega
 case rel => exact ⟨(Ac), (IntKind.i8.wrap (AN + 1)), (AA), (AE), (AL), (AJ), (AH), (AG), (AF), (AI), (AB), (AD), (AC), (AK), rfl, H', ⟨by have := BJ.out; have := BK.out; omega⟩, ⟨(zR AP.out)⟩, ⟨(zK Ab.out)⟩, ⟨zB HB.out⟩⟩
 }
 )
 )
 }
 {
 rw [if_neg c4] at H
 have Ba : decide (AN < AM) = false := decide_eq_false c4
 clear c4
 obtain rfl := Option.some.inj H
 obtain ⟨C2, Cr, CQ, Cd, CG, Ce, Cu, CZ, CH, Bk, Bg, BS, C5, Ca, Bz, CV, Cc, Bn, Ck, C6, CE, Bt, BQ, BN⟩ := cz12 wr Ab
 go_wp2
 go_ret
 exact ⟨_, rfl, AP.out, zB HB.out⟩
 }
 )
 )
/-! ### spec_P6Stands: function 26 -/
def spec_P6Stands.l0 : Nat → Int → List (S62) → List (S62) → Int → List Int → Int → Int → Option ((List (S62)))
  | 0, _, _, _, _, _, _, _ => none
  | k + 1, x2, x8, x9, AE, AB, AD, AC => if AE < x2 then (if (x8.length : Int) > 0 then ((spec_l00Src_pick.f AB AD AC (x8.length : Int)).bind fun AA => (if 0 ≤ AA.1 then (if AA.1 < (x8.length : Int) then (if x9.length < 70368744177664 then (spec_P6Stands.l0 k x2 x8 (x9 ++ [(⟨(rd_T62 x8 AA.1).f0, (rd_T62 x8 AA.1).f1⟩ : S62)]) (wrap64 (AE + 1)) AB AA.2.1 AA.2.2) else (none)) else (none)) else (none))) else (some x9)) else (some x9)
def spec_P6Stands.f (k : Nat) (l0 : List Int) (AH : Int) (AK : Int) (AD : Int) (AJ : Int) (AN : Int) (AE : Int) (AM : Int) (AI : Int) (AF : Int) (AL : Int) (AC : Int) (AB : Int) (a2 : Int) : Option ((List (S62))) := (spec_l00From.f l0).bind fun AA => ((spec_l01All.f k AH AK AD AJ AN AE AM AI AF AL AC AB).bind fun AG => (spec_P6Stands.l0 k a2 AG (([] : List (S62))) 0 AA.1 AA.2.1 AA.2.2))
set_option maxHeartbeats 8000000 in
set_option maxRecDepth 100000 in
theorem spec_P6Stands.calls (k : Nat) (A0 : Option Addr) (c0 : Nat) (l0 : List Int) (AT : Int) (AV : Int) (AR : Int) (AS : Int) (AN : Int) (AM : Int) (AQ : Int) (AP : Int) (AU : Int) (AO : Int) (AI : Int) (AJ : Int) (a2 : Int) (r : List (S62)) (w : World) (BK : Kd.C (Kd.int .u8) w A0 l0.length l0) (BJ : l0.length ≤ c0) (h : spec_P6Stands.f k l0 AT AV AR AS AN AM AQ AP AU AO AI AJ a2 = some r) :
    Calls Try.prog 26 #[.slice A0 l0.length c0, .agg #[.int .i8 AT, .int .i8 AV, .int .u16 AR, .int .u16 AS, .int .u16 AN, .int .u16 AM, .int .u16 AQ, .int .u16 AP, .int .u16 AU, .int .u16 AO, .int .u16 AI, .int .u16 AJ], .int .i64 a2] w fun e w' => ∃ v0_ : Value, e = .returned (v0_) ∧ Kd.R k62 62 w' w.heap.size (fun _ => True) v0_ r ∧ Below w.heap.size w w' := by
 have BV := Try.underlying35
 have BY := Try.underlying62
 have Ba := ak BK
 have BR := ak BJ
 clear BK BJ
 have HB := ak (Below.refl w.heap.size w)
 have H := h
 unfold spec_P6Stands.f at H
 clear h
 replace H := Option.bind_eq_some_iff.mp H
 obtain ⟨⟨AW, An, Ak⟩, BI, H⟩ := H
 have A4 := ak BI
 clear BI
 replace H := Option.bind_eq_some_iff.mp H
 obtain ⟨AD, BH, H⟩ := H
 have A5 := ak BH
 clear BH
 obtain ⟨Aq, Aa⟩ : ∃ y_ : List (S62), y_ = (([] : List (S62))) := ⟨_, rfl⟩
 replace H : (spec_P6Stands.l0 k a2 AD Aq 0 AW An Ak) = some r := by first | (rw [Aa]; with_reducible exact H) | (have Aj := (Option.bind_some _ _).symm.trans H; rw [Aa]; with_reducible exact Aj) | (have Aj := (Option.bind_some _ _).symm.trans H; with_reducible exact Aj) | with_reducible exact H | (rw [Aa]; exact H) | exact H
 have Ai := ak Aa
 clear Aa
 have H' := ak H
 clear H
 go_enter Try.func26, Try.ntmps26
 go_wp2_with (first | ((with_reducible refine gate_dst (N := 4) rfl ?_); (try (refine gate_guard (by rfl) ?_; dsimp only)); refine box_event ?hg (N := 4) ?hd (cs := #[.int .i8 AT, .int .i8 AV, .int .u16 AR, .int .u16 AS, .int .u16 AN, .int .u16 AM, .int .u16 AQ, .int .u16 AP, .int .u16 AU, .int .u16 AO, .int .u16 AI, .int .u16 AJ]) (t := 35) ?hr ?_; (case hd => rfl); (case hg => rfl); (case hr => first | (go_simp; done) | (go_simp; rfl)); intro AK hg w6 hbox hb; have AC := ak (hbox); have BO := gS HB hg; have AG := gS HB hg; replace HB := kB HB hb; clear hb hbox hg) | ((with_reducible refine gate_callee (f := 60) rfl ?_); refine goesL_ (some 12) rfl rfl Try.func60 (by kernel_rfl) rfl #[.slice A0 l0.length c0] rfl gl_ ?_; (with_reducible refine (spec_l00From.calls _ _ l0 AW An Ak w _ ?side1 ?side2 ?side3 A4.out).mono ?_); (case side1 => repeat (first | (with_reducible first | exact HB.out | apply below_alloc | apply pw_below_drewN | apply below_drew1 | refine below_set ?_ AG.out) | exact HB.out)); (case side2 => exact Ba.out); (case side3 => exact BR.out); rintro e w7 ⟨Af, rfl, hi, hb, A7⟩; refine ⟨_, rfl, ?_⟩; have AA := ak (hi); have AB := ak (IsS123.ne_blk hi (blk_below (g := AK) (o := .cells #[.int .i8 AT, .int .i8 AV, .int .u16 AR, .int .u16 AS, .int .u16 AN, .int .u16 AM, .int .u16 AQ, .int .u16 AP, .int .u16 AU, .int .u16 AO, .int .u16 AI, .int .u16 AJ] 35 (0, 0)) (zK AC.out) A7) (by decide)); have Ac := ak (Ne.symm (IsS123.ne_blk hi (blk_below (g := AK) (o := .cells #[.int .i8 AT, .int .i8 AV, .int .u16 AR, .int .u16 AS, .int .u16 AN, .int .u16 AM, .int .u16 AQ, .int .u16 AP, .int .u16 AU, .int .u16 AO, .int .u16 AI, .int .u16 AJ] 35 (0, 0)) (zK AC.out) A7) (by decide))); replace AC := ak (blk_below (g := AK) (o := .cells #[.int .i8 AT, .int .i8 AV, .int .u16 AR, .int .u16 AS, .int .u16 AN, .int .u16 AM, .int .u16 AQ, .int .u16 AP, .int .u16 AU, .int .u16 AO, .int .u16 AI, .int .u16 AJ] 35 (0, 0)) (zK AC.out) A7); replace HB := ak (hb); (try clear hb); (try clear A7); (try clear hi)) | ((with_reducible refine gate_callee (f := 61) rfl ?_); refine goesL_ (some 13) rfl rfl Try.func61 (by kernel_rfl) rfl #[.pointer (some ⟨AK, 0, none⟩)] rfl gl_ ?_; (with_reducible refine (spec_l01All.calls k AK AT AV AR AS AN AM AQ AP AU AO AI AJ AD _ ?side1 A5.out).mono ?_); (case side1 => exact (zK AC.out)); rintro e w8 ⟨Ax, rfl, BL, hb⟩; refine ⟨_, rfl, ?_⟩; have Ab := ak (Kd.R_lower BL (below_size (by repeat (first | (with_reducible first | exact HB.out | apply below_alloc | apply pw_below_drewN | apply below_drew1 | refine below_set ?_ (IsS123.ge AA.out) | refine below_set ?_ AG.out) | exact HB.out)))); replace AC := kK AC hb; replace HB := ak (below_step (by repeat (first | (with_reducible first | exact HB.out | apply below_alloc | apply pw_below_drewN | apply below_drew1 | refine below_set ?_ (IsS123.ge AA.out) | refine below_set ?_ AG.out) | exact HB.out)) hb); replace AA := ak (IsS123.below (by repeat (first | (with_reducible first | exact AA.out | apply IsS123.alloc | apply IsS123.drewN | apply IsS123.drew | apply IsS123.set_1 | apply IsS123.set_2 | refine IsS123.far ?_ AB.out _) | exact AA.out)) hb); (try clear hb); (try clear BL)) | ((with_reducible refine gate_dst (N := 14) rfl ?_); (try (refine gate_guard (by rfl) ?_; dsimp only)); refine Kd.R_lit k62 _ 62 ?hg (N := 14) ?hd (xs := ([] : List (S62))) (inner := []) (ok := fun _ => True) (okp := fun _ => True) ?hr ?hp (fun _ hk => hk) trivial (Below.refl _ _) (Nat.le_refl _) (by simp) ?_; (case hd => rfl); (case hg => rfl); (case hr => first | (go_simp; done) | (go_simp; rfl)); (case hp => exact (Reps.none _ _)); intro BZ w9 Ad hb BS As; clear BS As; (first | rw [← Ai.out] at Ad | (simp only [Int.reduceToNat] at Ad; rw [← Ai.out] at Ad)); have Ar := ak (Kd.R_lower (Kd.R_new' Ad (Kd.R_lt (zR Ab.out))) (below_size (by repeat (first | (with_reducible first | exact HB.out | apply below_alloc | apply pw_below_drewN | apply below_drew1 | refine below_set ?_ (IsS123.ge AA.out) | refine below_set ?_ AG.out) | exact HB.out)))); replace Ab := kE Ab Ad hb; replace AC := kK AC hb; replace HB := ak (below_step (by repeat (first | (with_reducible first | exact HB.out | apply below_alloc | apply pw_below_drewN | apply below_drew1 | refine below_set ?_ (IsS123.ge AA.out) | refine below_set ?_ AG.out) | exact HB.out)) hb); replace AA := ak (IsS123.below (by repeat (first | (with_reducible first | exact AA.out | apply IsS123.alloc | apply IsS123.drewN | apply IsS123.drew | apply IsS123.set_1 | apply IsS123.set_2 | refine IsS123.far ?_ AB.out _) | exact AA.out)) hb); clear hb Ad))
 go_loopg [9, 10] k (fun kq v9 BP w' => ∃ (Ae : List (S62)) (AL : Int) (AE : Int) (AF : Int), BP = .int .i64 AL ∧ Aside0 (spec_P6Stands.l0 kq a2 AD Ae AL AW AE AF = some r) ∧ Aside0 (kq ≤ k) ∧ Aside0 (Kd.R k62 62 w' w.heap.size (fun k_ => some k_ ≠ (v9 : Value).ownBlock) Ax AD) ∧ Aside0 (Kd.R k62 62 w' w.heap.size (fun k_ => some k_ ≠ (Ax : Value).ownBlock) v9 Ae) ∧ Aside0 (w'.heap[AK]? = some (.cells #[.int .i8 AT, .int .i8 AV, .int .u16 AR, .int .u16 AS, .int .u16 AN, .int .u16 AM, .int .u16 AQ, .int .u16 AP, .int .u16 AU, .int .u16 AO, .int .u16 AI, .int .u16 AJ] 35 (0, 0))) ∧ Aside0 (IsS123 w w' Af AW AE AF) ∧ Aside0 (Below w.heap.size w w'))
 case atStart => exact ⟨(Aq), (0), (An), (Ak), rfl, H', ⟨Nat.le_refl _⟩, ⟨Kd.R_mono Ab.out (fun _ hk => hk.2)⟩, ⟨Kd.R_mono Ar.out (fun _ hk => hk.2)⟩, ⟨(zK AC.out)⟩, ⟨by repeat (first | (with_reducible first | exact AA.out | apply IsS123.alloc | apply IsS123.drewN | apply IsS123.drew | apply IsS123.set_1 | apply IsS123.set_2 | refine IsS123.far ?_ AB.out _) | exact AA.out)⟩, ⟨by repeat (first | (with_reducible first | exact HB.out | apply below_alloc | apply pw_below_drewN | apply below_drew1 | refine below_set ?_ (IsS123.ge AA.out) | refine below_set ?_ AG.out) | exact HB.out)⟩⟩
 case round => (
 clear H'
 obtain ⟨Ae, AL, AE, AF, rfl, HA, BN, AX, AZ, AC, AA, HB⟩ := hrel
 cases gk with
 | zero => exact absurd HA.out (by simp [spec_P6Stands.l0])
 | succ k1 => (
 have H := HA.out
 clear HA
 simp only [spec_P6Stands.l0] at H
 by_cases Ap : AL < a2
 {
 rw [if_pos Ap] at H
 have A1 : decide (AL < a2) = true := decide_eq_true Ap
 clear Ap
 by_cases Ao : (AD.length : Int) > 0
 {
 rw [if_pos Ao] at H
 have A2 : decide (0 < (AD.length : Int)) = true := decide_eq_true Ao
 have Au : decide (0 < AD.length) = true := decide_eq_true (by omega)
 clear Ao
 replace H := Option.bind_eq_some_iff.mp H
 obtain ⟨⟨AH, Ag, Ah⟩, Aw, H⟩ := H
 have BU := ak Aw
 clear Aw
 by_cases A9 : 0 ≤ AH
 {
 rw [if_pos A9] at H
 have BG : decide (0 ≤ AH) = true := decide_eq_true A9
 clear A9
 by_cases BB : AH < (AD.length : Int)
 {
 rw [if_pos BB] at H
 have BM : decide (AH < (AD.length : Int)) = true := decide_eq_true BB
 clear BB
 by_cases A8 : Ae.length < 70368744177664
 {
 rw [if_pos A8] at H
 have Ay := ak A8
 clear A8
 obtain ⟨At, AY⟩ : ∃ y_ : List (S62), y_ = (Ae ++ [(⟨(rd_T62 AD AH).f0, (rd_T62 AD AH).f1⟩ : S62)]) := ⟨_, rfl⟩
 replace H : (spec_P6Stands.l0 k1 a2 AD At (wrap64 (AL + 1)) AW Ag Ah) = some r := by first | (rw [AY]; with_reducible exact H) | (have Aj := (Option.bind_some _ _).symm.trans H; rw [AY]; with_reducible exact Aj) | (have Aj := (Option.bind_some _ _).symm.trans H; with_reducible exact Aj) | with_reducible exact H | (rw [AY]; exact H) | exact H
 have Az := ak AY
 clear AY
 have H' := ak H
 clear H
 obtain ⟨BQ, BE, BD⟩ := Kd.R_slice AX.out
 subst BD
 go_wp2_with (first | ((with_reducible refine gate_callee (f := 62) rfl ?_); refine goesL_ (some 30) rfl rfl Try.func62 (by kernel_rfl) rfl #[.pointer (some ⟨Af, 0, none⟩), .int .i64 (AD.length : Int)] rfl gl_ ?_; (with_reducible refine (spec_l00Src_pick.calls Af AW AE AF (AD.length : Int) AH Ag Ah w _ ?side1 ?side2 BU.out).mono ?_); (case side1 => repeat (first | (with_reducible first | exact AA.out | apply IsS123.alloc | apply IsS123.drewN | apply IsS123.drew | apply IsS123.set_1 | apply IsS123.set_2 | refine IsS123.far ?_ AB.out _) | exact AA.out)); (case side2 => repeat (first | (with_reducible first | exact HB.out | apply below_alloc | apply pw_below_drewN | apply below_drew1 | refine below_set ?_ (IsS123.ge AA.out) | refine below_set ?_ AG.out) | exact HB.out)); rintro e Bb ⟨rfl, hi, hb, hk⟩; refine ⟨_, rfl, ?_⟩; replace AX := ak (Kd.R_mono (Kd.R_keep (IsS123.apart (show IsS123 w _ Af AW AE AF from by repeat (first | (with_reducible first | exact AA.out | apply IsS123.alloc | apply IsS123.drewN | apply IsS123.drew | apply IsS123.set_1 | apply IsS123.set_2 | refine IsS123.far ?_ AB.out _) | exact AA.out)) (zR AX.out) (by decide)) hk (fun _ h => h.2)) (fun _ h => h.1)); replace AZ := ak (Kd.R_mono (Kd.R_keep (IsS123.apart (show IsS123 w _ Af AW AE AF from by repeat (first | (with_reducible first | exact AA.out | apply IsS123.alloc | apply IsS123.drewN | apply IsS123.drew | apply IsS123.set_1 | apply IsS123.set_2 | refine IsS123.far ?_ AB.out _) | exact AA.out)) (zR AZ.out) (by decide)) hk (fun _ h => h.2)) (fun _ h => h.1)); replace AC := ak (KeepBut.blk hk (g' := AK) (o := .cells #[.int .i8 AT, .int .i8 AV, .int .u16 AR, .int .u16 AS, .int .u16 AN, .int .u16 AM, .int .u16 AQ, .int .u16 AP, .int .u16 AU, .int .u16 AO, .int .u16 AI, .int .u16 AJ] 35 (0, 0)) (zK AC.out) Ac.out (by simp)); replace HB := ak (hb); replace AA := ak (hi); (try clear hb); (try clear hk); (try clear hi); have Al : 0 ≤ (AH : Int) := of_decide_eq_true (by assumption); have Am : AH < (AD.length : Int) := of_decide_eq_true (by assumption); obtain ⟨Av, BC, A6, BA⟩ := at_T62 (Kd.R_reads' AX.out).2.2 AH Al Am; cases BC; replace Al := eq_true Al; replace Am := eq_true Am) | ((with_reducible refine gate_builtin (b := .append) (xs := #[.tmp 25, .tmp 33]) rfl ?_); (try (refine gate_guard (by rfl) ?_; dsimp only)); at_builtin; refine Kd.R_append k62 (w0 := w) w.heap.size rfl (.tmp 25) (.tmp 33) 37 62 (.agg #[(.int .i8 0), (.int .i8 0)]) 2 rfl Try.underlying37 info62 rfl (by decide) (by omega) u9 Ae (⟨(rd_T62 AD AH).f0, (rd_T62 AD AH).f1⟩ : S62) [.int .i8 ((rd_T62 AD AH).f0), .int .i8 ((rd_T62 AD AH).f1)] (fun k_ => some k_ ≠ (.slice (some Av) AD.length BE : Value).ownBlock) (fun _ => False) rfl rfl ?aP (fun _ hk => hk.elim) ?aF ?aO ?aB ?aS ?aL ?_; (case aP => exact k62_mkM _ _ _ (⟨(rd_T62 AD AH).f0, (rd_T62 AD AH).f1⟩ : S62)); (case aB => exact (by repeat (first | (with_reducible first | exact HB.out | apply below_alloc | apply pw_below_drewN | apply below_drew1 | refine below_set ?_ (IsS123.ge AA.out) | refine below_set ?_ AG.out) | exact HB.out))); (case aF => exact (fun k_ hk => Kd.fresh' (Kd.R_lt (zR AX.out)) k_ hk)); (case aO => exact (zR AZ.out)); (case aS => exact (below_size (by repeat (first | (with_reducible first | exact HB.out | apply below_alloc | apply pw_below_drewN | apply below_drew1 | refine below_set ?_ (IsS123.ge AA.out) | refine below_set ?_ AG.out) | exact HB.out)))); (case aL => have := Ay.out; omega); intro BX Bc ho hb hg hat; rw [← Az.out] at ho; have A3 := ak (ho); replace AX := ak (Kd.R_after (ok := (fun _ => True)) (Kd.R_mono AX.out (fun _ hk => ⟨trivial, by first | exact hk | exact own_len_ hk⟩)) hg hat); replace AC := ak (blk_grown (g := AK) (o := .cells #[.int .i8 AT, .int .i8 AV, .int .u16 AR, .int .u16 AS, .int .u16 AN, .int .u16 AM, .int .u16 AQ, .int .u16 AP, .int .u16 AU, .int .u16 AO, .int .u16 AI, .int .u16 AJ] 35 (0, 0)) (zK AC.out) hg (Kd.R_ne AZ.out AC.out (by decide))); replace AA := ak (IsS123.grown (w0 := w) (f0 := AW) (f1 := Ag) (f2 := Ah) (by repeat (first | (with_reducible first | exact AA.out | apply IsS123.alloc | apply IsS123.drewN | apply IsS123.drew | apply IsS123.set_1 | apply IsS123.set_2 | refine IsS123.far ?_ AB.out _) | exact AA.out)) hg (IsS123.own_ne AA.out AZ.out (by decide))); replace HB := ak (hb); clear AZ ho hb hg hat))
 go_roundg k1
 case measure => have := BN.out; omega
 case rel => exact ⟨(At), (wrap64 (AL + 1)), (Ag), (Ah), rfl, H', ⟨by have := BN.out; omega⟩, ⟨Kd.R_mono AX.out (fun _ hk => hk.2)⟩, ⟨(zR A3.out)⟩, ⟨(zK AC.out)⟩, ⟨by repeat (first | (with_reducible first | exact AA.out | apply IsS123.alloc | apply IsS123.drewN | apply IsS123.drew | apply IsS123.set_1 | apply IsS123.set_2 | refine IsS123.far ?_ AB.out _) | exact AA.out)⟩, ⟨by repeat (first | (with_reducible first | exact HB.out | apply below_alloc | apply pw_below_drewN | apply below_drew1 | refine below_set ?_ (IsS123.ge AA.out) | refine below_set ?_ AG.out) | exact HB.out)⟩⟩
 }
 · rw [if_neg A8] at H; exact absurd H (by simp)
 }
 · rw [if_neg BB] at H; exact absurd H (by simp)
 }
 · rw [if_neg A9] at H; exact absurd H (by simp)
 }
 {
 rw [if_neg Ao] at H
 have A2 : decide (0 < (AD.length : Int)) = false := decide_eq_false Ao
 have Au : decide (0 < AD.length) = false := decide_eq_false (by omega)
 clear Ao
 obtain rfl := Option.some.inj H
 obtain ⟨BT, BW, BF⟩ := Kd.R_slice AX.out
 subst BF
 go_wp2
 go_ret
 exact ⟨_, rfl, Kd.R_mono AZ.out (fun _ hk => trivial), by repeat (first | (with_reducible first | exact HB.out | apply below_alloc | apply pw_below_drewN | apply below_drew1 | refine below_set ?_ (IsS123.ge AA.out) | refine below_set ?_ AG.out) | exact HB.out)⟩
 }
 }
 {
 rw [if_neg Ap] at H
 have A1 : decide (AL < a2) = false := decide_eq_false Ap
 clear Ap
 obtain rfl := Option.some.inj H
 go_wp2
 go_ret
 exact ⟨_, rfl, Kd.R_mono AZ.out (fun _ hk => trivial), by repeat (first | (with_reducible first | exact HB.out | apply below_alloc | apply pw_below_drewN | apply below_drew1 | refine below_set ?_ (IsS123.ge AA.out) | refine below_set ?_ AG.out) | exact HB.out)⟩
 }
 )
 )
/-! ### spec_SameRope: function 28 -/
mutual
def spec_SameRope.j0 : Nat → Bool → Int → List Int → Int → List Int → Option (Bool)
  | 0, _, _, _, _, _ => none
  | k + 1, AE, AC, AD, AA, AB => if AE = true then (some false) else (spec_SameRope.l0 k 0 AC AD AA AB)
def spec_SameRope.l0 : Nat → Int → Int → List Int → Int → List Int → Option (Bool)
  | 0, _, _, _, _, _ => none
  | k + 1, x5, AD, AB, AC, AA => if x5 < (AB.length : Int) then (if 0 ≤ x5 then (if x5 < (AA.length : Int) then (if (rd AB x5) = (rd AA x5) then (spec_SameRope.l0 k (wrap64 (x5 + 1)) AD AB AC AA) else (some false)) else (none)) else (none)) else (some true)
end
def spec_SameRope.f (k : Nat) (AC : Int) (AB : List Int) (AD : Int) (AA : List Int) : Option (Bool) := if AC = AD then (spec_SameRope.j0 k ((AB.length : Int) != (AA.length : Int)) AC AB AD AA) else (spec_SameRope.j0 k true AC AB AD AA)
set_option maxHeartbeats 8000000 in
set_option maxRecDepth 100000 in
theorem spec_SameRope.calls (k : Nat) (AJ : Int) (AQ : Option Addr) (AP : Nat) (AD : List Int) (AN : Int) (AS : Option Addr) (AR : Nat) (AH : List Int) (r : Bool) (w : World) (Ad : Kd.C (Kd.int .i16) w AQ AD.length AD) (Ac : AD.length ≤ AP) (Af : Kd.C (Kd.int .i16) w AS AH.length AH) (AZ : AH.length ≤ AR) (h : spec_SameRope.f k AJ AD AN AH = some r) :
    Calls Try.prog 28 #[.agg #[.int .i16 AJ, .slice AQ AD.length AP], .agg #[.int .i16 AN, .slice AS AH.length AR]] w fun e w' => e = .returned (.bool r) ∧ Below w.heap.size w w' := by
 have Bu := Try.underlying32
 have Aa := ak Ad
 have Ba := ak Ac
 clear Ad Ac
 have Ae := ak Af
 have BZ := ak AZ
 clear Af AZ
 have HB := ak (Below.refl w.heap.size w)
 have H := h
 unfold spec_SameRope.f at H
 clear h
 have BU := ak H
 clear H
 go_enter Try.func28, Try.ntmps28
 go_upto_region 1 with (first | ((with_reducible refine gate_dst (N := 2) rfl ?_); (try (refine gate_guard (by rfl) ?_; dsimp only)); refine box_event ?hg (N := 2) ?hd (cs := #[.int .i16 AJ, .slice AQ AD.length AP]) (t := 32) ?hr ?_; (case hd => rfl); (case hg => rfl); (case hr => first | (go_simp; done) | (go_simp; rfl)); intro AI hg w4 hbox hb; have AA := ak (hbox); have Ab := gS HB hg; have AE := gS HB hg; replace HB := kB HB hb; clear hb hbox hg) | ((with_reducible refine gate_dst (N := 3) rfl ?_); (try (refine gate_guard (by rfl) ?_; dsimp only)); refine box_event ?hg (N := 3) ?hd (cs := #[.int .i16 AN, .slice AS AH.length AR]) (t := 32) ?hr ?_; (case hd => rfl); (case hg => rfl); (case hr => first | (go_simp; done) | (go_simp; rfl)); intro AM hg w5 hbox hb; have AB := ak (hbox); have Ag := gS1 HB AE hg; have AO := gS1 HB AE hg; have AF := nL AA hg; have AG := nG AA hg; replace AA := kK AA hb; replace HB := kB1 HB AE hb; clear hb hbox hg))
 repeat (go_quiet (first | ((with_reducible refine gate_dst (N := 2) rfl ?_); (try (refine gate_guard (by rfl) ?_; dsimp only)); refine box_event ?hg (N := 2) ?hd (cs := #[.int .i16 AJ, .slice AQ AD.length AP]) (t := 32) ?hr ?_; (case hd => rfl); (case hg => rfl); (case hr => first | (go_simp; done) | (go_simp; rfl)); intro AI hg w4 hbox hb; have AA := ak (hbox); have Ab := gS HB hg; have AE := gS HB hg; replace HB := kB HB hb; clear hb hbox hg) | ((with_reducible refine gate_dst (N := 3) rfl ?_); (try (refine gate_guard (by rfl) ?_; dsimp only)); refine box_event ?hg (N := 3) ?hd (cs := #[.int .i16 AN, .slice AS AH.length AR]) (t := 32) ?hr ?_; (case hd => rfl); (case hg => rfl); (case hr => first | (go_simp; done) | (go_simp; rfl)); intro AM hg w5 hbox hb; have Bf := ak (blk_below (g := AI) (o := .cells #[.int .i16 AJ, .slice AQ AD.length AP] 32 (0, 0)) (zK AA.out) hb); have BV := ak (below_step (zBG HB.out AE.out) hb); have Bb := ak (hbox); have Bh := gS1 HB AE hg; have Bq := gS1 HB AE hg; have BW := nL AA hg; have Bp := nG AA hg; clear AA HB; have AA := Bf; have HB := BV; have AB := Bb; have Ag := Bh; have AO := Bq; have AF := BW; have AG := Bp; clear Bf BV Bb Bh Bq BW Bp; clear hb hbox hg)); go_upto_region 1 with (first | ((with_reducible refine gate_dst (N := 2) rfl ?_); (try (refine gate_guard (by rfl) ?_; dsimp only)); refine box_event ?hg (N := 2) ?hd (cs := #[.int .i16 AJ, .slice AQ AD.length AP]) (t := 32) ?hr ?_; (case hd => rfl); (case hg => rfl); (case hr => first | (go_simp; done) | (go_simp; rfl)); intro AI hg w4 hbox hb; have AA := ak (hbox); have Ab := gS HB hg; have AE := gS HB hg; replace HB := kB HB hb; clear hb hbox hg) | ((with_reducible refine gate_dst (N := 3) rfl ?_); (try (refine gate_guard (by rfl) ?_; dsimp only)); refine box_event ?hg (N := 3) ?hd (cs := #[.int .i16 AN, .slice AS AH.length AR]) (t := 32) ?hr ?_; (case hd => rfl); (case hg => rfl); (case hr => first | (go_simp; done) | (go_simp; rfl)); intro AM hg w5 hbox hb; have AB := ak (hbox); have Ag := gS1 HB AE hg; have AO := gS1 HB AE hg; have AF := nL AA hg; have AG := nG AA hg; replace AA := kK AA hb; replace HB := kB1 HB AE hb; clear hb hbox hg)))
 (try simp only [Act.put, zs, zz, zk])
 go_cut [19] (fun Bs wc => ∃ (kq : Nat) (AX : Bool), Bs = .bool AX ∧ Aside0 (spec_SameRope.j0 kq AX AJ AD AN AH = some r) ∧ Aside0 (kq ≤ k) ∧ Aside0 (wc.heap[AI]? = some (.cells #[.int .i16 AJ, (.slice AQ AD.length AP)] 32 (0, 0))) ∧ Aside0 (wc.heap[AM]? = some (.cells #[.int .i16 AN, (.slice AS AH.length AR)] 32 (0, 0))) ∧ Aside0 (Below w.heap.size w wc))
 case first => (
 have H := BU.out
 clear BU
 by_cases c6 : AJ = AN
 {
 rw [if_pos c6] at H
 have AY : (AJ == AN) = true := beq_iff_eq.mpr c6
 have BN : (AJ != AN) = false := bne_eq_false_iff_eq.mpr c6
 clear c6
 (first | rw [AY] | (simp only [i64_w, i32_w]; rw [AY]) | skip)
 have H' := ak H
 clear H
 have Br := AF.out
 have Bt := AG.out
 have BP : w5.cell? ⟨AI, 0, none⟩ = some (.int .i16 AJ) := (blk_cell AA.out 0).trans rfl
 have BR : w5.cell? ⟨AI, 1, none⟩ = some (.slice AQ AD.length AP) := (blk_cell AA.out 1).trans rfl
 have BO := blk_frozen AA.out 0
 have BM := blk_frozen AA.out 1
 have BL : w5.cell? ⟨AM, 0, none⟩ = some (.int .i16 AN) := (blk_cell AB.out 0).trans rfl
 have BQ : w5.cell? ⟨AM, 1, none⟩ = some (.slice AS AH.length AR) := (blk_cell AB.out 1).trans rfl
 have BS := blk_frozen AB.out 0
 have BT := blk_frozen AB.out 1
 go_wp2
 repeat (go_quiet (fail); try go_wp2)
 go_meet
 case rel => exact ⟨_, (((AD.length : Int) != (AH.length : Int))), rfl, H', ⟨by omega⟩, ⟨(zK AA.out)⟩, ⟨(zK AB.out)⟩, ⟨zH2 HB AE AO⟩⟩
 }
 {
 rw [if_neg c6] at H
 have AY : (AJ == AN) = false := beq_eq_false_iff_ne.mpr c6
 have BN : (AJ != AN) = true := bne_iff_ne.mpr c6
 (first | rw [AY] | (simp only [i64_w, i32_w]; rw [AY]) | skip)
 have H' := ak H
 clear H
 have Bi := AF.out
 have Bk := AG.out
 have A0 : w5.cell? ⟨AI, 0, none⟩ = some (.int .i16 AJ) := (blk_cell AA.out 0).trans rfl
 have BE : w5.cell? ⟨AI, 1, none⟩ = some (.slice AQ AD.length AP) := (blk_cell AA.out 1).trans rfl
 have As := blk_frozen AA.out 0
 have Ax := blk_frozen AA.out 1
 have BF : w5.cell? ⟨AM, 0, none⟩ = some (.int .i16 AN) := (blk_cell AB.out 0).trans rfl
 have BK : w5.cell? ⟨AM, 1, none⟩ = some (.slice AS AH.length AR) := (blk_cell AB.out 1).trans rfl
 have At := blk_frozen AB.out 0
 have A1 := blk_frozen AB.out 1
 go_wp2
 repeat (go_quiet (fail); try go_wp2)
 go_meet
 case rel => exact ⟨_, (true), rfl, H', ⟨by omega⟩, ⟨(zK AA.out)⟩, ⟨(zK AB.out)⟩, ⟨zH2 HB AE AO⟩⟩
 }
 )
 case rest => (
 clear BU
 obtain ⟨kq, AX, rfl, HA, Bm, AA, AB, HB⟩ := hcut
 cases kq with
 | zero => exact absurd HA.out (by simp [spec_SameRope.j0])
 | succ Bc => (
 have H := HA.out
 clear HA
 simp only [spec_SameRope.j0] at H
 by_cases Ap : AX = true
 {
 subst Ap
 rw [if_pos rfl] at H
 obtain rfl := Option.some.inj H
 go_wp2
 repeat (go_quiet (fail); try go_wp2)
 go_ret
 exact ⟨rfl, zH2 HB AE AO⟩
 }
 {
 replace Ap := Bool.eq_false_iff.mpr Ap
 subst Ap
 rw [if_neg (show ¬ (false = true) by decide)] at H
 have H' := ak H
 clear H
 go_wp2
 repeat (go_quiet (fail); try go_wp2)
 go_loopg [5] Bc (fun kq v5 w' => ∃ (AC : Int), v5 = .int .i64 AC ∧ Aside0 (spec_SameRope.l0 kq AC AJ AD AN AH = some r) ∧ Aside0 (kq ≤ Bc) ∧ Aside0 (w'.heap[AI]? = some (.cells #[.int .i16 AJ, (.slice AQ AD.length AP)] 32 (0, 0))) ∧ Aside0 (w'.heap[AM]? = some (.cells #[.int .i16 AN, (.slice AS AH.length AR)] 32 (0, 0))) ∧ Aside0 (Below w.heap.size w w'))
 case atStart => exact ⟨(0), rfl, H', ⟨Nat.le_refl _⟩, ⟨(zK AA.out)⟩, ⟨(zK AB.out)⟩, ⟨zH2 HB AE AO⟩⟩
 case round => (
 clear H'
 obtain ⟨AC, rfl, HA, Bg, AA, AB, HB⟩ := hrel
 cases gk with
 | zero => exact absurd HA.out (by simp [spec_SameRope.l0])
 | succ k2 => (
 have H := HA.out
 clear HA
 simp only [spec_SameRope.l0] at H
 by_cases Ak : AC < (AD.length : Int)
 {
 rw [if_pos Ak] at H
 have Ao : decide (AC < (AD.length : Int)) = true := decide_eq_true Ak
 clear Ak
 by_cases A2 : 0 ≤ AC
 {
 rw [if_pos A2] at H
 have Bn : decide (0 ≤ AC) = true := decide_eq_true A2
 clear A2
 by_cases BB : AC < (AH.length : Int)
 {
 rw [if_pos BB] at H
 have BY : decide (AC < (AH.length : Int)) = true := decide_eq_true BB
 clear BB
 by_cases Aj : (rd AD AC) = (rd AH AC)
 {
 rw [if_pos Aj] at H
 have Al : ((rd AD AC) == (rd AH AC)) = true := beq_iff_eq.mpr Aj
 have Aq : ((rd AD AC) != (rd AH AC)) = false := bne_eq_false_iff_eq.mpr Aj
 clear Aj
 have H' := ak H
 clear H
 have Bl := AF.out
 have BX := AG.out
 have BJ : wr.cell? ⟨AI, 0, none⟩ = some (.int .i16 AJ) := (blk_cell AA.out 0).trans rfl
 have A5 : wr.cell? ⟨AI, 1, none⟩ = some (.slice AQ AD.length AP) := (blk_cell AA.out 1).trans rfl
 have A9 := blk_frozen AA.out 0
 have A4 := blk_frozen AA.out 1
 have AW : 0 ≤ (AC : Int) := of_decide_eq_true (by assumption)
 have AT : AC < (AD.length : Int) := of_decide_eq_true (by assumption)
 obtain ⟨Am, Ai, AL⟩ := Kd.at_int Aa.out AC AW AT
 cases Ai
 replace AL := (HB.out.cell (World.block_lt_of_cell? w _ AL)).trans AL
 replace AW := eq_true AW
 replace AT := eq_true AT
 have Ay : wr.cell? ⟨AM, 0, none⟩ = some (.int .i16 AN) := (blk_cell AB.out 0).trans rfl
 have Au : wr.cell? ⟨AM, 1, none⟩ = some (.slice AS AH.length AR) := (blk_cell AB.out 1).trans rfl
 have Az := blk_frozen AB.out 0
 have A3 := blk_frozen AB.out 1
 have AV : 0 ≤ (AC : Int) := of_decide_eq_true (by assumption)
 have AU : AC < (AH.length : Int) := of_decide_eq_true (by assumption)
 obtain ⟨An, Ah, AK⟩ := Kd.at_int Ae.out AC AV AU
 cases Ah
 replace AK := (HB.out.cell (World.block_lt_of_cell? w _ AK)).trans AK
 replace AV := eq_true AV
 replace AU := eq_true AU
 go_wp2
 repeat (go_quiet (fail); try go_wp2)
 go_roundg k2
 case measure => have := Bm.out; have := Bg.out; omega
 case rel => exact ⟨(wrap64 (AC + 1)), rfl, H', ⟨by have := Bm.out; have := Bg.out; omega⟩, ⟨(zK AA.out)⟩, ⟨(zK AB.out)⟩, ⟨zH2 HB AE AO⟩⟩
 }
 {
 rw [if_neg Aj] at H
 have Al : ((rd AD AC) == (rd AH AC)) = false := beq_eq_false_iff_ne.mpr Aj
 have Aq : ((rd AD AC) != (rd AH AC)) = true := bne_iff_ne.mpr Aj
 obtain rfl := Option.some.inj H
 have Be := AF.out
 have Bo := AG.out
 have Av : wr.cell? ⟨AI, 0, none⟩ = some (.int .i16 AJ) := (blk_cell AA.out 0).trans rfl
 have A6 : wr.cell? ⟨AI, 1, none⟩ = some (.slice AQ AD.length AP) := (blk_cell AA.out 1).trans rfl
 have BI := blk_frozen AA.out 0
 have BC := blk_frozen AA.out 1
 have AW : 0 ≤ (AC : Int) := of_decide_eq_true (by assumption)
 have AT : AC < (AD.length : Int) := of_decide_eq_true (by assumption)
 obtain ⟨Am, Ai, AL⟩ := Kd.at_int Aa.out AC AW AT
 cases Ai
 replace AL := (HB.out.cell (World.block_lt_of_cell? w _ AL)).trans AL
 replace AW := eq_true AW
 replace AT := eq_true AT
 have Ar : wr.cell? ⟨AM, 0, none⟩ = some (.int .i16 AN) := (blk_cell AB.out 0).trans rfl
 have BG : wr.cell? ⟨AM, 1, none⟩ = some (.slice AS AH.length AR) := (blk_cell AB.out 1).trans rfl
 have BD := blk_frozen AB.out 0
 have BH := blk_frozen AB.out 1
 have AV : 0 ≤ (AC : Int) := of_decide_eq_true (by assumption)
 have AU : AC < (AH.length : Int) := of_decide_eq_true (by assumption)
 obtain ⟨An, Ah, AK⟩ := Kd.at_int Ae.out AC AV AU
 cases Ah
 replace AK := (HB.out.cell (World.block_lt_of_cell? w _ AK)).trans AK
 replace AV := eq_true AV
 replace AU := eq_true AU
 go_wp2
 repeat (go_quiet (fail); try go_wp2)
 go_ret
 exact ⟨rfl, zH2 HB AE AO⟩
 }
 }
 · rw [if_neg BB] at H; exact absurd H (by simp)
 }
 · rw [if_neg A2] at H; exact absurd H (by simp)
 }
 {
 rw [if_neg Ak] at H
 have Ao : decide (AC < (AD.length : Int)) = false := decide_eq_false Ak
 clear Ak
 obtain rfl := Option.some.inj H
 have Bj := AF.out
 have Bd := AG.out
 have A8 : wr.cell? ⟨AI, 0, none⟩ = some (.int .i16 AJ) := (blk_cell AA.out 0).trans rfl
 have BA : wr.cell? ⟨AI, 1, none⟩ = some (.slice AQ AD.length AP) := (blk_cell AA.out 1).trans rfl
 have A7 := blk_frozen AA.out 0
 have Aw := blk_frozen AA.out 1
 go_wp2
 repeat (go_quiet (fail); try go_wp2)
 go_ret
 exact ⟨rfl, zH2 HB AE AO⟩
 }
 )
 )
 }
 )
 )
/-! ### spec_P6Steps: function 29 -/
def spec_P6Steps.f (k : Nat) (AJ : Int) (AM : Int) (AP : Int) (AG : Int) (AH : Int) (AF : Int) (AN : Int) (AI : Int) (AO : Int) (AE : Int) (AD : Int) (AC : Int) (AL AK AB AA : Int) : Option Int := (Go.Proofs.Ytooidjdgfoioiaa.H.bfsFrom (spec_StepsBetween.bes k AJ AM AP AG AH AF AN AI AO AE AD AC) k (AL, AK)).bind fun R => (if Go.Proofs.Ytooidjdgfoioiaa.H.inG (AB, AA) = true then some ((R (AB, AA)).getD (-1)) else none)
set_option maxHeartbeats 8000000 in
set_option maxRecDepth 100000 in
theorem spec_P6Steps.calls (k : Nat) (AT : Int) (AU : Int) (AR : Int) (AO : Int) (AW : Int) (Aa : Int) (AZ : Int) (AV : Int) (AS : Int) (AP : Int) (AE : Int) (AF : Int) (AX : Int) (AY : Int) (AB : Int) (AC : Int) (r : Int) (w : World) (h : spec_P6Steps.f k AT AU AR AO AW Aa AZ AV AS AP AE AF AX AY AB AC = some r) :
    Calls Try.prog 29 #[.agg #[.int .i8 AT, .int .i8 AU, .int .u16 AR, .int .u16 AO, .int .u16 AW, .int .u16 Aa, .int .u16 AZ, .int .u16 AV, .int .u16 AS, .int .u16 AP, .int .u16 AE, .int .u16 AF], .agg #[.int .i8 AX, .int .i8 AY], .agg #[.int .i8 AB, .int .i8 AC]] w fun e w' => e = .returned (.int .i64 r) ∧ Below w.heap.size w w' := by
 have A2 := Try.underlying35
 have A3 := Try.underlying62
 have HB := ak (Below.refl w.heap.size w)
 have hF : ((Go.Proofs.Ytooidjdgfoioiaa.H.bfsFrom (spec_StepsBetween.bes k AT AU AR AO AW Aa AZ AV AS AP AE AF) k (AX, AY)).bind fun R => (if Go.Proofs.Ytooidjdgfoioiaa.H.inG (AB, AC) = true then some ((R (AB, AC)).getD (-1)) else none)) = some r := h
 clear h
 obtain ⟨RR, hRR, hF⟩ := Option.bind_eq_some_iff.mp hF
 by_cases cg : Go.Proofs.Ytooidjdgfoioiaa.H.inG (AB, AC) = true
 {
 rw [if_pos cg] at hF
 obtain rfl := Option.some.inj hF
 clear hF
 obtain ⟨nR, hOK⟩ := Go.Proofs.Ytooidjdgfoioiaa.H.bfsFrom_ok hRR
 obtain ⟨p0, p1, p2, p3⟩ := Go.Proofs.Ytooidjdgfoioiaa.H.inG_iff.1 cg
 dsimp only at p0 p1 p2 p3
 have e1 : (0 ≤ AB) = True := eq_true p0
 have e2 : (AB < 10) = True := eq_true p1
 have e3 : (0 ≤ AC) = True := eq_true p2
 have e4 : (AC < 10) = True := eq_true p3
 have hgr : GR RR (AC.toNat * 10 + AB.toNat) = (RR (AB, AC)).getD (-1) := by {
 rw [GR_at RR _ _ (by omega), Int.toNat_of_nonneg p0, Int.toNat_of_nonneg p2]
 }
 go_enter Try.func29, Try.ntmps29
 go_wp2_with (first | ((with_reducible refine gate_dst (N := 3) rfl ?_); refine box_event ?hg (N := 3) ?hd (cs := #[.int .i8 AT, .int .i8 AU, .int .u16 AR, .int .u16 AO, .int .u16 AW, .int .u16 Aa, .int .u16 AZ, .int .u16 AV, .int .u16 AS, .int .u16 AP, .int .u16 AE, .int .u16 AF]) (t := 35) ?hr ?_; (case hd => rfl); (case hg => rfl); (case hr => first | (go_simp; done) | (go_simp; rfl)); intro Af hg w6 hbox hb; have AA := ak (hbox); have Ar := gS HB hg; have AD := gS HB hg; replace HB := kB HB hb; clear hb hbox hg) | ((with_reducible refine gate_dst (N := 4) rfl ?_); refine box_event ?hg (N := 4) ?hd (cs := #[.int .i8 AX, .int .i8 AY]) (t := 62) ?hr ?_; (case hd => rfl); (case hg => rfl); (case hr => first | (go_simp; done) | (go_simp; rfl)); intro Ay hg w7 hbox hb; have AG := ak (hbox); have As := gS1 HB AD hg; have AQ := gS1 HB AD hg; have AL := nL AA hg; have AI := nG AA hg; replace AA := kK AA hb; replace HB := kB1 HB AD hb; clear hb hbox hg) | ((with_reducible refine gate_dst (N := 5) rfl ?_); refine box_event ?hg (N := 5) ?hd (cs := #[.int .i8 AB, .int .i8 AC]) (t := 62) ?hr ?_; (case hd => rfl); (case hg => rfl); (case hr => first | (go_simp; done) | (go_simp; rfl)); intro AH hg w8 hbox hb; have Ab := ak (hbox); have At := ak ((by rw [hg]; exact (below_size (zH2 HB AD AQ)) : w.heap.size ≤ AH)); have Aq := ak ((by rw [hg]; exact (below_size (zH2 HB AD AQ)) : w.heap.size ≤ AH)); have AK := nL AA hg; have AJ := nG AA hg; have AN := nL AG hg; have AM := nG AG hg; replace AA := kK AA hb; replace AG := kK AG hb; replace HB := kB2 HB AD AQ hb; clear hb hbox hg; have A1 := AI.out; have Az := AL.out; have Av := AN.out; have Ax := AM.out; obtain ⟨An, Am, Ai, Ak⟩ := cz2 w8 AG; have Au := AJ.out; have Aw := AK.out; obtain ⟨Aj, Ah, Al, Ao⟩ := cz2 w8 Ab) | (go_at_call 63; (with_reducible refine (spec_StepsBetween.gsteps_ k Af AT AU AR AO AW Aa AZ AV AS AP AE AF (AX, AY) RR hRR _ AA.out).mono ?_); rintro e Ac ⟨rfl, hb⟩; have Ae := blk_below Ab.out hb; have Ag := HB.out.trans (hb.mono HB.out.size); have hst := run_storeCells_new (P := Try.prog) Ac 102 Try.zeroCells102 (gridA (GR RR)) (by rw [gridA_size]; kernel_rfl) (by rw [gridA_size]; kernel_rfl) (Array.all_eq_true_iff_forall_mem.2 (fun v hv => gridA_one _ v (by simpa using hv)))))
 have Ad := heap_alloc_new Ac (.cells (gridA (GR RR)) 102)
 have hbl : Below Ac.heap.size Ac (Ac.alloc (.cells (gridA (GR RR)) 102)) := Below.alloc (Below.refl _ _) (Nat.le_refl _) _
 replace Ae := blk_below Ae hbl
 replace Ag := Ag.trans (hbl.mono Ag.size)
 clear hst hbl
 generalize Ac.alloc (.cells (gridA (GR RR)) 102) = Ap at Ad Ae Ag ⊢
 generalize Ac.heap.size = A0 at Ad ⊢
 have y0 : Ap.cell? ⟨AH, 0, none⟩ = some (.int .i8 AB) := (blk_cell Ae 0).trans rfl
 have y1 : Ap.cell? ⟨AH, 1, none⟩ = some (.int .i8 AC) := (blk_cell Ae 1).trans rfl
 have y2 : Ap.cell? ⟨A0, AC.toNat * 10 + AB.toNat, none⟩ = some (.int .i64 ((RR (AB, AC)).getD (-1))) := by {
 rw [← hgr]
 simp only [World.cell?, Ad]
 exact gridA_get _ _ (by omega)
 }
 go_quiet (fail)
 try go_wp2
 go_ret
 exact ⟨rfl, by repeat (first | exact Ag | apply pw_below_drewN | apply below_drew1)⟩
 }
 · rw [if_neg cg] at hF; cases hF
end Go.Proofs.Ytooidjdgfoioiaa.P
