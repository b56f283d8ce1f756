-- Printed by wip/print (my turned copy of the kit's print) out of the translation; Lean checks it.
import Derived.Test.YtooidjdgfoioiaaP0
import Derived.Test.YtooidjdgfoioiaaP1
namespace Go.Proofs.Ytooidjdgfoioiaa.P
open Go.RowKit Go.Proofs.YtooidjdgfoioiaaW.PrintWords Go.Proofs.YtooidjdgfoioiaaW.PrintLast Go.Proofs.YtooidjdgfoioiaaW.PrintMore
attribute [local go_sem] max2_int min2_int max_two min_two max_three min_three max_four min_four   -- for this text's walks alone
set_option linter.unusedVariables false
set_option linter.unusedSimpArgs false

/-! ### spec_l01Ok: function 40 -/
mutual
def spec_l01Ok.j0 : Nat → Bool → Int → Int → Int → Int → Int → Int → Int → Int → Int → Int → Int → Int → Option (Bool)
  | 0, _, _, _, _, _, _, _, _, _, _, _, _, _ => none
  | k + 1, AM, AD, AJ, AE, AF, AG, AL, AB, AC, AA, AH, AI, AK => if AM = true then (some false) else (spec_l01Ok.l0 k 0 AD AJ AE AF AG AL AB AC AA AH AI AK)
def spec_l01Ok.l0 : Nat → Int → Int → Int → Int → Int → Int → Int → Int → Int → Int → Int → Int → Int → Option (Bool)
  | 0, _, _, _, _, _, _, _, _, _, _, _, _, _ => none
  | k + 1, x3, AA, AB, AF, AG, AH, AL, AD, AE, AC, AI, AJ, AK => if x3 < 10 then (if 0 ≤ x3 then (if x3 = 0 then (if 0 ≤ (IntKind.u64.wrap (AA)) then (if (shr .u16 AF (IntKind.u64.wrap (AA))) = 0 then (if x3 ≥ (wrap64 (AB)) then (if AF = 0 then (spec_l01Ok.l0 k (wrap64 (x3 + 1)) AA AB AF AG AH AL AD AE AC AI AJ AK) else (some false)) else (spec_l01Ok.l0 k (wrap64 (x3 + 1)) AA AB AF AG AH AL AD AE AC AI AJ AK)) else (some false)) else (none)) else (if x3 = 1 then (if 0 ≤ (IntKind.u64.wrap (AA)) then (if (shr .u16 AG (IntKind.u64.wrap (AA))) = 0 then (if x3 ≥ (wrap64 (AB)) then (if AG = 0 then (spec_l01Ok.l0 k (wrap64 (x3 + 1)) AA AB AF AG AH AL AD AE AC AI AJ AK) else (some false)) else (spec_l01Ok.l0 k (wrap64 (x3 + 1)) AA AB AF AG AH AL AD AE AC AI AJ AK)) else (some false)) else (none)) else (if x3 = 2 then (if 0 ≤ (IntKind.u64.wrap (AA)) then (if (shr .u16 AH (IntKind.u64.wrap (AA))) = 0 then (if x3 ≥ (wrap64 (AB)) then (if AH = 0 then (spec_l01Ok.l0 k (wrap64 (x3 + 1)) AA AB AF AG AH AL AD AE AC AI AJ AK) else (some false)) else (spec_l01Ok.l0 k (wrap64 (x3 + 1)) AA AB AF AG AH AL AD AE AC AI AJ AK)) else (some false)) else (none)) else (if x3 = 3 then (if 0 ≤ (IntKind.u64.wrap (AA)) then (if (shr .u16 AL (IntKind.u64.wrap (AA))) = 0 then (if x3 ≥ (wrap64 (AB)) then (if AL = 0 then (spec_l01Ok.l0 k (wrap64 (x3 + 1)) AA AB AF AG AH AL AD AE AC AI AJ AK) else (some false)) else (spec_l01Ok.l0 k (wrap64 (x3 + 1)) AA AB AF AG AH AL AD AE AC AI AJ AK)) else (some false)) else (none)) else (if x3 = 4 then (if 0 ≤ (IntKind.u64.wrap (AA)) then (if (shr .u16 AD (IntKind.u64.wrap (AA))) = 0 then (if x3 ≥ (wrap64 (AB)) then (if AD = 0 then (spec_l01Ok.l0 k (wrap64 (x3 + 1)) AA AB AF AG AH AL AD AE AC AI AJ AK) else (some false)) else (spec_l01Ok.l0 k (wrap64 (x3 + 1)) AA AB AF AG AH AL AD AE AC AI AJ AK)) else (some false)) else (none)) else (if x3 = 5 then (if 0 ≤ (IntKind.u64.wrap (AA)) then (if (shr .u16 AE (IntKind.u64.wrap (AA))) = 0 then (if x3 ≥ (wrap64 (AB)) then (if AE = 0 then (spec_l01Ok.l0 k (wrap64 (x3 + 1)) AA AB AF AG AH AL AD AE AC AI AJ AK) else (some false)) else (spec_l01Ok.l0 k (wrap64 (x3 + 1)) AA AB AF AG AH AL AD AE AC AI AJ AK)) else (some false)) else (none)) else (if x3 = 6 then (if 0 ≤ (IntKind.u64.wrap (AA)) then (if (shr .u16 AC (IntKind.u64.wrap (AA))) = 0 then (if x3 ≥ (wrap64 (AB)) then (if AC = 0 then (spec_l01Ok.l0 k (wrap64 (x3 + 1)) AA AB AF AG AH AL AD AE AC AI AJ AK) else (some false)) else (spec_l01Ok.l0 k (wrap64 (x3 + 1)) AA AB AF AG AH AL AD AE AC AI AJ AK)) else (some false)) else (none)) else (if x3 = 7 then (if 0 ≤ (IntKind.u64.wrap (AA)) then (if (shr .u16 AI (IntKind.u64.wrap (AA))) = 0 then (if x3 ≥ (wrap64 (AB)) then (if AI = 0 then (spec_l01Ok.l0 k (wrap64 (x3 + 1)) AA AB AF AG AH AL AD AE AC AI AJ AK) else (some false)) else (spec_l01Ok.l0 k (wrap64 (x3 + 1)) AA AB AF AG AH AL AD AE AC AI AJ AK)) else (some false)) else (none)) else (if x3 = 8 then (if 0 ≤ (IntKind.u64.wrap (AA)) then (if (shr .u16 AJ (IntKind.u64.wrap (AA))) = 0 then (if x3 ≥ (wrap64 (AB)) then (if AJ = 0 then (spec_l01Ok.l0 k (wrap64 (x3 + 1)) AA AB AF AG AH AL AD AE AC AI AJ AK) else (some false)) else (spec_l01Ok.l0 k (wrap64 (x3 + 1)) AA AB AF AG AH AL AD AE AC AI AJ AK)) else (some false)) else (none)) else (if x3 = 9 then (if 0 ≤ (IntKind.u64.wrap (AA)) then (if (shr .u16 AK (IntKind.u64.wrap (AA))) = 0 then (if x3 ≥ (wrap64 (AB)) then (if AK = 0 then (spec_l01Ok.l0 k (wrap64 (x3 + 1)) AA AB AF AG AH AL AD AE AC AI AJ AK) else (some false)) else (spec_l01Ok.l0 k (wrap64 (x3 + 1)) AA AB AF AG AH AL AD AE AC AI AJ AK)) else (some false)) else (none)) else (none))))))))))) else (none)) else (some true)
end
def spec_l01Ok.f (k : Nat) (AC : Int) (AD : Int) (AL : Int) (AF : Int) (AH : Int) (AG : Int) (AJ : Int) (AI : Int) (AK : Int) (AE : Int) (AB : Int) (AA : Int) : Option (Bool) := (spec_l00In.f (wrap64 (AC)) 1 10).bind fun AN => (if AN = true then ((spec_l00In.f (wrap64 (AD)) 1 10).bind fun AM => (spec_l01Ok.j0 k (!AM) AC AD AL AF AH AG AJ AI AK AE AB AA)) else (spec_l01Ok.j0 k true AC AD AL AF AH AG AJ AI AK AE AB AA))
set_option maxHeartbeats 8000000 in
set_option maxRecDepth 100000 in
theorem spec_l01Ok.calls (k : Nat) (b0 : Nat) (AE : Int) (AB : Int) (AK : Int) (AF : Int) (AH : Int) (AI : Int) (AM : Int) (AL : Int) (AG : Int) (AJ : Int) (AD : Int) (AC : Int) (r : Bool) (w : World) (DM : w.heap[b0]? = some (.cells #[.int .i8 AE, .int .i8 AB, .int .u16 AK, .int .u16 AF, .int .u16 AH, .int .u16 AI, .int .u16 AM, .int .u16 AL, .int .u16 AG, .int .u16 AJ, .int .u16 AD, .int .u16 AC] 35 (0, 0))) (h : spec_l01Ok.f k AE AB AK AF AH AI AM AL AG AJ AD AC = some r) :
    Calls Try.prog 40 #[.pointer (some ⟨b0, 0, none⟩)] w fun e w' => e = .returned (.bool r) ∧ Drawn0 w w' := by
 have AO := ak DM
 clear DM
 have H := h
 unfold spec_l01Ok.f at H
 clear h
 have C8 := ak H
 clear H
 go_enter Try.func40, Try.ntmps40
 go_upto_region 1 with (fail)
 repeat (go_quiet (fail); go_upto_region 1 with (fail))
 go_cut [19] (fun DO wc => ∃ (kq : Nat) (AR : Bool), DO = .bool AR ∧ Aside0 (spec_l01Ok.j0 kq AR AE AB AK AF AH AI AM AL AG AJ AD AC = some r) ∧ Aside0 (kq ≤ k) ∧ Aside0 (wc.heap[b0]? = some (.cells #[.int .i8 AE, .int .i8 AB, .int .u16 AK, .int .u16 AF, .int .u16 AH, .int .u16 AI, .int .u16 AM, .int .u16 AL, .int .u16 AG, .int .u16 AJ, .int .u16 AD, .int .u16 AC] 35 (0, 0))) ∧ Drawn0 w wc)
 case first => (
 have H := C8.out
 clear C8
 replace H := Option.bind_eq_some_iff.mp H
 obtain ⟨C2, DK, H⟩ := H
 have A3 := ak DK
 clear DK
 by_cases c4 : C2 = true
 {
 subst c4
 rw [if_pos rfl] at H
 replace H := Option.bind_eq_some_iff.mp H
 obtain ⟨Ad, DJ, H⟩ := H
 have A5 := ak DJ
 clear DJ
 have H' := ak H
 clear H
 obtain ⟨Ck, Cb, C9, Cu, Cq, DG, DD, Ch, Co, DA, BV, CM, Ca, C4, DB, Cw, DF, Cn, Cp, Cv, Cm, Cf, B3, Ba⟩ := cz12 w AO
 go_wp2_with (first | (go_at_call 72; (with_reducible refine (spec_l00In.calls (wrap64 (AE)) 1 10 true _ A3.out).mono ?_); rintro e w' ⟨rfl, ⟨nd, rfl⟩⟩) | (go_at_call 72; (with_reducible refine (spec_l00In.calls (wrap64 (AB)) 1 10 Ad _ A5.out).mono ?_); rintro e w' ⟨rfl, ⟨nd, rfl⟩⟩))
 repeat (go_quiet (fail))
 go_meet
 case rel => exact ⟨_, (!Ad), rfl, H', ⟨by omega⟩, ⟨(zK AO.out)⟩, by repeat (first | exact Drawn0.refl _ | apply Drawn0.step)⟩
 }
 {
 replace c4 := Bool.eq_false_iff.mpr c4
 subst c4
 rw [if_neg (show ¬ (false = true) by decide)] at H
 have H' := ak H
 clear H
 obtain ⟨Cl, DH, Ce, Cc, DC, Cy, Ct, C5, Cz, Cs, CN, BT, DE, C3, C7, Cj, C6, Cx, Ci, Cr, Cd, Cg, CD, BP⟩ := cz12 w AO
 go_wp2_with (first | (go_at_call 72; (with_reducible refine (spec_l00In.calls (wrap64 (AE)) 1 10 false _ A3.out).mono ?_); rintro e w' ⟨rfl, ⟨nd, rfl⟩⟩))
 repeat (go_quiet (fail))
 go_meet
 case rel => exact ⟨_, (true), rfl, H', ⟨by omega⟩, ⟨(zK AO.out)⟩, by repeat (first | exact Drawn0.refl _ | apply Drawn0.step)⟩
 }
 )
 case rest => (
 clear C8
 obtain ⟨kq, AR, rfl, HA, BE, AO, ⟨DQ, rfl⟩⟩ := hcut
 cases kq with
 | zero => exact absurd HA.out (by simp [spec_l01Ok.j0])
 | succ DN => (
 have H := HA.out
 clear HA
 simp only [spec_l01Ok.j0] at H
 by_cases c8 : AR = true
 {
 subst c8
 rw [if_pos rfl] at H
 obtain rfl := Option.some.inj H
 go_wp2
 repeat (go_quiet (fail); try go_wp2)
 go_ret
 exact ⟨by first | rfl | (simp; done) | (simp [*]; done), by repeat (first | exact Drawn0.refl _ | apply Drawn0.step)⟩
 }
 {
 replace c8 := Bool.eq_false_iff.mpr c8
 subst c8
 rw [if_neg (show ¬ (false = true) by decide)] at H
 have H' := ak H
 clear H
 go_wp2
 repeat (go_quiet (fail); try go_wp2)
 go_loopg [3] DN (fun kq v3 w' => ∃ (AA : Int), v3 = .int .i64 AA ∧ Aside0 (spec_l01Ok.l0 kq AA AE AB AK AF AH AI AM AL AG AJ AD AC = some r) ∧ Aside0 (kq ≤ DN) ∧ Aside0 (w'.heap[b0]? = some (.cells #[.int .i8 AE, .int .i8 AB, .int .u16 AK, .int .u16 AF, .int .u16 AH, .int .u16 AI, .int .u16 AM, .int .u16 AL, .int .u16 AG, .int .u16 AJ, .int .u16 AD, .int .u16 AC] 35 (0, 0))) ∧ Drawn0 w w')
 case atStart => exact ⟨(0), rfl, H', ⟨Nat.le_refl _⟩, ⟨(zK AO.out)⟩, by repeat (first | exact Drawn0.refl _ | apply Drawn0.step)⟩
 case round => (
 clear H'
 obtain ⟨AA, rfl, HA, Br, AO, ⟨m2, rfl⟩⟩ := hrel
 cases gk with
 | zero => exact absurd HA.out (by simp [spec_l01Ok.l0])
 | succ k2 => (
 have H := HA.out
 clear HA
 simp only [spec_l01Ok.l0] at H
 by_cases c9 : AA < 10
 {
 rw [if_pos c9] at H
 have As : decide (AA < 10) = true := decide_eq_true c9
 clear c9
 by_cases CU : 0 ≤ AA
 {
 rw [if_pos CU] at H
 have Ah : decide (0 ≤ AA) = true := decide_eq_true CU
 clear CU
 obtain ⟨u_, B0, H⟩ : ∃ u_ : Int, (#[.int .i8 AE, .int .i8 AB, .int .u16 AK, .int .u16 AF, .int .u16 AH, .int .u16 AI, .int .u16 AM, .int .u16 AL, .int .u16 AG, .int .u16 AJ, .int .u16 AD, .int .u16 AC] : Array Value)[2 + AA.toNat]? = some (.int .u16 u_) ∧ (if 0 ≤ (IntKind.u64.wrap (AE)) then (if (shr .u16 u_ (IntKind.u64.wrap (AE))) = 0 then (if AA ≥ (wrap64 (AB)) then (if u_ = 0 then (spec_l01Ok.l0 k2 (wrap64 (AA + 1)) AE AB AK AF AH AI AM AL AG AJ AD AC) else (some false)) else (spec_l01Ok.l0 k2 (wrap64 (AA + 1)) AE AB AK AF AH AI AM AL AG AJ AD AC)) else (some false)) else (none)) = some r := by
  by_cases e_ : AA = 0
  · rw [if_pos e_] at H; exact ⟨AK, by rw [e_]; rfl, by rw [e_] at H ⊢; exact H⟩
  rw [if_neg e_] at H
  by_cases e_ : AA = 1
  · rw [if_pos e_] at H; exact ⟨AF, by rw [e_]; rfl, by rw [e_] at H ⊢; exact H⟩
  rw [if_neg e_] at H
  by_cases e_ : AA = 2
  · rw [if_pos e_] at H; exact ⟨AH, by rw [e_]; rfl, by rw [e_] at H ⊢; exact H⟩
  rw [if_neg e_] at H
  by_cases e_ : AA = 3
  · rw [if_pos e_] at H; exact ⟨AI, by rw [e_]; rfl, by rw [e_] at H ⊢; exact H⟩
  rw [if_neg e_] at H
  by_cases e_ : AA = 4
  · rw [if_pos e_] at H; exact ⟨AM, by rw [e_]; rfl, by rw [e_] at H ⊢; exact H⟩
  rw [if_neg e_] at H
  by_cases e_ : AA = 5
  · rw [if_pos e_] at H; exact ⟨AL, by rw [e_]; rfl, by rw [e_] at H ⊢; exact H⟩
  rw [if_neg e_] at H
  by_cases e_ : AA = 6
  · rw [if_pos e_] at H; exact ⟨AG, by rw [e_]; rfl, by rw [e_] at H ⊢; exact H⟩
  rw [if_neg e_] at H
  by_cases e_ : AA = 7
  · rw [if_pos e_] at H; exact ⟨AJ, by rw [e_]; rfl, by rw [e_] at H ⊢; exact H⟩
  rw [if_neg e_] at H
  by_cases e_ : AA = 8
  · rw [if_pos e_] at H; exact ⟨AD, by rw [e_]; rfl, by rw [e_] at H ⊢; exact H⟩
  rw [if_neg e_] at H
  by_cases e_ : AA = 9
  · rw [if_pos e_] at H; exact ⟨AC, by rw [e_]; rfl, by rw [e_] at H ⊢; exact H⟩
  rw [if_neg e_] at H
  exact absurd H (by simp)
 have DP : 0 ≤ AA ∧ AA < 10 := ⟨of_decide_eq_true Ah, of_decide_eq_true As⟩
 have Ae : wrap64 (AA + 1) = AA + 1 := by unfold wrap64; omega
 obtain ⟨AS, AQ⟩ : ∃ j_ : Int, (IntKind.u64.wrap (AE)) = j_ := ⟨_, rfl⟩
 first | rw [AQ] at H | simp only [AQ] at H
 by_cases Aj : 0 ≤ (AS)
 {
 rw [if_pos Aj] at H
 have DI := eq_true Aj
 have DL : decide (0 ≤ (AS)) = true := decide_eq_true Aj
 clear Aj
 obtain ⟨AP, AN⟩ : ∃ j_ : Int, (shr .u16 u_ (AS)) = j_ := ⟨_, rfl⟩
 first | rw [AN] at H | simp only [AN] at H
 have C1 : (u_ / 2 ^ min (AS).toNat 16) = AP := AN
 have C0 : (AS) ≤ 16 → (u_ / 2 ^ (AS).toNat) = AP := shr_small AN
 by_cases AV : (AP) = 0
 {
 rw [if_pos AV] at H
 have Aq : ((AP) == 0) = true := beq_iff_eq.mpr AV
 have Ab : ((AP) != 0) = false := bne_eq_false_iff_eq.mpr AV
 clear AV
 by_cases AT : AA ≥ (wrap64 (AB))
 {
 rw [if_pos AT] at H
 have Aa : decide ((wrap64 (AB)) ≤ AA) = true := decide_eq_true AT
 (try (have Ap : decide ((IntKind.i64.wrap (AB)) ≤ AA) = true := by first | simpa only [i64_w, i32_w] using (show decide ((wrap64 (AB)) ≤ AA) = true from decide_eq_true AT) | simpa only [i64_w] using (show decide ((wrap64 (AB)) ≤ AA) = true from decide_eq_true AT)))
 clear AT
 by_cases AW : u_ = 0
 {
 rw [if_pos AW] at H
 have AY : (u_ == 0) = true := beq_iff_eq.mpr AW
 have Am : (u_ != 0) = false := bne_eq_false_iff_eq.mpr AW
 clear AW
 have H' := ak H
 clear H
 obtain ⟨Bu, Bv, Bz, A8, CQ, B9, CF, CK, CV, BB, Ag, An, BO, A0, BF, BQ, Bi, A4, Az, CJ, BJ, CP, Ax, Au⟩ := cz12 w AO
 have AU : w.cell? ⟨b0, 2 + AA.toNat, none⟩ = some (.int .u16 u_) := (blk_cell AO.out (2 + AA.toNat)).trans B0
 go_wp2
 repeat (go_quiet (fail); try go_wp2)
 go_roundg k2
 case measure => have := BE.out; have := Br.out; omega
 case rel => exact ⟨(wrap64 (AA + 1)), (by rw [Ae]), H', ⟨by have := BE.out; have := Br.out; omega⟩, ⟨(zK AO.out)⟩, by repeat (first | exact Drawn0.refl _ | apply Drawn0.step)⟩
 }
 {
 rw [if_neg AW] at H
 have AY : (u_ == 0) = false := beq_eq_false_iff_ne.mpr AW
 have Am : (u_ != 0) = true := bne_iff_ne.mpr AW
 obtain rfl := Option.some.inj H
 obtain ⟨CT, Bl, Bo, Be, BR, By, BK, CI, BG, CO, Av, AZ, CC, Bk, Bj, CZ, CA, Bd, CG, BM, A6, BY, Al, At⟩ := cz12 w AO
 have AU : w.cell? ⟨b0, 2 + AA.toNat, none⟩ = some (.int .u16 u_) := (blk_cell AO.out (2 + AA.toNat)).trans B0
 go_wp2
 repeat (go_quiet (fail); try go_wp2)
 go_ret
 exact ⟨by first | rfl | (simp; done) | (simp only [← AQ, ← AN] <;> (first | rfl | simp)) | (simp [*]; done), by repeat (first | exact Drawn0.refl _ | apply Drawn0.step)⟩
 }
 }
 {
 rw [if_neg AT] at H
 have Aa : decide ((wrap64 (AB)) ≤ AA) = false := decide_eq_false AT
 (try (have Ap : decide ((IntKind.i64.wrap (AB)) ≤ AA) = false := by first | simpa only [i64_w, i32_w] using (show decide ((wrap64 (AB)) ≤ AA) = false from decide_eq_false AT) | simpa only [i64_w] using (show decide ((wrap64 (AB)) ≤ AA) = false from decide_eq_false AT)))
 clear AT
 have H' := ak H
 clear H
 obtain ⟨BL, A7, BX, BW, CH, Bt, Bf, BU, CW, CL, Ar, Ai, BN, Bb, B8, CX, BS, A9, CR, A2, CE, Bg, Ac, Aw⟩ := cz12 w AO
 have AU : w.cell? ⟨b0, 2 + AA.toNat, none⟩ = some (.int .u16 u_) := (blk_cell AO.out (2 + AA.toNat)).trans B0
 go_wp2
 repeat (go_quiet (fail); try go_wp2)
 go_roundg k2
 case measure => have := BE.out; have := Br.out; omega
 case rel => exact ⟨(wrap64 (AA + 1)), (by rw [Ae]), H', ⟨by have := BE.out; have := Br.out; omega⟩, ⟨(zK AO.out)⟩, by repeat (first | exact Drawn0.refl _ | apply Drawn0.step)⟩
 }
 }
 {
 rw [if_neg AV] at H
 have Aq : ((AP) == 0) = false := beq_eq_false_iff_ne.mpr AV
 have Ab : ((AP) != 0) = true := bne_iff_ne.mpr AV
 obtain rfl := Option.some.inj H
 obtain ⟨Bc, Bn, A1, Bm, BD, Bh, BA, Bq, CY, Bw, Ao, AX, BZ, BH, Bs, CB, CS, BC, Bx, Ay, BI, Bp, Ak, Af⟩ := cz12 w AO
 have AU : w.cell? ⟨b0, 2 + AA.toNat, none⟩ = some (.int .u16 u_) := (blk_cell AO.out (2 + AA.toNat)).trans B0
 go_wp2
 repeat (go_quiet (fail); try go_wp2)
 go_ret
 exact ⟨by first | rfl | (simp; done) | (simp only [← AQ, ← AN] <;> (first | rfl | simp)) | (simp [*]; done), by repeat (first | exact Drawn0.refl _ | apply Drawn0.step)⟩
 }
 }
 · rw [if_neg Aj] at H; exact absurd H (by simp)
 }
 · rw [if_neg CU] at H; exact absurd H (by simp)
 }
 {
 rw [if_neg c9] at H
 have As : decide (AA < 10) = false := decide_eq_false c9
 clear c9
 obtain rfl := Option.some.inj H
 go_wp2
 repeat (go_quiet (fail); try go_wp2)
 go_ret
 exact ⟨by first | rfl | (simp; done) | (simp [*]; done), by repeat (first | exact Drawn0.refl _ | apply Drawn0.step)⟩
 }
 )
 )
 }
 )
 )
end Go.Proofs.Ytooidjdgfoioiaa.P
