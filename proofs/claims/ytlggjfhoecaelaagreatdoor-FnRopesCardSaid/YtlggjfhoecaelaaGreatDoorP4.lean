-- Printed by wip/print (my turned copy of the kit's print) out of the translation; Lean checks it.
import Derived.Test.YtlggjfhoecaelaaGreatDoorP0
import Derived.Test.YtlggjfhoecaelaaGreatDoorP3
namespace Go.Proofs.YtlggjfhoecaelaaGreatDoor.P
open Go.RowKit Go.Proofs.YtlggjfhoecaelaaGreatDoorW.PrintWords Go.Proofs.YtlggjfhoecaelaaGreatDoorW.PrintLast Go.Proofs.YtlggjfhoecaelaaGreatDoorW.PrintMore
attribute [local go_sem] max2_int min2_int max_two min_two max_three min_three max_four min_four   -- for this text's walks alone
set_option linter.unusedVariables false
set_option linter.unusedSimpArgs false

/-! ### impl_SpacingsOf: function 9 -/
def impl_SpacingsOf.l0 : Nat → List Int → Int → Int → List Int → Option (List Int × Int)
  | 0, _, _, _, _ => none
  | k + 1, x4, x5, AB, AA => if x5 < (AA.length : Int) then (if 0 ≤ x5 then (if 0 ≤ (wrap64 (x5 - 1)) then (if (wrap64 (x5 - 1)) < (AA.length : Int) then (if x4.length < 17592186044416 then (impl_SpacingsOf.l0 k (x4 ++ [wrap64 (IntKind.i16.wrap ((rd AA x5) - (rd AA (wrap64 (x5 - 1)))))]) (wrap64 (x5 + 1)) AB AA) else (none)) else (none)) else (none)) else (none)) else (some (x4, 0))
def impl_SpacingsOf.f (k : Nat) (AA : Int) (AB : List Int) : Option (List Int × Int) := (impl_ValidRope.f k AA AB).bind fun AC => (if AC = true then (impl_SpacingsOf.l0 k (([] : List Int)) 1 AA AB) else (some (([] : List Int), 1)))
def impl_SpacingsOf.T7 : Bool × List (List Nat × List Nat) := (true, [([], []), ([], []), ([1], [1]), ([], []), ([2, 3], [2, 3]), ([4], [4]), ([], []), ([6], [6]), ([], []), ([8], [8]), ([7, 9], [7, 9]), ([10], [10]), ([5, 11], [5, 11]), ([12], [12]), ([13], [13]), ([0, 14], [0, 14]), ([15, 15, 0, 1, 2, 3, 4, 5, 6, 7, 8, 9, 10, 11, 12, 13, 14, 15], [0, 15])])
def impl_SpacingsOf.B7 : List Nat := [0, 0, 2, 0, 14, 30, 0, 64, 0, 256, 960, 1984, 4094, 8190, 16382, 32767, 65535]
theorem impl_SpacingsOf.tab7 : rtab .any (opsOf Tryz.f9 7) = impl_SpacingsOf.T7 := by kernel_rfl
theorem impl_SpacingsOf.bits7 : waitsOk impl_SpacingsOf.T7.2 impl_SpacingsOf.B7 = true := by kernel_rfl
set_option maxHeartbeats 8000000 in
set_option maxRecDepth 100000 in
theorem impl_SpacingsOf.calls (k : Nat) (AG : Int) (AM : Option Addr) (AL : Nat) (AB : List Int) (r1 : List Int) (r2 : Int) (w : World) (AV : Kd.C (Kd.int .i16) w AM AB.length AB) (AW : AB.length ≤ AL) (h : impl_SpacingsOf.f k AG AB = some (r1, r2)) :
    Calls Tryz.prog 9 #[.agg #[.int .i16 AG, .slice AM AB.length AL]] w fun e w' => ∃ v0_ : Value, e = .returned (.tuple #[v0_, .int .i64 r2]) ∧ Kd.R (Kd.int .i64) 2 w' w.heap.size (fun _ => True) v0_ r1 ∧ Below w.heap.size w w' := by
 have BM := Tryz.underlying27
 have AR := ak AV
 have AX := ak AW
 clear AV AW
 have HB := ak (Below.refl w.heap.size w)
 have H := h
 unfold impl_SpacingsOf.f at H
 clear h
 replace H := Option.bind_eq_some_iff.mp H
 obtain ⟨A9, BD, H⟩ := H
 have A2 := ak BD
 clear BD
 by_cases c3 : A9 = true
 {
 subst c3
 rw [if_pos rfl] at H
 obtain ⟨An, AP⟩ : ∃ y_ : List Int, y_ = (([] : List Int)) := ⟨_, rfl⟩
 replace H : (impl_SpacingsOf.l0 k An 1 AG AB) = some (r1, r2) := by first | (rw [AP]; with_reducible exact H) | (have AY := (Option.bind_some _ _).symm.trans H; rw [AP]; with_reducible exact AY) | (have AY := (Option.bind_some _ _).symm.trans H; with_reducible exact AY) | with_reducible exact H | (rw [AP]; exact H) | exact H
 have AU := ak AP
 clear AP
 have H' := ak H
 clear H
 go_enter Tryz.func9, Tryz.ntmps9
 go_wp2_with (first | ((with_reducible refine gate_dst (N := 1) rfl ?_); refine box_event ?hg (N := 1) ?hd (cs := #[.int .i16 AG, .slice AM AB.length AL]) (t := 27) ?hr ?_; (case hd => rfl); (case hg => rfl); (case hr => first | (go_simp; done) | (go_simp; rfl)); intro AJ hg w4 hbox hb; have AA := ak (hbox); have Am := gS HB hg; have AF := gS HB hg; replace HB := kB HB hb; clear hb hbox hg; obtain ⟨Ac, Aa, Ag, Af⟩ := cz2 w4 AA) | ((with_reducible refine gate_callee (f := 13) rfl ?_); refine goesL_ (some 7) rfl rfl Tryz.func13 (by kernel_rfl) rfl #[.agg #[.int .i16 AG, .slice AM AB.length AL]] rfl gl_ ?_; (with_reducible refine (impl_ValidRope.calls k AG _ _ AB true _ ?side1 ?side2 A2.out).mono ?_); (case side1 => exact sQ (Kd.C_below AR.out HB.out)); (case side2 => exact AX.out); rintro e w6 ⟨rfl, hb⟩; refine ⟨_, rfl, ?_⟩; replace AA := kK AA hb; replace HB := kB1 HB AF hb; (try clear hb)) | ((with_reducible refine gate_dst (N := 9) rfl ?_); refine Kd.R_lit (Kd.int .i64) _ 2 ?hg (N := 9) ?hd (xs := ([] : List Int)) (inner := []) (ok := fun _ => True) (okp := fun _ => True) ?hr ?hp (fun _ hk => hk) trivial (Below.refl _ _) (Nat.le_refl _) (by simp) ?_; (case hd => rfl); (case hg => rfl); (case hr => first | (go_simp; done) | (go_simp; rfl)); (case hp => exact (Reps.none _ _)); intro BK w7 Aq hb BJ Al; clear BJ Al; (first | rw [← AU.out] at Aq | (simp only [Int.reduceToNat] at Aq; rw [← AU.out] at Aq)); have Aj := ak (Kd.R_lower Aq (below_size (zBG HB.out AF.out))); replace AA := kK AA hb; replace HB := kB1 HB AF hb; clear hb Aq))
 go_loopg [4, 5] k (fun kq v4 v5 w' => ∃ (AS : List Int) (AE : Int), v5 = .int .i64 AE ∧ Aside0 (impl_SpacingsOf.l0 kq AS AE AG AB = some (r1, r2)) ∧ Aside0 (kq ≤ k) ∧ Aside0 (Kd.R (Kd.int .i64) 2 w' w.heap.size (fun _ => True) v4 AS) ∧ Aside0 (w'.heap[AJ]? = some (.cells #[.int .i16 AG, (.slice AM AB.length AL)] 27 (0, 0))) ∧ Aside0 (Below w.heap.size w w'))
 case atStart => exact ⟨(An), (1), rfl, H', ⟨Nat.le_refl _⟩, ⟨(zR Aj.out)⟩, ⟨(zK AA.out)⟩, ⟨zBG HB.out AF.out⟩⟩
 case round => (
 clear H'
 obtain ⟨AS, AE, rfl, HA, BG, AQ, AA, HB⟩ := hrel
 cases gk with
 | zero => exact absurd HA.out (by simp [impl_SpacingsOf.l0])
 | succ k1 => (
 have H := HA.out
 clear HA
 simp only [impl_SpacingsOf.l0] at H
 by_cases c9 : AE < (AB.length : Int)
 {
 rw [if_pos c9] at H
 have BB : decide (AE < (AB.length : Int)) = true := decide_eq_true c9
 clear c9
 by_cases Av : 0 ≤ AE
 {
 rw [if_pos Av] at H
 have BF : decide (0 ≤ AE) = true := decide_eq_true Av
 clear Av
 obtain ⟨AK, AT⟩ : ∃ j_ : Int, (wrap64 (AE - 1)) = j_ := ⟨_, rfl⟩
 first | rw [AT] at H | simp only [AT] at H
 have BC : (IntKind.i64.wrap (AE - 1)) = AK := (i64_w _).trans AT
 by_cases As : 0 ≤ (AK)
 {
 rw [if_pos As] at H
 have BE : decide (0 ≤ (AK)) = true := decide_eq_true As
 clear As
 by_cases A5 : (AK) < (AB.length : Int)
 {
 rw [if_pos A5] at H
 have BH : decide ((AK) < (AB.length : Int)) = true := decide_eq_true A5
 clear A5
 by_cases Ax : AS.length < 17592186044416
 {
 rw [if_pos Ax] at H
 have Ah := ak Ax
 clear Ax
 obtain ⟨Ai, AO⟩ : ∃ y_ : List Int, y_ = (AS ++ [wrap64 (IntKind.i16.wrap ((rd AB AE) - (rd AB (AK))))]) := ⟨_, rfl⟩
 replace H : (impl_SpacingsOf.l0 k1 Ai (wrap64 (AE + 1)) AG AB) = some (r1, r2) := by first | (rw [AO]; with_reducible exact H) | (have AY := (Option.bind_some _ _).symm.trans H; rw [AO]; with_reducible exact AY) | (have AY := (Option.bind_some _ _).symm.trans H; with_reducible exact AY) | with_reducible exact H | (rw [AO]; exact H) | exact H
 have Ak := ak AO
 clear AO
 have H' := ak H
 clear H
 have Ay : wr.cell? ⟨AJ, 0, none⟩ = some (.int .i16 AG) := (blk_cell AA.out 0).trans rfl
 have Az : wr.cell? ⟨AJ, 1, none⟩ = some (.slice AM AB.length AL) := (blk_cell AA.out 1).trans rfl
 have A4 := blk_frozen AA.out 0
 have A6 := blk_frozen AA.out 1
 try go_wp2
 replace AQ := ak (Kd.R_drew AQ.out)
 replace AA := ak (blk_drew AA.out)
 replace HB := ak (below_drew1 HB.out)
 have AZ : 0 ≤ (AE : Int) := of_decide_eq_true (by assumption)
 have Ae : AE < (AB.length : Int) := of_decide_eq_true (by assumption)
 obtain ⟨AN, BA, AI⟩ := Kd.at_int AR.out AE AZ Ae
 have AD := AI
 cases BA
 replace AI := (HB.out.cell (World.block_lt_of_cell? w _ AI)).trans AI
 replace AZ := eq_true AZ
 replace Ae := eq_true Ae
 have Ab : 0 ≤ ((AK) : Int) := of_decide_eq_true (by assumption)
 have Ad : (AK) < (AB.length : Int) := of_decide_eq_true (by assumption)
 obtain ⟨Ap, A8, AH⟩ := Kd.at_int AR.out (AK) Ab Ad
 have AC := AH
 obtain rfl : AN = Ap := (by injection A8)
 replace AH := (HB.out.cell (World.block_lt_of_cell? w _ AH)).trans AH
 replace Ab := eq_true Ab
 replace Ad := eq_true Ad
 refine start_ (n := 17) (S := fun w' => w'.cell? ⟨AJ, 0, none⟩ = some (.int .i16 AG) ∧ w'.cell? ⟨AJ, 1, none⟩ = some (.slice (some AN) AB.length AL) ∧ w'.cell? (AN.add (AE).toNat) = some (.int .i16 (rd AB AE)) ∧ w'.cell? (AN.add ((AK)).toNat) = some (.int .i16 (rd AB (AK)))) (ds := []) (bA 17 0) (by kernel_rfl) rfl rfl ⟨(blk_cell AA.out 0).trans rfl, (blk_cell AA.out 1).trans rfl, ((HB.out.cell (World.block_lt_of_cell? w _ AD)).trans AD), ((HB.out.cell (World.block_lt_of_cell? w _ AC)).trans AC)⟩ (fun hHeld => ?_); refine with_tabW impl_SpacingsOf.tab7 impl_SpacingsOf.bits7 (fun HT_ HW_ => ?_)
 generalize wr.drew = BP at AQ AA HB AI AH hHeld ⊢
 refine pU 0 17 (bA 17 1) HT_ ?_
 refine pU 1 18 (bA 17 3) HT_ ?_
 refine pU 3 20 (bA 17 11) HT_ ?_
 refine pU 6 23 (bA 17 75) HT_ ?_
 refine pU 8 25 (bA 17 331) HT_ ?_
 refine pU 9 26 (bA 17 843) HT_ ?_
 refine tK 2 19 (bA 17 847) HT_ HW_ hHeld ?_
 refine pU 4 21 (bA 17 863) HT_ ?_
 refine tK 5 22 (bA 17 895) HT_ HW_ hHeld ?_
 refine tK 7 24 (bA 17 1023) HT_ HW_ hHeld ?_
 refine pU 10 27 (bA 17 2047) HT_ ?_
 refine tK 11 28 (bA 17 4095) HT_ HW_ hHeld ?_
 refine pU 12 29 (bA 17 8191) HT_ ?_
 refine pU 13 30 (bA 17 16383) HT_ ?_
 refine one_ (i := 14) (N := some 31) (bA 17 32767) rfl rfl (one_of HT_.out (by kernel_rfl)) (by decide) (fun K hK => ?_)
 refine value_ (w1 := ?_) (v := ?_) (by rfl) rfl ?_ ?_
 rotate_left 2
 {
 go_simp
 constructor
 · rfl
 · rfl
 }
 refine hK.out _ _ ⟨(blk_cell (blk_alloc AA.out _) 0).trans rfl, (blk_cell (blk_alloc AA.out _) 1).trans rfl, (World.cell?_alloc_lt _ _ _ (World.block_lt_of_cell? _ _ (((HB.out.cell (World.block_lt_of_cell? w _ AD)).trans AD)))).trans (((HB.out.cell (World.block_lt_of_cell? w _ AD)).trans AD)), (World.cell?_alloc_lt _ _ _ (World.block_lt_of_cell? _ _ (((HB.out.cell (World.block_lt_of_cell? w _ AC)).trans AC)))).trans (((HB.out.cell (World.block_lt_of_cell? w _ AC)).trans AC))⟩ (fun hHeld => ?_)
 clear hK K
 refine norm_ (a' := ?_) ?_ ?_
 rotate_left
 {
 show Act.put _ (some 31) _ = _
 simp only [Act.put, zs, zz, zk, i64_w, i32_w]
 rfl
 }
 refine one_ (i := 15) (N := some 32) (bA 17 65535) rfl rfl (one_of HT_.out (by kernel_rfl)) (by decide) (fun K hK => ?_)
 refine Kd.R_append_step (Kd.int .i64) (w0 := w) w.heap.size (by rfl) (.tmp 17) (.tmp 31) 34 2 (.int .i64 0) 8 rfl Tryz.underlying34 info2 rfl (by decide) (by omega) u4 AS (wrap64 (IntKind.i16.wrap ((rd AB AE) - (rd AB (AK))))) [.int .i64 (wrap64 (IntKind.i16.wrap ((rd AB AE) - (rd AB (AK)))))] (fun _ => True) (fun _ => False) rfl rfl ?aP (fun _ hk => hk.elim) ?aF ?aO ?aB ?aS ?aL ?_
 (case aP => exact rfl)
 (case aB => exact (zBG HB.out AF.out))
 (case aF => exact (fun _ _ => trivial))
 (case aO => exact (zR AQ.out))
 (case aS => exact (below_size (zBG HB.out AF.out)))
 (case aL => have := Ah.out; omega)
 intro BL BO ho hb hg hat
 rw [← Ak.out] at ho
 have Ao := ak (ho)
 replace AA := ak (blk_grown (g := AJ) (o := .cells #[.int .i16 AG, .slice (some AN) AB.length AL] 27 (0, 0)) (zK AA.out) hg (Kd.R_ne AQ.out AA.out (by decide)))
 replace HB := ak (hb)
 clear AQ
 refine hK.out _ _ ⟨(blk_cell AA.out 0).trans rfl, (blk_cell AA.out 1).trans rfl, ((HB.out.cell (World.block_lt_of_cell? w _ AD)).trans AD), ((HB.out.cell (World.block_lt_of_cell? w _ AC)).trans AC)⟩ (fun hHeld => ?_)
 clear hK K
 refine norm_ (a' := ?_) ?_ ?_
 rotate_left
 {
 show Act.put _ (some 32) _ = _
 simp only [Act.put, zs, zz, zk, i64_w, i32_w]
 rfl
 }
 refine pU 16 4 (bA 17 131071) HT_ ?_
 refine done_ (done_of HT_.out (by kernel_rfl)) ?_
 try go_wp2
 go_roundg k1
 case measure => have := BG.out; omega
 case rel => exact ⟨(Ai), (wrap64 (AE + 1)), rfl, H', ⟨by have := BG.out; omega⟩, ⟨(zR Ao.out)⟩, ⟨(zK AA.out)⟩, ⟨zBG HB.out AF.out⟩⟩
 }
 · rw [if_neg Ax] at H; exact absurd H (by simp)
 }
 · rw [if_neg A5] at H; exact absurd H (by simp)
 }
 · rw [if_neg As] at H; exact absurd H (by simp)
 }
 · rw [if_neg Av] at H; exact absurd H (by simp)
 }
 {
 rw [if_neg c9] at H
 have BB : decide (AE < (AB.length : Int)) = false := decide_eq_false c9
 clear c9
 simp only [Option.some.injEq, Prod.mk.injEq] at H
 obtain ⟨rfl, rfl⟩ := H
 have Aw : wr.cell? ⟨AJ, 0, none⟩ = some (.int .i16 AG) := (blk_cell AA.out 0).trans rfl
 have A0 : wr.cell? ⟨AJ, 1, none⟩ = some (.slice AM AB.length AL) := (blk_cell AA.out 1).trans rfl
 have A3 := blk_frozen AA.out 0
 have A1 := blk_frozen AA.out 1
 go_wp2
 go_ret2
 exact ⟨_, rfl, AQ.out, zBG HB.out AF.out⟩
 }
 )
 )
 }
 {
 replace c3 := Bool.eq_false_iff.mpr c3
 subst c3
 rw [if_neg (show ¬ (false = true) by decide)] at H
 simp only [Option.some.injEq, Prod.mk.injEq] at H
 obtain ⟨rfl, rfl⟩ := H
 go_enter Tryz.func9, Tryz.ntmps9
 go_wp2_with (first | ((with_reducible refine gate_dst (N := 1) rfl ?_); refine box_event ?hg (N := 1) ?hd (cs := #[.int .i16 AG, .slice AM AB.length AL]) (t := 27) ?hr ?_; (case hd => rfl); (case hg => rfl); (case hr => first | (go_simp; done) | (go_simp; rfl)); intro AJ hg BI hbox hb; have AA := ak (hbox); have Am := gS HB hg; have AF := gS HB hg; replace HB := kB HB hb; clear hb hbox hg; obtain ⟨At, A7, Au, Ar⟩ := cz2 BI AA) | ((with_reducible refine gate_callee (f := 13) rfl ?_); refine goesL_ (some 7) rfl rfl Tryz.func13 (by kernel_rfl) rfl #[.agg #[.int .i16 AG, .slice AM AB.length AL]] rfl gl_ ?_; (with_reducible refine (impl_ValidRope.calls k AG _ _ AB false _ ?side1 ?side2 A2.out).mono ?_); (case side1 => exact sQ (Kd.C_below AR.out HB.out)); (case side2 => exact AX.out); rintro e BN ⟨rfl, hb⟩; refine ⟨_, rfl, ?_⟩; replace AA := kK AA hb; replace HB := kB1 HB AF hb; (try clear hb)))
 go_ret2
 exact ⟨_, rfl, by first | exact Kd.R_nil _ _ _ _ _ | exact Kd.N_nil _ _ _ _ _ | exact Kd.V_nil _ _ _ _ _ | exact Kd.Q_nil _ _ _ _ _ | exact Kd.S_nil _ _ _ _ _, zBG HB.out AF.out⟩
 }
/-! ### spec_l00In: function 48 -/
def spec_l00In.f (a0 : Int) (a1 : Int) (a2 : Int) : Option (Bool) := if a0 ≥ a1 then (some (decide (a0 ≤ a2))) else (some false)
set_option maxHeartbeats 8000000 in
set_option maxRecDepth 100000 in
theorem spec_l00In.calls (a0 : Int) (a1 : Int) (a2 : Int) (r : Bool) (w : World) (h : spec_l00In.f a0 a1 a2 = some r) :
    Calls Tryz.prog 48 #[.int .i64 a0, .int .i64 a1, .int .i64 a2] w fun e w' => e = .returned (.bool r) ∧ Drawn0 w w' := by
 have H := h
 unfold spec_l00In.f at H
 clear h
 by_cases c4 : a0 ≥ a1
 {
 rw [if_pos c4] at H
 have AA : decide (a1 ≤ a0) = true := decide_eq_true c4
 clear c4
 obtain rfl := Option.some.inj H
 go_enter Tryz.func48, Tryz.ntmps48
 go_wp2
 go_ret
 exact ⟨by first | rfl | (simp; done) | (simp [*]; done), by repeat (first | exact Drawn0.refl _ | apply Drawn0.step)⟩
 }
 {
 rw [if_neg c4] at H
 have AA : decide (a1 ≤ a0) = false := decide_eq_false c4
 clear c4
 obtain rfl := Option.some.inj H
 go_enter Tryz.func48, Tryz.ntmps48
 go_wp2
 go_ret
 exact ⟨by first | rfl | (simp; done) | (simp [*]; done), by repeat (first | exact Drawn0.refl _ | apply Drawn0.step)⟩
 }
end Go.Proofs.YtlggjfhoecaelaaGreatDoor.P
