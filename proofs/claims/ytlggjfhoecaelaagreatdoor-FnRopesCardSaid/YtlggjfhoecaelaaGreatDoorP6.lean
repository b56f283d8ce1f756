-- Printed by wip/print (my turned copy of the kit's print) out of the translation; Lean checks it.
import Derived.Test.YtlggjfhoecaelaaGreatDoorP0
import Derived.Test.YtlggjfhoecaelaaGreatDoorP5
namespace Go.Proofs.YtlggjfhoecaelaaGreatDoor.P
open Go.RowKit Go.Proofs.YtlggjfhoecaelaaGreatDoorW.PrintWords Go.Proofs.YtlggjfhoecaelaaGreatDoorW.PrintLast Go.Proofs.YtlggjfhoecaelaaGreatDoorW.PrintMore
attribute [local go_sem] max2_int min2_int max_two min_two max_three min_three max_four min_four   -- for this text's walks alone
set_option linter.unusedVariables false
set_option linter.unusedSimpArgs false

/-! ### spec_SpacingsOf: function 10 -/
def spec_SpacingsOf.l0 : Nat → List Int → Int → Int → List Int → Option (List Int × Int)
  | 0, _, _, _, _ => none
  | k + 1, x4, x5, AB, AA => if x5 < (AA.length : Int) then (if 0 ≤ x5 then (if 0 ≤ (wrap64 (x5 - 1)) then (if (wrap64 (x5 - 1)) < (AA.length : Int) then (if x4.length < 17592186044416 then (spec_SpacingsOf.l0 k (x4 ++ [wrap64 ((wrap64 (rd AA x5)) - (wrap64 (rd AA (wrap64 (x5 - 1)))))]) (wrap64 (x5 + 1)) AB AA) else (none)) else (none)) else (none)) else (none)) else (some (x4, 0))
def spec_SpacingsOf.f (k : Nat) (AB : Int) (AA : List Int) : Option (List Int × Int) := (some (([] : List Int) : List Int)).bind fun AC => ((spec_l03Ok.f k AB AA).bind fun AD => (if AD = true then (spec_SpacingsOf.l0 k AC 1 AB AA) else (some (AC, 1))))
def spec_SpacingsOf.T7 : Bool × List (List Nat × List Nat) := (true, [([], []), ([], []), ([1], [1]), ([], []), ([2, 3], [2, 3]), ([4], [4]), ([5], [5]), ([], []), ([7], [7]), ([], []), ([9], [9]), ([8, 10], [8, 10]), ([11], [11]), ([12], [12]), ([6, 13], [6, 13]), ([14], [14]), ([0, 15], [0, 15]), ([16, 16, 0, 1, 2, 3, 4, 5, 6, 7, 8, 9, 10, 11, 12, 13, 14, 15, 16], [0, 16])])
def spec_SpacingsOf.B7 : List Nat := [0, 0, 2, 0, 14, 30, 62, 0, 128, 0, 512, 1920, 3968, 8064, 16382, 32766, 65535, 131071]
theorem spec_SpacingsOf.tab7 : rtab .any (opsOf Tryz.f10 7) = spec_SpacingsOf.T7 := by kernel_rfl
theorem spec_SpacingsOf.bits7 : waitsOk spec_SpacingsOf.T7.2 spec_SpacingsOf.B7 = true := by kernel_rfl
set_option maxHeartbeats 8000000 in
set_option maxRecDepth 100000 in
theorem spec_SpacingsOf.calls (k : Nat) (AH : Int) (AN : Option Addr) (AL : Nat) (AB : List Int) (r1 : List Int) (r2 : Int) (w : World) (AY : Kd.C (Kd.int .i16) w AN AB.length AB) (AZ : AB.length ≤ AL) (h : spec_SpacingsOf.f k AH AB = some (r1, r2)) :
    Calls Tryz.prog 10 #[.agg #[.int .i16 AH, .slice AN AB.length AL]] w fun e w' => ∃ v0_ : Value, e = .returned (.tuple #[v0_, .int .i64 r2]) ∧ Kd.R (Kd.int .i64) 2 w' w.heap.size (fun _ => True) v0_ r1 ∧ Below w.heap.size w w' := by
 have BD := Tryz.underlying27
 have AT := ak AY
 have Aa := ak AZ
 clear AY AZ
 have HB := ak (Below.refl w.heap.size w)
 have H := h
 unfold spec_SpacingsOf.f at H
 clear h
 obtain ⟨Ac, AO⟩ : ∃ y_ : List Int, y_ = (([] : List Int)) := ⟨_, rfl⟩
 replace H : ((spec_l03Ok.f k AH AB).bind fun Ah => (if Ah = true then (spec_SpacingsOf.l0 k Ac 1 AH AB) else (some (Ac, 1)))) = some (r1, r2) := by first | (rw [AO]; with_reducible exact H) | (have Ad := (Option.bind_some _ _).symm.trans H; rw [AO]; with_reducible exact Ad) | (have Ad := (Option.bind_some _ _).symm.trans H; with_reducible exact Ad) | with_reducible exact H | (rw [AO]; exact H) | exact H
 have AS := ak AO
 clear AO
 replace H := Option.bind_eq_some_iff.mp H
 obtain ⟨Ah, A8, H⟩ := H
 have A2 := ak A8
 clear A8
 by_cases c3 : Ah = true
 {
 subst c3
 rw [if_pos rfl] at H
 have H' := ak H
 clear H
 go_enter Tryz.func10, Tryz.ntmps10
 go_wp2_with (first | ((with_reducible refine gate_dst (N := 1) rfl ?_); refine box_event ?hg (N := 1) ?hd (cs := #[.int .i16 AH, .slice AN AB.length AL]) (t := 27) ?hr ?_; (case hd => rfl); (case hg => rfl); (case hr => first | (go_simp; done) | (go_simp; rfl)); intro AF hg w4 hbox hb; have AA := ak (hbox); have Ak := gS HB hg; have AE := gS HB hg; replace HB := kB HB hb; clear hb hbox hg) | ((with_reducible refine gate_dst (N := 6) rfl ?_); refine Kd.R_lit (Kd.int .i64) _ 2 ?hg (N := 6) ?hd (xs := ([] : List Int)) (inner := []) (ok := fun _ => True) (okp := fun _ => True) ?hr ?hp (fun _ hk => hk) trivial (Below.refl _ _) (Nat.le_refl _) (by simp) ?_; (case hd => rfl); (case hg => rfl); (case hr => first | (go_simp; done) | (go_simp; rfl)); (case hp => exact (Reps.none _ _)); intro A1 w5 Al hb A6 AW; clear A6 AW; (first | rw [← AS.out] at Al | (simp only [Int.reduceToNat] at Al; rw [← AS.out] at Al)); have AM := ak (Kd.R_lower Al (below_size (zBG HB.out AE.out))); replace AA := kK AA hb; replace HB := kB1 HB AE hb; clear hb Al) | ((with_reducible refine gate_callee (f := 39) rfl ?_); refine goesL_ (some 7) rfl rfl Tryz.func39 (by kernel_rfl) rfl #[.pointer (some ⟨AF, 0, none⟩)] rfl gl_ ?_; (with_reducible refine (spec_l03Ok.calls k AF AH AN AL AB true _ ?side1 ?side2 ?side3 A2.out).mono ?_); (case side1 => exact sQ (Kd.C_below AT.out HB.out)); (case side2 => exact Aa.out); (case side3 => exact (zK AA.out)); rintro e w7 ⟨rfl, hb⟩; refine ⟨_, rfl, ?_⟩; replace AM := kR AM hb; replace AA := kK AA hb; replace HB := kB1 HB AE hb; (try clear hb)))
 go_loopg [4, 5] k (fun kq v4 v5 w' => ∃ (AU : List Int) (AG : Int), v5 = .int .i64 AG ∧ Aside0 (spec_SpacingsOf.l0 kq AU AG AH AB = some (r1, r2)) ∧ Aside0 (kq ≤ k) ∧ Aside0 (Kd.R (Kd.int .i64) 2 w' w.heap.size (fun _ => True) v4 AU) ∧ Aside0 (w'.heap[AF]? = some (.cells #[.int .i16 AH, (.slice AN AB.length AL)] 27 (0, 0))) ∧ Aside0 (Below w.heap.size w w'))
 case atStart => exact ⟨(Ac), (1), rfl, H', ⟨Nat.le_refl _⟩, ⟨(zR AM.out)⟩, ⟨(zK AA.out)⟩, ⟨zBG HB.out AE.out⟩⟩
 case round => (
 clear H'
 obtain ⟨AU, AG, rfl, HA, BA, AR, AA, HB⟩ := hrel
 cases gk with
 | zero => exact absurd HA.out (by simp [spec_SpacingsOf.l0])
 | succ k1 => (
 have H := HA.out
 clear HA
 simp only [spec_SpacingsOf.l0] at H
 by_cases c8 : AG < (AB.length : Int)
 {
 rw [if_pos c8] at H
 have A5 : decide (AG < (AB.length : Int)) = true := decide_eq_true c8
 clear c8
 by_cases c9 : 0 ≤ AG
 {
 rw [if_pos c9] at H
 have BC : decide (0 ≤ AG) = true := decide_eq_true c9
 clear c9
 obtain ⟨AK, AX⟩ : ∃ j_ : Int, (wrap64 (AG - 1)) = j_ := ⟨_, rfl⟩
 first | rw [AX] at H | simp only [AX] at H
 have A4 : (IntKind.i64.wrap (AG - 1)) = AK := (i64_w _).trans AX
 by_cases As : 0 ≤ (AK)
 {
 rw [if_pos As] at H
 have A7 : decide (0 ≤ (AK)) = true := decide_eq_true As
 clear As
 by_cases Ap : (AK) < (AB.length : Int)
 {
 rw [if_pos Ap] at H
 have A9 : decide ((AK) < (AB.length : Int)) = true := decide_eq_true Ap
 clear Ap
 by_cases Az : AU.length < 17592186044416
 {
 rw [if_pos Az] at H
 have An := ak Az
 clear Az
 obtain ⟨Am, AP⟩ : ∃ y_ : List Int, y_ = (AU ++ [wrap64 ((wrap64 (rd AB AG)) - (wrap64 (rd AB (AK))))]) := ⟨_, rfl⟩
 replace H : (spec_SpacingsOf.l0 k1 Am (wrap64 (AG + 1)) AH AB) = some (r1, r2) := by first | (rw [AP]; with_reducible exact H) | (have Ad := (Option.bind_some _ _).symm.trans H; rw [AP]; with_reducible exact Ad) | (have Ad := (Option.bind_some _ _).symm.trans H; with_reducible exact Ad) | with_reducible exact H | (rw [AP]; exact H) | exact H
 have Aj := ak AP
 clear AP
 have H' := ak H
 clear H
 have Av : wr.cell? ⟨AF, 0, none⟩ = some (.int .i16 AH) := (blk_cell AA.out 0).trans rfl
 have Au : wr.cell? ⟨AF, 1, none⟩ = some (.slice AN AB.length AL) := (blk_cell AA.out 1).trans rfl
 have Ar := blk_frozen AA.out 0
 have Aq := blk_frozen AA.out 1
 try go_wp2
 replace AR := ak (Kd.R_drew AR.out)
 replace AA := ak (blk_drew AA.out)
 replace HB := ak (below_drew1 HB.out)
 have Ae : 0 ≤ (AG : Int) := of_decide_eq_true (by assumption)
 have Af : AG < (AB.length : Int) := of_decide_eq_true (by assumption)
 obtain ⟨AQ, A3, AJ⟩ := Kd.at_int AT.out AG Ae Af
 have AD := AJ
 cases A3
 replace AJ := (HB.out.cell (World.block_lt_of_cell? w _ AJ)).trans AJ
 replace Ae := eq_true Ae
 replace Af := eq_true Af
 have Ab : 0 ≤ ((AK) : Int) := of_decide_eq_true (by assumption)
 have Ag : (AK) < (AB.length : Int) := of_decide_eq_true (by assumption)
 obtain ⟨Ai, A0, AI⟩ := Kd.at_int AT.out (AK) Ab Ag
 have AC := AI
 obtain rfl : AQ = Ai := (by injection A0)
 replace AI := (HB.out.cell (World.block_lt_of_cell? w _ AI)).trans AI
 replace Ab := eq_true Ab
 replace Ag := eq_true Ag
 refine start_ (n := 18) (S := fun w' => w'.cell? ⟨AF, 0, none⟩ = some (.int .i16 AH) ∧ w'.cell? ⟨AF, 1, none⟩ = some (.slice (some AQ) AB.length AL) ∧ w'.cell? (AQ.add (AG).toNat) = some (.int .i16 (rd AB AG)) ∧ w'.cell? (AQ.add ((AK)).toNat) = some (.int .i16 (rd AB (AK)))) (ds := []) (bA 18 0) (by kernel_rfl) rfl rfl ⟨(blk_cell AA.out 0).trans rfl, (blk_cell AA.out 1).trans rfl, ((HB.out.cell (World.block_lt_of_cell? w _ AD)).trans AD), ((HB.out.cell (World.block_lt_of_cell? w _ AC)).trans AC)⟩ (fun hHeld => ?_); refine with_tabW spec_SpacingsOf.tab7 spec_SpacingsOf.bits7 (fun HT_ HW_ => ?_)
 generalize wr.drew = BI at AR AA HB AJ AI hHeld ⊢
 refine pU 0 17 (bA 18 1) HT_ ?_
 refine pU 1 18 (bA 18 3) HT_ ?_
 refine pU 3 20 (bA 18 11) HT_ ?_
 refine pU 7 24 (bA 18 139) HT_ ?_
 refine pU 9 26 (bA 18 651) HT_ ?_
 refine pU 10 27 (bA 18 1675) HT_ ?_
 refine tK 2 19 (bA 18 1679) HT_ HW_ hHeld ?_
 refine pU 4 21 (bA 18 1695) HT_ ?_
 refine tK 5 22 (bA 18 1727) HT_ HW_ hHeld ?_
 refine pU 6 23 (bA 18 1791) HT_ ?_
 refine tK 8 25 (bA 18 2047) HT_ HW_ hHeld ?_
 refine pU 11 28 (bA 18 4095) HT_ ?_
 refine tK 12 29 (bA 18 8191) HT_ HW_ hHeld ?_
 refine pU 13 30 (bA 18 16383) HT_ ?_
 refine pU 14 31 (bA 18 32767) HT_ ?_
 refine one_ (i := 15) (N := some 32) (bA 18 65535) rfl rfl (one_of HT_.out (by kernel_rfl)) (by decide) (fun K hK => ?_)
 refine value_ (w1 := ?_) (v := ?_) (by rfl) rfl ?_ ?_
 rotate_left 2
 {
 go_simp
 constructor
 · rfl
 · rfl
 }
 refine hK.out _ _ ⟨(blk_cell (blk_alloc AA.out _) 0).trans rfl, (blk_cell (blk_alloc AA.out _) 1).trans rfl, (World.cell?_alloc_lt _ _ _ (World.block_lt_of_cell? _ _ (((HB.out.cell (World.block_lt_of_cell? w _ AD)).trans AD)))).trans (((HB.out.cell (World.block_lt_of_cell? w _ AD)).trans AD)), (World.cell?_alloc_lt _ _ _ (World.block_lt_of_cell? _ _ (((HB.out.cell (World.block_lt_of_cell? w _ AC)).trans AC)))).trans (((HB.out.cell (World.block_lt_of_cell? w _ AC)).trans AC))⟩ (fun hHeld => ?_)
 clear hK K
 refine norm_ (a' := ?_) ?_ ?_
 rotate_left
 {
 show Act.put _ (some 32) _ = _
 simp only [Act.put, zs, zz, zk, i64_w, i32_w]
 rfl
 }
 refine one_ (i := 16) (N := some 33) (bA 18 131071) rfl rfl (one_of HT_.out (by kernel_rfl)) (by decide) (fun K hK => ?_)
 refine Kd.R_append_step (Kd.int .i64) (w0 := w) w.heap.size (by rfl) (.tmp 17) (.tmp 32) 34 2 (.int .i64 0) 8 rfl Tryz.underlying34 info2 rfl (by decide) (by omega) u4 AU (wrap64 ((wrap64 (rd AB AG)) - (wrap64 (rd AB (AK))))) [.int .i64 (wrap64 ((wrap64 (rd AB AG)) - (wrap64 (rd AB (AK)))))] (fun _ => True) (fun _ => False) rfl rfl ?aP (fun _ hk => hk.elim) ?aF ?aO ?aB ?aS ?aL ?_
 (case aP => exact rfl)
 (case aB => exact (zBG HB.out AE.out))
 (case aF => exact (fun _ _ => trivial))
 (case aO => exact (zR AR.out))
 (case aS => exact (below_size (zBG HB.out AE.out)))
 (case aL => have := An.out; omega)
 intro BB BH ho hb hg hat
 rw [← Aj.out] at ho
 have Ao := ak (ho)
 replace AA := ak (blk_grown (g := AF) (o := .cells #[.int .i16 AH, .slice (some AQ) AB.length AL] 27 (0, 0)) (zK AA.out) hg (Kd.R_ne AR.out AA.out (by decide)))
 replace HB := ak (hb)
 clear AR
 refine hK.out _ _ ⟨(blk_cell AA.out 0).trans rfl, (blk_cell AA.out 1).trans rfl, ((HB.out.cell (World.block_lt_of_cell? w _ AD)).trans AD), ((HB.out.cell (World.block_lt_of_cell? w _ AC)).trans AC)⟩ (fun hHeld => ?_)
 clear hK K
 refine norm_ (a' := ?_) ?_ ?_
 rotate_left
 {
 show Act.put _ (some 33) _ = _
 simp only [Act.put, zs, zz, zk, i64_w, i32_w]
 rfl
 }
 refine pU 17 4 (bA 18 262143) HT_ ?_
 refine done_ (done_of HT_.out (by kernel_rfl)) ?_
 try go_wp2
 go_roundg k1
 case measure => have := BA.out; omega
 case rel => exact ⟨(Am), (wrap64 (AG + 1)), rfl, H', ⟨by have := BA.out; omega⟩, ⟨(zR Ao.out)⟩, ⟨(zK AA.out)⟩, ⟨zBG HB.out AE.out⟩⟩
 }
 · rw [if_neg Az] at H; exact absurd H (by simp)
 }
 · rw [if_neg Ap] at H; exact absurd H (by simp)
 }
 · rw [if_neg As] at H; exact absurd H (by simp)
 }
 · rw [if_neg c9] at H; exact absurd H (by simp)
 }
 {
 rw [if_neg c8] at H
 have A5 : decide (AG < (AB.length : Int)) = false := decide_eq_false c8
 clear c8
 simp only [Option.some.injEq, Prod.mk.injEq] at H
 obtain ⟨rfl, rfl⟩ := H
 have Ax : wr.cell? ⟨AF, 0, none⟩ = some (.int .i16 AH) := (blk_cell AA.out 0).trans rfl
 have At : wr.cell? ⟨AF, 1, none⟩ = some (.slice AN AB.length AL) := (blk_cell AA.out 1).trans rfl
 have Ay := blk_frozen AA.out 0
 have Aw := blk_frozen AA.out 1
 go_wp2
 go_ret2
 exact ⟨_, rfl, AR.out, zBG HB.out AE.out⟩
 }
 )
 )
 }
 {
 replace c3 := Bool.eq_false_iff.mpr c3
 subst c3
 rw [if_neg (show ¬ (false = true) by decide)] at H
 simp only [Option.some.injEq, Prod.mk.injEq] at H
 obtain ⟨rfl, rfl⟩ := H
 go_enter Tryz.func10, Tryz.ntmps10
 go_wp2_with (first | ((with_reducible refine gate_dst (N := 1) rfl ?_); refine box_event ?hg (N := 1) ?hd (cs := #[.int .i16 AH, .slice AN AB.length AL]) (t := 27) ?hr ?_; (case hd => rfl); (case hg => rfl); (case hr => first | (go_simp; done) | (go_simp; rfl)); intro AF hg BG hbox hb; have AA := ak (hbox); have Ak := gS HB hg; have AE := gS HB hg; replace HB := kB HB hb; clear hb hbox hg) | ((with_reducible refine gate_dst (N := 6) rfl ?_); refine Kd.R_lit (Kd.int .i64) _ 2 ?hg (N := 6) ?hd (xs := ([] : List Int)) (inner := []) (ok := fun _ => True) (okp := fun _ => True) ?hr ?hp (fun _ hk => hk) trivial (Below.refl _ _) (Nat.le_refl _) (by simp) ?_; (case hd => rfl); (case hg => rfl); (case hr => first | (go_simp; done) | (go_simp; rfl)); (case hp => exact (Reps.none _ _)); intro A1 BF AV hb A6 AW; clear A6 AW; (first | rw [← AS.out] at AV | (simp only [Int.reduceToNat] at AV; rw [← AS.out] at AV)); have AM := ak (Kd.R_lower AV (below_size (zBG HB.out AE.out))); replace AA := kK AA hb; replace HB := kB1 HB AE hb; clear hb AV) | ((with_reducible refine gate_callee (f := 39) rfl ?_); refine goesL_ (some 7) rfl rfl Tryz.func39 (by kernel_rfl) rfl #[.pointer (some ⟨AF, 0, none⟩)] rfl gl_ ?_; (with_reducible refine (spec_l03Ok.calls k AF AH AN AL AB false _ ?side1 ?side2 ?side3 A2.out).mono ?_); (case side1 => exact sQ (Kd.C_below AT.out HB.out)); (case side2 => exact Aa.out); (case side3 => exact (zK AA.out)); rintro e BE ⟨rfl, hb⟩; refine ⟨_, rfl, ?_⟩; replace AM := kR AM hb; replace AA := kK AA hb; replace HB := kB1 HB AE hb; (try clear hb)))
 go_ret2
 exact ⟨_, rfl, AM.out, zBG HB.out AE.out⟩
 }
/-! ### spec_SameRope: function 11 -/
mutual
def spec_SameRope.j0 : Nat → Bool → Int → List Int → Int → List Int → Option (Bool)
  | 0, _, _, _, _, _ => none
  | k + 1, AE, AB, AD, AC, AA => if AE = true then (some false) else (spec_SameRope.l0 k 0 AB AD AC AA)
def spec_SameRope.l0 : Nat → Int → Int → List Int → Int → List Int → Option (Bool)
  | 0, _, _, _, _, _ => none
  | k + 1, x5, AC, AB, AD, AA => if x5 < (AB.length : Int) then (if 0 ≤ x5 then (if x5 < (AA.length : Int) then (if (rd AB x5) = (rd AA x5) then (spec_SameRope.l0 k (wrap64 (x5 + 1)) AC AB AD AA) else (some false)) else (none)) else (none)) else (some true)
end
def spec_SameRope.f (k : Nat) (AC : Int) (AA : List Int) (AD : Int) (AB : List Int) : Option (Bool) := if AC = AD then (spec_SameRope.j0 k ((AA.length : Int) != (AB.length : Int)) AC AA AD AB) else (spec_SameRope.j0 k true AC AA AD AB)
set_option maxHeartbeats 8000000 in
set_option maxRecDepth 100000 in
theorem spec_SameRope.calls (k : Nat) (AJ : Int) (AQ : Option Addr) (AP : Nat) (AD : List Int) (AN : Int) (AR : Option Addr) (AS : Nat) (AH : List Int) (r : Bool) (w : World) (Ab : Kd.C (Kd.int .i16) w AQ AD.length AD) (Af : AD.length ≤ AP) (Ac : Kd.C (Kd.int .i16) w AR AH.length AH) (AZ : AH.length ≤ AS) (h : spec_SameRope.f k AJ AD AN AH = some r) :
    Calls Tryz.prog 11 #[.agg #[.int .i16 AJ, .slice AQ AD.length AP], .agg #[.int .i16 AN, .slice AR AH.length AS]] w fun e w' => e = .returned (.bool r) ∧ Below w.heap.size w w' := by
 have Bt := Tryz.underlying27
 have Ad := ak Ab
 have Bo := ak Af
 clear Ab Af
 have Ag := ak Ac
 have Bg := ak AZ
 clear Ac AZ
 have HB := ak (Below.refl w.heap.size w)
 have H := h
 unfold spec_SameRope.f at H
 clear h
 have BU := ak H
 clear H
 go_enter Tryz.func11, Tryz.ntmps11
 go_upto_region 1 with (first | ((with_reducible refine gate_dst (N := 2) rfl ?_); (try (refine gate_guard (by rfl) ?_; dsimp only)); refine box_event ?hg (N := 2) ?hd (cs := #[.int .i16 AJ, .slice AQ AD.length AP]) (t := 27) ?hr ?_; (case hd => rfl); (case hg => rfl); (case hr => first | (go_simp; done) | (go_simp; rfl)); intro AI hg w4 hbox hb; have AA := ak (hbox); have Ae := gS HB hg; have AE := gS HB hg; replace HB := kB HB hb; clear hb hbox hg) | ((with_reducible refine gate_dst (N := 3) rfl ?_); (try (refine gate_guard (by rfl) ?_; dsimp only)); refine box_event ?hg (N := 3) ?hd (cs := #[.int .i16 AN, .slice AR AH.length AS]) (t := 27) ?hr ?_; (case hd => rfl); (case hg => rfl); (case hr => first | (go_simp; done) | (go_simp; rfl)); intro AM hg w5 hbox hb; have AB := ak (hbox); have Aa := gS1 HB AE hg; have AO := gS1 HB AE hg; have AG := nL AA hg; have AF := nG AA hg; replace AA := kK AA hb; replace HB := kB1 HB AE hb; clear hb hbox hg))
 repeat (go_quiet (first | ((with_reducible refine gate_dst (N := 2) rfl ?_); (try (refine gate_guard (by rfl) ?_; dsimp only)); refine box_event ?hg (N := 2) ?hd (cs := #[.int .i16 AJ, .slice AQ AD.length AP]) (t := 27) ?hr ?_; (case hd => rfl); (case hg => rfl); (case hr => first | (go_simp; done) | (go_simp; rfl)); intro AI hg w4 hbox hb; have AA := ak (hbox); have Ae := gS HB hg; have AE := gS HB hg; replace HB := kB HB hb; clear hb hbox hg) | ((with_reducible refine gate_dst (N := 3) rfl ?_); (try (refine gate_guard (by rfl) ?_; dsimp only)); refine box_event ?hg (N := 3) ?hd (cs := #[.int .i16 AN, .slice AR AH.length AS]) (t := 27) ?hr ?_; (case hd => rfl); (case hg => rfl); (case hr => first | (go_simp; done) | (go_simp; rfl)); intro AM hg w5 hbox hb; have BW := ak (blk_below (g := AI) (o := .cells #[.int .i16 AJ, .slice AQ AD.length AP] 27 (0, 0)) (zK AA.out) hb); have Bb := ak (below_step (zBG HB.out AE.out) hb); have Bc := ak (hbox); have Bi := gS1 HB AE hg; have BX := gS1 HB AE hg; have Bk := nL AA hg; have BZ := nG AA hg; clear AA HB; have AA := BW; have HB := Bb; have AB := Bc; have Aa := Bi; have AO := BX; have AG := Bk; have AF := BZ; clear BW Bb Bc Bi BX Bk BZ; clear hb hbox hg)); go_upto_region 1 with (first | ((with_reducible refine gate_dst (N := 2) rfl ?_); (try (refine gate_guard (by rfl) ?_; dsimp only)); refine box_event ?hg (N := 2) ?hd (cs := #[.int .i16 AJ, .slice AQ AD.length AP]) (t := 27) ?hr ?_; (case hd => rfl); (case hg => rfl); (case hr => first | (go_simp; done) | (go_simp; rfl)); intro AI hg w4 hbox hb; have AA := ak (hbox); have Ae := gS HB hg; have AE := gS HB hg; replace HB := kB HB hb; clear hb hbox hg) | ((with_reducible refine gate_dst (N := 3) rfl ?_); (try (refine gate_guard (by rfl) ?_; dsimp only)); refine box_event ?hg (N := 3) ?hd (cs := #[.int .i16 AN, .slice AR AH.length AS]) (t := 27) ?hr ?_; (case hd => rfl); (case hg => rfl); (case hr => first | (go_simp; done) | (go_simp; rfl)); intro AM hg w5 hbox hb; have AB := ak (hbox); have Aa := gS1 HB AE hg; have AO := gS1 HB AE hg; have AG := nL AA hg; have AF := nG AA hg; replace AA := kK AA hb; replace HB := kB1 HB AE hb; clear hb hbox hg)))
 (try simp only [Act.put, zs, zz, zk])
 go_cut [19] (fun Bs wc => ∃ (kq : Nat) (AX : Bool), Bs = .bool AX ∧ Aside0 (spec_SameRope.j0 kq AX AJ AD AN AH = some r) ∧ Aside0 (kq ≤ k) ∧ Aside0 (wc.heap[AI]? = some (.cells #[.int .i16 AJ, (.slice AQ AD.length AP)] 27 (0, 0))) ∧ Aside0 (wc.heap[AM]? = some (.cells #[.int .i16 AN, (.slice AR AH.length AS)] 27 (0, 0))) ∧ Aside0 (Below w.heap.size w wc))
 case first => (
 have H := BU.out
 clear BU
 by_cases c6 : AJ = AN
 {
 rw [if_pos c6] at H
 have AY : (AJ == AN) = true := beq_iff_eq.mpr c6
 have BR : (AJ != AN) = false := bne_eq_false_iff_eq.mpr c6
 clear c6
 (first | rw [AY] | (simp only [i64_w, i32_w]; rw [AY]) | skip)
 have H' := ak H
 clear H
 have Bu := AG.out
 have Br := AF.out
 have BN : w5.cell? ⟨AI, 0, none⟩ = some (.int .i16 AJ) := (blk_cell AA.out 0).trans rfl
 have BO : w5.cell? ⟨AI, 1, none⟩ = some (.slice AQ AD.length AP) := (blk_cell AA.out 1).trans rfl
 have BM := blk_frozen AA.out 0
 have BS := blk_frozen AA.out 1
 have BT : w5.cell? ⟨AM, 0, none⟩ = some (.int .i16 AN) := (blk_cell AB.out 0).trans rfl
 have BP : w5.cell? ⟨AM, 1, none⟩ = some (.slice AR AH.length AS) := (blk_cell AB.out 1).trans rfl
 have BQ := blk_frozen AB.out 0
 have BL := blk_frozen AB.out 1
 go_wp2
 repeat (go_quiet (fail); try go_wp2)
 go_meet
 case rel => exact ⟨_, (((AD.length : Int) != (AH.length : Int))), rfl, H', ⟨by omega⟩, ⟨(zK AA.out)⟩, ⟨(zK AB.out)⟩, ⟨zH2 HB AE AO⟩⟩
 }
 {
 rw [if_neg c6] at H
 have AY : (AJ == AN) = false := beq_eq_false_iff_ne.mpr c6
 have BR : (AJ != AN) = true := bne_iff_ne.mpr c6
 (first | rw [AY] | (simp only [i64_w, i32_w]; rw [AY]) | skip)
 have H' := ak H
 clear H
 have Bj := AG.out
 have Bm := AF.out
 have A1 : w5.cell? ⟨AI, 0, none⟩ = some (.int .i16 AJ) := (blk_cell AA.out 0).trans rfl
 have Aw : w5.cell? ⟨AI, 1, none⟩ = some (.slice AQ AD.length AP) := (blk_cell AA.out 1).trans rfl
 have BG := blk_frozen AA.out 0
 have BB := blk_frozen AA.out 1
 have A3 : w5.cell? ⟨AM, 0, none⟩ = some (.int .i16 AN) := (blk_cell AB.out 0).trans rfl
 have BA : w5.cell? ⟨AM, 1, none⟩ = some (.slice AR AH.length AS) := (blk_cell AB.out 1).trans rfl
 have A4 := blk_frozen AB.out 0
 have BD := blk_frozen AB.out 1
 go_wp2
 repeat (go_quiet (fail); try go_wp2)
 go_meet
 case rel => exact ⟨_, (true), rfl, H', ⟨by omega⟩, ⟨(zK AA.out)⟩, ⟨(zK AB.out)⟩, ⟨zH2 HB AE AO⟩⟩
 }
 )
 case rest => (
 clear BU
 obtain ⟨kq, AX, rfl, HA, Bq, AA, AB, HB⟩ := hcut
 cases kq with
 | zero => exact absurd HA.out (by simp [spec_SameRope.j0])
 | succ Bn => (
 have H := HA.out
 clear HA
 simp only [spec_SameRope.j0] at H
 by_cases Aq : AX = true
 {
 subst Aq
 rw [if_pos rfl] at H
 obtain rfl := Option.some.inj H
 go_wp2
 repeat (go_quiet (fail); try go_wp2)
 go_ret
 exact ⟨rfl, zH2 HB AE AO⟩
 }
 {
 replace Aq := Bool.eq_false_iff.mpr Aq
 subst Aq
 rw [if_neg (show ¬ (false = true) by decide)] at H
 have H' := ak H
 clear H
 go_wp2
 repeat (go_quiet (fail); try go_wp2)
 go_loopg [5] Bn (fun kq v5 w' => ∃ (AC : Int), v5 = .int .i64 AC ∧ Aside0 (spec_SameRope.l0 kq AC AJ AD AN AH = some r) ∧ Aside0 (kq ≤ Bn) ∧ Aside0 (w'.heap[AI]? = some (.cells #[.int .i16 AJ, (.slice AQ AD.length AP)] 27 (0, 0))) ∧ Aside0 (w'.heap[AM]? = some (.cells #[.int .i16 AN, (.slice AR AH.length AS)] 27 (0, 0))) ∧ Aside0 (Below w.heap.size w w'))
 case atStart => exact ⟨(0), rfl, H', ⟨Nat.le_refl _⟩, ⟨(zK AA.out)⟩, ⟨(zK AB.out)⟩, ⟨zH2 HB AE AO⟩⟩
 case round => (
 clear H'
 obtain ⟨AC, rfl, HA, Bp, AA, AB, HB⟩ := hrel
 cases gk with
 | zero => exact absurd HA.out (by simp [spec_SameRope.l0])
 | succ k2 => (
 have H := HA.out
 clear HA
 simp only [spec_SameRope.l0] at H
 by_cases Ak : AC < (AD.length : Int)
 {
 rw [if_pos Ak] at H
 have Ao : decide (AC < (AD.length : Int)) = true := decide_eq_true Ak
 clear Ak
 by_cases Ay : 0 ≤ AC
 {
 rw [if_pos Ay] at H
 have BV : decide (0 ≤ AC) = true := decide_eq_true Ay
 clear Ay
 by_cases A5 : AC < (AH.length : Int)
 {
 rw [if_pos A5] at H
 have Bh : decide (AC < (AH.length : Int)) = true := decide_eq_true A5
 clear A5
 by_cases Ah : (rd AD AC) = (rd AH AC)
 {
 rw [if_pos Ah] at H
 have Am : ((rd AD AC) == (rd AH AC)) = true := beq_iff_eq.mpr Ah
 have Al : ((rd AD AC) != (rd AH AC)) = false := bne_eq_false_iff_eq.mpr Ah
 clear Ah
 have H' := ak H
 clear H
 have Bf := AG.out
 have Bl := AF.out
 have BF : wr.cell? ⟨AI, 0, none⟩ = some (.int .i16 AJ) := (blk_cell AA.out 0).trans rfl
 have Av : wr.cell? ⟨AI, 1, none⟩ = some (.slice AQ AD.length AP) := (blk_cell AA.out 1).trans rfl
 have As := blk_frozen AA.out 0
 have BI := blk_frozen AA.out 1
 have AV : 0 ≤ (AC : Int) := of_decide_eq_true (by assumption)
 have AU : AC < (AD.length : Int) := of_decide_eq_true (by assumption)
 obtain ⟨Ap, Aj, AL⟩ := Kd.at_int Ad.out AC AV AU
 cases Aj
 replace AL := (HB.out.cell (World.block_lt_of_cell? w _ AL)).trans AL
 replace AV := eq_true AV
 replace AU := eq_true AU
 have At : wr.cell? ⟨AM, 0, none⟩ = some (.int .i16 AN) := (blk_cell AB.out 0).trans rfl
 have BK : wr.cell? ⟨AM, 1, none⟩ = some (.slice AR AH.length AS) := (blk_cell AB.out 1).trans rfl
 have Ax := blk_frozen AB.out 0
 have A7 := blk_frozen AB.out 1
 have AT : 0 ≤ (AC : Int) := of_decide_eq_true (by assumption)
 have AW : AC < (AH.length : Int) := of_decide_eq_true (by assumption)
 obtain ⟨An, Ai, AK⟩ := Kd.at_int Ag.out AC AT AW
 cases Ai
 replace AK := (HB.out.cell (World.block_lt_of_cell? w _ AK)).trans AK
 replace AT := eq_true AT
 replace AW := eq_true AW
 go_wp2
 repeat (go_quiet (fail); try go_wp2)
 go_roundg k2
 case measure => have := Bq.out; have := Bp.out; omega
 case rel => exact ⟨(wrap64 (AC + 1)), rfl, H', ⟨by have := Bq.out; have := Bp.out; omega⟩, ⟨(zK AA.out)⟩, ⟨(zK AB.out)⟩, ⟨zH2 HB AE AO⟩⟩
 }
 {
 rw [if_neg Ah] at H
 have Am : ((rd AD AC) == (rd AH AC)) = false := beq_eq_false_iff_ne.mpr Ah
 have Al : ((rd AD AC) != (rd AH AC)) = true := bne_iff_ne.mpr Ah
 obtain rfl := Option.some.inj H
 have Bd := AG.out
 have BY := AF.out
 have Ar : wr.cell? ⟨AI, 0, none⟩ = some (.int .i16 AJ) := (blk_cell AA.out 0).trans rfl
 have A9 : wr.cell? ⟨AI, 1, none⟩ = some (.slice AQ AD.length AP) := (blk_cell AA.out 1).trans rfl
 have Au := blk_frozen AA.out 0
 have A2 := blk_frozen AA.out 1
 have AV : 0 ≤ (AC : Int) := of_decide_eq_true (by assumption)
 have AU : AC < (AD.length : Int) := of_decide_eq_true (by assumption)
 obtain ⟨Ap, Aj, AL⟩ := Kd.at_int Ad.out AC AV AU
 cases Aj
 replace AL := (HB.out.cell (World.block_lt_of_cell? w _ AL)).trans AL
 replace AV := eq_true AV
 replace AU := eq_true AU
 have BE : wr.cell? ⟨AM, 0, none⟩ = some (.int .i16 AN) := (blk_cell AB.out 0).trans rfl
 have BH : wr.cell? ⟨AM, 1, none⟩ = some (.slice AR AH.length AS) := (blk_cell AB.out 1).trans rfl
 have A6 := blk_frozen AB.out 0
 have A0 := blk_frozen AB.out 1
 have AT : 0 ≤ (AC : Int) := of_decide_eq_true (by assumption)
 have AW : AC < (AH.length : Int) := of_decide_eq_true (by assumption)
 obtain ⟨An, Ai, AK⟩ := Kd.at_int Ag.out AC AT AW
 cases Ai
 replace AK := (HB.out.cell (World.block_lt_of_cell? w _ AK)).trans AK
 replace AT := eq_true AT
 replace AW := eq_true AW
 go_wp2
 repeat (go_quiet (fail); try go_wp2)
 go_ret
 exact ⟨rfl, zH2 HB AE AO⟩
 }
 }
 · rw [if_neg A5] at H; exact absurd H (by simp)
 }
 · rw [if_neg Ay] at H; exact absurd H (by simp)
 }
 {
 rw [if_neg Ak] at H
 have Ao : decide (AC < (AD.length : Int)) = false := decide_eq_false Ak
 clear Ak
 obtain rfl := Option.some.inj H
 have Be := AG.out
 have Ba := AF.out
 have Az : wr.cell? ⟨AI, 0, none⟩ = some (.int .i16 AJ) := (blk_cell AA.out 0).trans rfl
 have BC : wr.cell? ⟨AI, 1, none⟩ = some (.slice AQ AD.length AP) := (blk_cell AA.out 1).trans rfl
 have BJ := blk_frozen AA.out 0
 have A8 := blk_frozen AA.out 1
 go_wp2
 repeat (go_quiet (fail); try go_wp2)
 go_ret
 exact ⟨rfl, zH2 HB AE AO⟩
 }
 )
 )
 }
 )
 )
/-! ### slices_Equal_Sint16_int16: function 40 -/
def slices_Equal_Sint16_int16.l0 : Nat → List Int → List Int → Int → Int → Option (Bool)
  | 0, _, _, _, _ => none
  | k + 1, x0, x1, AB, AA => if AA < AB then (if 0 ≤ AA then (if AA < (x0.length : Int) then (if AA < (x1.length : Int) then (if (rd x0 AA) = (rd x1 AA) then (slices_Equal_Sint16_int16.l0 k x0 x1 AB (wrap64 (AA + 1))) else (some false)) else (none)) else (none)) else (none)) else (some true)
def slices_Equal_Sint16_int16.f (k : Nat) (l0 : List Int) (l1 : List Int) : Option (Bool) := if (l0.length : Int) = (l1.length : Int) then (slices_Equal_Sint16_int16.l0 k l0 l1 (l0.length : Int) 0) else (some false)
set_option maxHeartbeats 8000000 in
set_option maxRecDepth 100000 in
theorem slices_Equal_Sint16_int16.calls (k : Nat) (A0 : Option Addr) (c0 : Nat) (l0 : List Int) (A1 : Option Addr) (c1 : Nat) (l1 : List Int) (r : Bool) (w : World) (AU : Kd.C (Kd.int .i16) w A0 l0.length l0) (AS : l0.length ≤ c0) (AR : Kd.C (Kd.int .i16) w A1 l1.length l1) (AT : l1.length ≤ c1) (h : slices_Equal_Sint16_int16.f k l0 l1 = some r) :
    Calls Tryz.prog 40 #[.slice A0 l0.length c0, .slice A1 l1.length c1] w fun e w' => e = .returned (.bool r) ∧ Drawn0 w w' := by
 have AX := ak AU
 have Ac := ak AS
 clear AU AS
 have AV := ak AR
 have Ad := ak AT
 clear AR AT
 have H := h
 unfold slices_Equal_Sint16_int16.f at H
 clear h
 by_cases c3 : (l0.length : Int) = (l1.length : Int)
 {
 rw [if_pos c3] at H
 have AN : ((l0.length : Int) == (l1.length : Int)) = true := beq_iff_eq.mpr c3
 have AK : ((l0.length : Int) != (l1.length : Int)) = false := bne_eq_false_iff_eq.mpr c3
 have AM : (l0.length == l1.length) = true := by first | simpa using c3 | (simp at c3 ⊢; omega)
 clear c3
 have H' := ak H
 clear H
 go_enter Tryz.func40, Tryz.ntmps40
 go_wp2
 repeat (go_quiet (fail); try go_wp2)
 go_loopg [13] k (fun kq Ab w' => ∃ (AA : Int), Ab = .int .i64 AA ∧ Aside0 (slices_Equal_Sint16_int16.l0 kq l0 l1 (l0.length : Int) AA = some r) ∧ Aside0 (kq ≤ k) ∧ Drawn0 w w')
 case atStart => exact ⟨(0), rfl, H', ⟨Nat.le_refl _⟩, by repeat (first | exact Drawn0.refl _ | apply Drawn0.step)⟩
 case round => (
 clear H'
 obtain ⟨AA, rfl, HA, AW, ⟨m1, rfl⟩⟩ := hrel
 cases gk with
 | zero => exact absurd HA.out (by simp [slices_Equal_Sint16_int16.l0])
 | succ k1 => (
 have H := HA.out
 clear HA
 simp only [slices_Equal_Sint16_int16.l0] at H
 by_cases c4 : AA < (l0.length : Int)
 {
 rw [if_pos c4] at H
 have AO : decide (AA < (l0.length : Int)) = true := decide_eq_true c4
 clear c4
 by_cases c5 : 0 ≤ AA
 {
 rw [if_pos c5] at H
 have AZ : decide (0 ≤ AA) = true := decide_eq_true c5
 clear c5
 by_cases c6 : AA < (l0.length : Int)
 {
 rw [if_pos c6] at H
 have Aa : decide (AA < (l0.length : Int)) = true := decide_eq_true c6
 clear c6
 by_cases c7 : AA < (l1.length : Int)
 {
 rw [if_pos c7] at H
 have AY : decide (AA < (l1.length : Int)) = true := decide_eq_true c7
 clear c7
 by_cases c8 : (rd l0 AA) = (rd l1 AA)
 {
 rw [if_pos c8] at H
 have AP : ((rd l0 AA) == (rd l1 AA)) = true := beq_iff_eq.mpr c8
 have AQ : ((rd l0 AA) != (rd l1 AA)) = false := bne_eq_false_iff_eq.mpr c8
 clear c8
 have H' := ak H
 clear H
 have AD : 0 ≤ (AA : Int) := of_decide_eq_true (by assumption)
 have AE : AA < (l0.length : Int) := of_decide_eq_true (by assumption)
 obtain ⟨AL, AH, AF⟩ := Kd.at_int AX.out AA AD AE
 cases AH
 replace AD := eq_true AD
 replace AE := eq_true AE
 have AC : 0 ≤ (AA : Int) := of_decide_eq_true (by assumption)
 have AB : AA < (l1.length : Int) := of_decide_eq_true (by assumption)
 obtain ⟨AJ, AI, AG⟩ := Kd.at_int AV.out AA AC AB
 cases AI
 replace AC := eq_true AC
 replace AB := eq_true AB
 go_wp2
 repeat (go_quiet (fail); try go_wp2)
 go_roundg k1
 case measure => have := AW.out; omega
 case rel => exact ⟨(wrap64 (AA + 1)), rfl, H', ⟨by have := AW.out; omega⟩, by repeat (first | exact Drawn0.refl _ | apply Drawn0.step)⟩
 }
 {
 rw [if_neg c8] at H
 have AP : ((rd l0 AA) == (rd l1 AA)) = false := beq_eq_false_iff_ne.mpr c8
 have AQ : ((rd l0 AA) != (rd l1 AA)) = true := bne_iff_ne.mpr c8
 obtain rfl := Option.some.inj H
 have AD : 0 ≤ (AA : Int) := of_decide_eq_true (by assumption)
 have AE : AA < (l0.length : Int) := of_decide_eq_true (by assumption)
 obtain ⟨AL, AH, AF⟩ := Kd.at_int AX.out AA AD AE
 cases AH
 replace AD := eq_true AD
 replace AE := eq_true AE
 have AC : 0 ≤ (AA : Int) := of_decide_eq_true (by assumption)
 have AB : AA < (l1.length : Int) := of_decide_eq_true (by assumption)
 obtain ⟨AJ, AI, AG⟩ := Kd.at_int AV.out AA AC AB
 cases AI
 replace AC := eq_true AC
 replace AB := eq_true AB
 go_wp2
 repeat (go_quiet (fail); try go_wp2)
 go_ret
 exact ⟨by first | rfl | (simp; done) | (simp [*]; done), by repeat (first | exact Drawn0.refl _ | apply Drawn0.step)⟩
 }
 }
 · rw [if_neg c7] at H; exact absurd H (by simp)
 }
 · rw [if_neg c6] at H; exact absurd H (by simp)
 }
 · rw [if_neg c5] at H; exact absurd H (by simp)
 }
 {
 rw [if_neg c4] at H
 have AO : decide (AA < (l0.length : Int)) = false := decide_eq_false c4
 clear c4
 obtain rfl := Option.some.inj H
 go_wp2
 repeat (go_quiet (fail); try go_wp2)
 go_ret
 exact ⟨by first | rfl | (simp; done) | (simp [*]; done), by repeat (first | exact Drawn0.refl _ | apply Drawn0.step)⟩
 }
 )
 )
 }
 {
 rw [if_neg c3] at H
 have AN : ((l0.length : Int) == (l1.length : Int)) = false := beq_eq_false_iff_ne.mpr c3
 have AK : ((l0.length : Int) != (l1.length : Int)) = true := bne_iff_ne.mpr c3
 have AM : (l0.length == l1.length) = false := by first | simpa using c3 | (simp at c3 ⊢; omega)
 obtain rfl := Option.some.inj H
 go_enter Tryz.func40, Tryz.ntmps40
 go_wp2
 repeat (go_quiet (fail); try go_wp2)
 go_ret
 exact ⟨by first | rfl | (simp; done) | (simp [*]; done), by repeat (first | exact Drawn0.refl _ | apply Drawn0.step)⟩
 }
/-! ### impl_SameRope: function 12 -/
def impl_SameRope.f (k : Nat) (AC : Int) (AA : List Int) (AE : Int) (AB : List Int) : Option (Bool) := if AC = AE then ((slices_Equal_Sint16_int16.f k AA AB).bind fun AD => (some AD)) else (some false)
set_option maxHeartbeats 8000000 in
set_option maxRecDepth 100000 in
theorem impl_SameRope.calls (k : Nat) (AE : Int) (AM : Option Addr) (AL : Nat) (AG : List Int) (AF : Int) (AK : Option Addr) (AN : Nat) (AH : List Int) (r : Bool) (w : World) (AP : Kd.C (Kd.int .i16) w AM AG.length AG) (AR : AG.length ≤ AL) (AQ : Kd.C (Kd.int .i16) w AK AH.length AH) (AO : AH.length ≤ AN) (h : impl_SameRope.f k AE AG AF AH = some r) :
    Calls Tryz.prog 12 #[.agg #[.int .i16 AE, .slice AM AG.length AL], .agg #[.int .i16 AF, .slice AK AH.length AN]] w fun e w' => e = .returned (.bool r) ∧ Below w.heap.size w w' := by
 have Az := Tryz.underlying27
 have AZ := ak AP
 have AV := ak AR
 clear AP AR
 have AW := ak AQ
 have AS := ak AO
 clear AQ AO
 have HB := ak (Below.refl w.heap.size w)
 have H := h
 unfold impl_SameRope.f at H
 clear h
 by_cases c3 : AE = AF
 {
 rw [if_pos c3] at H
 have As : (AE == AF) = true := beq_iff_eq.mpr c3
 have Al : (AE != AF) = false := bne_eq_false_iff_eq.mpr c3
 clear c3
 replace H := Option.bind_eq_some_iff.mp H
 obtain ⟨Am, Aw, H⟩ := H
 have A4 := ak Aw
 clear Aw
 obtain rfl := Option.some.inj H
 go_enter Tryz.func12, Tryz.ntmps12
 go_wp2_with (first | ((with_reducible refine gate_dst (N := 2) rfl ?_); refine box_event ?hg (N := 2) ?hd (cs := #[.int .i16 AE, .slice AM AG.length AL]) (t := 27) ?hr ?_; (case hd => rfl); (case hg => rfl); (case hr => first | (go_simp; done) | (go_simp; rfl)); intro AX hg w5 hbox hb; have AA := ak (hbox); have AT := gS HB hg; have AB := gS HB hg; replace HB := kB HB hb; clear hb hbox hg) | ((with_reducible refine gate_dst (N := 3) rfl ?_); refine box_event ?hg (N := 3) ?hd (cs := #[.int .i16 AF, .slice AK AH.length AN]) (t := 27) ?hr ?_; (case hd => rfl); (case hg => rfl); (case hr => first | (go_simp; done) | (go_simp; rfl)); intro AU hg w6 hbox hb; have AI := ak (hbox); have AY := gS1 HB AB hg; have AJ := gS1 HB AB hg; have AD := nL AA hg; have AC := nG AA hg; replace AA := kK AA hb; replace HB := kB1 HB AB hb; clear hb hbox hg; have Ay := AD.out; have Ax := AC.out; obtain ⟨Ak, An, Aj, Aq⟩ := cz2 w6 AA; obtain ⟨Ar, Ao, Ap, Ai⟩ := cz2 w6 AI) | (go_at_call 40; (with_reducible refine (slices_Equal_Sint16_int16.calls k _ _ AG _ _ AH Am _ ?side1 ?side2 ?side3 ?side4 A4.out).mono ?_); (case side1 => exact sQ (Kd.C_below AZ.out HB.out)); (case side2 => exact AV.out); (case side3 => exact sQ (Kd.C_below AW.out HB.out)); (case side4 => exact AS.out); rintro e w' ⟨rfl, ⟨nd, rfl⟩⟩))
 go_ret
 exact ⟨rfl, zH2 HB AB AJ⟩
 }
 {
 rw [if_neg c3] at H
 have As : (AE == AF) = false := beq_eq_false_iff_ne.mpr c3
 have Al : (AE != AF) = true := bne_iff_ne.mpr c3
 obtain rfl := Option.some.inj H
 go_enter Tryz.func12, Tryz.ntmps12
 go_wp2_with (first | ((with_reducible refine gate_dst (N := 2) rfl ?_); refine box_event ?hg (N := 2) ?hd (cs := #[.int .i16 AE, .slice AM AG.length AL]) (t := 27) ?hr ?_; (case hd => rfl); (case hg => rfl); (case hr => first | (go_simp; done) | (go_simp; rfl)); intro AX hg A0 hbox hb; have AA := ak (hbox); have AT := gS HB hg; have AB := gS HB hg; replace HB := kB HB hb; clear hb hbox hg) | ((with_reducible refine gate_dst (N := 3) rfl ?_); refine box_event ?hg (N := 3) ?hd (cs := #[.int .i16 AF, .slice AK AH.length AN]) (t := 27) ?hr ?_; (case hd => rfl); (case hg => rfl); (case hr => first | (go_simp; done) | (go_simp; rfl)); intro AU hg Av hbox hb; have AI := ak (hbox); have AY := gS1 HB AB hg; have AJ := gS1 HB AB hg; have AD := nL AA hg; have AC := nG AA hg; replace AA := kK AA hb; replace HB := kB1 HB AB hb; clear hb hbox hg; have Au := AD.out; have At := AC.out; obtain ⟨Aa, Ae, Ad, Ag⟩ := cz2 Av AA; obtain ⟨Ah, Af, Ac, Ab⟩ := cz2 Av AI))
 go_ret
 exact ⟨rfl, zH2 HB AB AJ⟩
 }
end Go.Proofs.YtlggjfhoecaelaaGreatDoor.P
