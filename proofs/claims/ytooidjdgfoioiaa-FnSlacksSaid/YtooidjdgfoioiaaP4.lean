-- Printed by wip/print (my turned copy of the kit's print) out of the translation; Lean checks it.
import Derived.Test.YtooidjdgfoioiaaP0
import Derived.Test.YtooidjdgfoioiaaP3
namespace Go.Proofs.Ytooidjdgfoioiaa.P
open Go.RowKit Go.Proofs.YtooidjdgfoioiaaW.PrintWords Go.Proofs.YtooidjdgfoioiaaW.PrintLast Go.Proofs.YtooidjdgfoioiaaW.PrintMore
attribute [local go_sem] max2_int min2_int max_two min_two max_three min_three max_four min_four   -- for this text's walks alone
set_option linter.unusedVariables false
set_option linter.unusedSimpArgs false

/-! ### spec_l01Free: function 84 -/
def spec_l01Free.f (AN : Int) (AO : Int) (AL : Int) (AG : Int) (AH : Int) (AF : Int) (AJ : Int) (AI : Int) (AK : Int) (AE : Int) (AD : Int) (AC : Int) (AA : Int) (AB : Int) : Option (Bool) := (spec_l01Is.f AN AO AL AG AH AF AJ AI AK AE AD AC AA AB).bind fun AM => (if AM = true then (if 0 ≤ AB then (if AB < 10 then (if AB = 0 then (if 0 ≤ (IntKind.u64.wrap (AA)) then (some ((Int.tmod (shr .u16 AL (IntKind.u64.wrap (AA))) 2) == 0)) else (none)) else (if AB = 1 then (if 0 ≤ (IntKind.u64.wrap (AA)) then (some ((Int.tmod (shr .u16 AG (IntKind.u64.wrap (AA))) 2) == 0)) else (none)) else (if AB = 2 then (if 0 ≤ (IntKind.u64.wrap (AA)) then (some ((Int.tmod (shr .u16 AH (IntKind.u64.wrap (AA))) 2) == 0)) else (none)) else (if AB = 3 then (if 0 ≤ (IntKind.u64.wrap (AA)) then (some ((Int.tmod (shr .u16 AF (IntKind.u64.wrap (AA))) 2) == 0)) else (none)) else (if AB = 4 then (if 0 ≤ (IntKind.u64.wrap (AA)) then (some ((Int.tmod (shr .u16 AJ (IntKind.u64.wrap (AA))) 2) == 0)) else (none)) else (if AB = 5 then (if 0 ≤ (IntKind.u64.wrap (AA)) then (some ((Int.tmod (shr .u16 AI (IntKind.u64.wrap (AA))) 2) == 0)) else (none)) else (if AB = 6 then (if 0 ≤ (IntKind.u64.wrap (AA)) then (some ((Int.tmod (shr .u16 AK (IntKind.u64.wrap (AA))) 2) == 0)) else (none)) else (if AB = 7 then (if 0 ≤ (IntKind.u64.wrap (AA)) then (some ((Int.tmod (shr .u16 AE (IntKind.u64.wrap (AA))) 2) == 0)) else (none)) else (if AB = 8 then (if 0 ≤ (IntKind.u64.wrap (AA)) then (some ((Int.tmod (shr .u16 AD (IntKind.u64.wrap (AA))) 2) == 0)) else (none)) else (if AB = 9 then (if 0 ≤ (IntKind.u64.wrap (AA)) then (some ((Int.tmod (shr .u16 AC (IntKind.u64.wrap (AA))) 2) == 0)) else (none)) else (none))))))))))) else (none)) else (none)) else (some false))
def spec_l01Free.T1 : Bool × List (List Nat × List Nat) := (true, [([], []), ([], []), ([0, 1], [0, 1]), ([2, 2], [2]), ([3], [3]), ([3], [3]), ([5, 3], [3, 5]), ([4, 3], [3, 4]), ([7, 3], [3, 7]), ([8, 6, 3], [3, 6, 8]), ([9, 3], [3, 9]), ([3], [3]), ([11, 3], [3, 11]), ([12, 3], [3, 12]), ([10, 13, 3], [3, 10, 13]), ([14, 3], [3, 14]), ([15, 3], [3, 15]), ([3, 16], [3, 16]), ([17, 3, 0, 1, 2, 3, 4, 5, 6, 7, 8, 9, 10, 11, 12, 13, 14, 15, 16, 17], [17])])
def spec_l01Free.B1 : List Nat := [0, 0, 3, 7, 15, 15, 47, 31, 159, 511, 1023, 15, 2063, 6159, 16383, 32767, 65535, 131071, 262143]
theorem spec_l01Free.tab1 : rtab .any (opsOf Try.f84 1) = spec_l01Free.T1 := by kernel_rfl
theorem spec_l01Free.bits1 : waitsOk spec_l01Free.T1.2 spec_l01Free.B1 = true := by kernel_rfl
set_option maxHeartbeats 8000000 in
set_option maxRecDepth 100000 in
theorem spec_l01Free.calls (b0 : Nat) (AS : Int) (AT : Int) (AQ : Int) (AI : Int) (AM : Int) (AO : Int) (AN : Int) (AL : Int) (AK : Int) (AJ : Int) (AD : Int) (AE : Int) (AG : Int) (AA : Int) (r : Bool) (w : World) (Am : w.heap[b0]? = some (.cells #[.int .i8 AS, .int .i8 AT, .int .u16 AQ, .int .u16 AI, .int .u16 AM, .int .u16 AO, .int .u16 AN, .int .u16 AL, .int .u16 AK, .int .u16 AJ, .int .u16 AD, .int .u16 AE] 35 (0, 0))) (h : spec_l01Free.f AS AT AQ AI AM AO AN AL AK AJ AD AE AG AA = some r) :
    Calls Try.prog 84 #[.pointer (some ⟨b0, 0, none⟩), .agg #[.int .i8 AG, .int .i8 AA]] w fun e w' => e = .returned (.bool r) ∧ Below w.heap.size w w' := by
 have Ar := Try.underlying62
 have AC := ak Am
 clear Am
 have HB := ak (Below.refl w.heap.size w)
 have H := h
 unfold spec_l01Free.f at H
 clear h
 replace H := Option.bind_eq_some_iff.mp H
 obtain ⟨Ah, Ao, H⟩ := H
 have A3 := ak Ao
 clear Ao
 by_cases c4 : Ah = true
 {
 subst c4
 rw [if_pos rfl] at H
 by_cases c5 : 0 ≤ AA
 {
 rw [if_pos c5] at H
 have Aj : decide (0 ≤ AA) = true := decide_eq_true c5
 clear c5
 by_cases c6 : AA < 10
 {
 rw [if_pos c6] at H
 have Al : decide (AA < 10) = true := decide_eq_true c6
 clear c6
 obtain ⟨u_, An, H⟩ : ∃ u_ : Int, (#[.int .i8 AS, .int .i8 AT, .int .u16 AQ, .int .u16 AI, .int .u16 AM, .int .u16 AO, .int .u16 AN, .int .u16 AL, .int .u16 AK, .int .u16 AJ, .int .u16 AD, .int .u16 AE] : Array Value)[2 + AA.toNat]? = some (.int .u16 u_) ∧ (if 0 ≤ (IntKind.u64.wrap (AG)) then (some ((Int.tmod (shr .u16 u_ (IntKind.u64.wrap (AG))) 2) == 0)) else (none)) = some r := by
  by_cases e_ : AA = 0
  · rw [if_pos e_] at H; exact ⟨AQ, by rw [e_]; rfl, H⟩
  rw [if_neg e_] at H
  by_cases e_ : AA = 1
  · rw [if_pos e_] at H; exact ⟨AI, by rw [e_]; rfl, H⟩
  rw [if_neg e_] at H
  by_cases e_ : AA = 2
  · rw [if_pos e_] at H; exact ⟨AM, by rw [e_]; rfl, H⟩
  rw [if_neg e_] at H
  by_cases e_ : AA = 3
  · rw [if_pos e_] at H; exact ⟨AO, by rw [e_]; rfl, H⟩
  rw [if_neg e_] at H
  by_cases e_ : AA = 4
  · rw [if_pos e_] at H; exact ⟨AN, by rw [e_]; rfl, H⟩
  rw [if_neg e_] at H
  by_cases e_ : AA = 5
  · rw [if_pos e_] at H; exact ⟨AL, by rw [e_]; rfl, H⟩
  rw [if_neg e_] at H
  by_cases e_ : AA = 6
  · rw [if_pos e_] at H; exact ⟨AK, by rw [e_]; rfl, H⟩
  rw [if_neg e_] at H
  by_cases e_ : AA = 7
  · rw [if_pos e_] at H; exact ⟨AJ, by rw [e_]; rfl, H⟩
  rw [if_neg e_] at H
  by_cases e_ : AA = 8
  · rw [if_pos e_] at H; exact ⟨AD, by rw [e_]; rfl, H⟩
  rw [if_neg e_] at H
  by_cases e_ : AA = 9
  · rw [if_pos e_] at H; exact ⟨AE, by rw [e_]; rfl, H⟩
  rw [if_neg e_] at H
  exact absurd H (by simp)
 have AF : 0 ≤ AA ∧ AA < 10 := ⟨of_decide_eq_true Aj, of_decide_eq_true Al⟩
 obtain ⟨AX, AU⟩ : ∃ j_ : Int, (IntKind.u64.wrap (AG)) = j_ := ⟨_, rfl⟩
 first | rw [AU] at H | simp only [AU] at H
 (try rw [AU] at A3)
 by_cases c9 : 0 ≤ (AX)
 {
 rw [if_pos c9] at H
 have As := eq_true c9
 have At : decide (0 ≤ (AX)) = true := decide_eq_true c9
 clear c9
 obtain ⟨Ad, AH⟩ : ∃ j_ : Int, (shr .u16 u_ (AX)) = j_ := ⟨_, rfl⟩
 first | rw [AH] at H | simp only [AH] at H
 (try rw [AH] at A3)
 have Ai : (u_ / 2 ^ min (AX).toNat 16) = Ad := AH
 have Ak : (AX) ≤ 16 → (u_ / 2 ^ (AX).toNat) = Ad := shr_small AH
 obtain rfl := Option.some.inj H
 go_enter Try.func84, Try.ntmps84
 try go_wp2_with (first | ((with_reducible refine gate_dst (N := 3) rfl ?_); refine box_event ?hg (N := 3) ?hd (cs := #[.int .i8 AG, .int .i8 AA]) (t := 62) ?hr ?_; (case hd => rfl); (case hg => rfl); (case hr => first | (go_simp; done) | (go_simp; rfl)); intro AP hg Aq hbox hb; have Ab := ak (blk_below (g := b0) (o := .cells #[.int .i8 AS, .int .i8 AT, .int .u16 AQ, .int .u16 AI, .int .u16 AM, .int .u16 AO, .int .u16 AN, .int .u16 AL, .int .u16 AK, .int .u16 AJ, .int .u16 AD, .int .u16 AE] 35 (0, 0)) (zK AC.out) hb); have AZ := ak (below_step (zB HB.out) hb); have AY := ak (hbox); have Ac := gS HB hg; have Ag := gS HB hg; have Aa := nL AC hg; have Ae := nG AC hg; clear AC HB; have AC := Ab; have HB := AZ; have AB := AY; have Af := Ac; have AR := Ag; have AW := Aa; have AV := Ae; clear Ab AZ AY Ac Ag Aa Ae; clear hb hbox hg))
 replace AC := ak (blk_drew AC.out)
 replace AB := ak (blk_drew AB.out)
 replace HB := ak (below_drew1 HB.out)
 refine start_ (n := 19) (S := fun w' => w'.cell? ⟨AP, 0, none⟩ = some (.int .i8 AG) ∧ w'.cell? ⟨AP, 1, none⟩ = some (.int .i8 AA) ∧ w'.cell? ⟨b0, 0, none⟩ = some (.int .i8 AS) ∧ w'.cell? ⟨b0, 1, none⟩ = some (.int .i8 AT) ∧ w'.cell? ⟨b0, 2 + AA.toNat, none⟩ = some (.int .u16 u_) ∧ w'.cell? ⟨b0, 3, none⟩ = some (.int .u16 AI) ∧ w'.cell? ⟨b0, 4, none⟩ = some (.int .u16 AM) ∧ w'.cell? ⟨b0, 5, none⟩ = some (.int .u16 AO) ∧ w'.cell? ⟨b0, 6, none⟩ = some (.int .u16 AN) ∧ w'.cell? ⟨b0, 7, none⟩ = some (.int .u16 AL) ∧ w'.cell? ⟨b0, 8, none⟩ = some (.int .u16 AK) ∧ w'.cell? ⟨b0, 9, none⟩ = some (.int .u16 AJ) ∧ w'.cell? ⟨b0, 10, none⟩ = some (.int .u16 AD) ∧ w'.cell? ⟨b0, 11, none⟩ = some (.int .u16 AE)) (ds := []) (bA 19 0) (by kernel_rfl) rfl rfl ⟨(blk_cell AB.out 0).trans rfl, (blk_cell AB.out 1).trans rfl, (blk_cell AC.out 0).trans rfl, (blk_cell AC.out 1).trans rfl, (blk_cell AC.out (2 + AA.toNat)).trans An, (blk_cell AC.out 3).trans rfl, (blk_cell AC.out 4).trans rfl, (blk_cell AC.out 5).trans rfl, (blk_cell AC.out 6).trans rfl, (blk_cell AC.out 7).trans rfl, (blk_cell AC.out 8).trans rfl, (blk_cell AC.out 9).trans rfl, (blk_cell AC.out 10).trans rfl, (blk_cell AC.out 11).trans rfl⟩ (fun hHeld => ?_); refine with_tabW spec_l01Free.tab1 spec_l01Free.bits1 (fun HT_ HW_ => ?_)
 generalize Aq.drew = Au at AC AB HB hHeld ⊢
 refine pure_ (i := 0) (N := some 5) (v := ?_) (a' := ?_) (bA 19 1) rfl rfl (any_of HT_.out (by kernel_rfl)) (fun _ _ _ h => h) (Or.inl ⟨by rfl, ?_⟩) ?_ ?_
 rotate_left
 {
 intro w'
 go_simp
 (try rw [if_pos AF])
 with_reducible rfl
 }
 rotate_left
 · simp only [Act.put, zs, zz, zk, i64_w, i32_w]; rfl
 refine tK 1 6 (bA 19 3) HT_ HW_ hHeld ?_
 refine one_ (i := 2) (N := some 7) (bA 19 7) rfl rfl (one_of HT_.out (by kernel_rfl)) (by decide) (fun K hK => ?_)
 refine goes_ Try.func73 (by kernel_rfl) rfl #[.pointer (some ⟨b0, 0, none⟩), .agg #[.int .i8 AG, .int .i8 AA]] (by rfl) rfl rfl gl_ ?_
 with_reducible refine (spec_l01Is.calls b0 AS AT AQ AI AM AO AN AL AK AJ AD AE AG AA true _ ?side1 A3.out).mono ?_
 (case side1 => exact (zK AC.out))
 rintro e Av ⟨rfl, hb⟩
 refine ⟨_, rfl, ?_⟩
 replace AC := kK AC hb
 replace AB := kK AB hb
 replace HB := kB1 HB AR hb
 refine hK.out _ _ ⟨(blk_cell AB.out 0).trans rfl, (blk_cell AB.out 1).trans rfl, (blk_cell AC.out 0).trans rfl, (blk_cell AC.out 1).trans rfl, (blk_cell AC.out (2 + AA.toNat)).trans An, (blk_cell AC.out 3).trans rfl, (blk_cell AC.out 4).trans rfl, (blk_cell AC.out 5).trans rfl, (blk_cell AC.out 6).trans rfl, (blk_cell AC.out 7).trans rfl, (blk_cell AC.out 8).trans rfl, (blk_cell AC.out 9).trans rfl, (blk_cell AC.out 10).trans rfl, (blk_cell AC.out 11).trans rfl⟩ (fun hHeld => ?_)
 clear hK K
 refine norm_ (a' := ?_) ?_ ?_
 rotate_left
 {
 show Act.put _ (some 7) _ = _
 simp only [Act.put, zs, zz, zk, i64_w, i32_w]
 rfl
 }
 refine pure_ (i := 3) (N := some 8) (v := ?_) (a' := ?_) (bA 19 15) rfl rfl (any_of HT_.out (by kernel_rfl)) (fun _ _ _ h => h) (Or.inl ⟨by rfl, ?_⟩) ?_ ?_
 rotate_left
 {
 intro w'
 go_simp
 (try rw [if_pos AF])
 with_reducible rfl
 }
 rotate_left
 · simp only [Act.put, zs, zz, zk, i64_w, i32_w]; rfl
 refine pure_ (i := 4) (N := some 9) (v := ?_) (a' := ?_) (bA 19 31) rfl rfl (any_of HT_.out (by kernel_rfl)) (fun _ _ _ h => h) (Or.inl ⟨by rfl, ?_⟩) ?_ ?_
 rotate_left
 {
 intro w'
 go_simp
 (try rw [if_pos AF])
 with_reducible rfl
 }
 rotate_left
 · simp only [Act.put, zs, zz, zk, i64_w, i32_w]; rfl
 refine pure_ (i := 5) (N := some 10) (v := ?_) (a' := ?_) (bA 19 63) rfl rfl (any_of HT_.out (by kernel_rfl)) (fun _ _ _ h => h) (Or.inl ⟨by rfl, ?_⟩) ?_ ?_
 rotate_left
 {
 intro w'
 go_simp
 (try rw [if_pos AF])
 with_reducible rfl
 }
 rotate_left
 · simp only [Act.put, zs, zz, zk, i64_w, i32_w]; rfl
 refine pure_ (i := 7) (N := some 12) (v := ?_) (a' := ?_) (bA 19 191) rfl rfl (any_of HT_.out (by kernel_rfl)) (fun _ _ _ h => h) (Or.inl ⟨by rfl, ?_⟩) ?_ ?_
 rotate_left
 {
 intro w'
 go_simp
 (try rw [if_pos AF])
 with_reducible rfl
 }
 rotate_left
 · simp only [Act.put, zs, zz, zk, i64_w, i32_w]; rfl
 refine pure_ (i := 8) (N := some 13) (v := ?_) (a' := ?_) (bA 19 447) rfl rfl (any_of HT_.out (by kernel_rfl)) (fun _ _ _ h => h) (Or.inl ⟨by rfl, ?_⟩) ?_ ?_
 rotate_left
 {
 intro w'
 go_simp
 (try rw [if_pos AF])
 with_reducible rfl
 }
 rotate_left
 · simp only [Act.put, zs, zz, zk, i64_w, i32_w]; rfl
 refine pure_ (i := 11) (N := some 16) (v := ?_) (a' := ?_) (bA 19 2495) rfl rfl (any_of HT_.out (by kernel_rfl)) (fun _ _ _ h => h) (Or.inl ⟨by rfl, ?_⟩) ?_ ?_
 rotate_left
 {
 intro w'
 go_simp
 (try rw [if_pos AF])
 with_reducible rfl
 }
 rotate_left
 · simp only [Act.put, zs, zz, zk, i64_w, i32_w]; rfl
 refine tK 6 11 (bA 19 2559) HT_ HW_ hHeld ?_
 refine pure_ (i := 9) (N := some 14) (v := ?_) (a' := ?_) (bA 19 3071) rfl rfl (any_of HT_.out (by kernel_rfl)) (fun _ _ _ h => h) (Or.inl ⟨by rfl, ?_⟩) ?_ ?_
 rotate_left
 {
 intro w'
 go_simp
 (try rw [if_pos AF])
 with_reducible rfl
 }
 rotate_left
 · simp only [Act.put, zs, zz, zk, i64_w, i32_w]; rfl
 refine tK 10 15 (bA 19 4095) HT_ HW_ hHeld ?_
 refine tK 12 17 (bA 19 8191) HT_ HW_ hHeld ?_
 refine pure_ (i := 13) (N := some 18) (v := ?_) (a' := ?_) (bA 19 16383) rfl rfl (any_of HT_.out (by kernel_rfl)) (fun _ _ _ h => h) (Or.inl ⟨by rfl, ?_⟩) ?_ ?_
 rotate_left
 {
 intro w'
 go_simp
 (try rw [if_pos AF])
 with_reducible rfl
 }
 rotate_left
 · simp only [Act.put, zs, zz, zk, i64_w, i32_w]; rfl
 refine pure_ (i := 14) (N := some 19) (v := ?_) (a' := ?_) (bA 19 32767) rfl rfl (any_of HT_.out (by kernel_rfl)) (fun _ _ _ h => h) (Or.inl ⟨by rfl, ?_⟩) ?_ ?_
 rotate_left
 {
 intro w'
 go_simp
 (try rw [if_pos AF])
 with_reducible rfl
 }
 rotate_left
 · simp only [Act.put, zs, zz, zk, i64_w, i32_w]; rfl
 refine pure_ (i := 15) (N := some 20) (v := ?_) (a' := ?_) (bA 19 65535) rfl rfl (any_of HT_.out (by kernel_rfl)) (fun _ _ _ h => h) (Or.inl ⟨by rfl, ?_⟩) ?_ ?_
 rotate_left
 {
 intro w'
 go_simp
 (try rw [if_pos AF])
 with_reducible rfl
 }
 rotate_left
 · simp only [Act.put, zs, zz, zk, i64_w, i32_w]; rfl
 refine pure_ (i := 16) (N := some 21) (v := ?_) (a' := ?_) (bA 19 131071) rfl rfl (any_of HT_.out (by kernel_rfl)) (fun _ _ _ h => h) (Or.inl ⟨by rfl, ?_⟩) ?_ ?_
 rotate_left
 {
 intro w'
 go_simp
 (try rw [if_pos AF])
 with_reducible rfl
 }
 rotate_left
 · simp only [Act.put, zs, zz, zk, i64_w, i32_w]; rfl
 refine pure_ (i := 17) (N := some 22) (v := ?_) (a' := ?_) (bA 19 262143) rfl rfl (any_of HT_.out (by kernel_rfl)) (fun _ _ _ h => h) (Or.inl ⟨by rfl, ?_⟩) ?_ ?_
 rotate_left
 {
 intro w'
 go_simp
 (try rw [if_pos AF])
 with_reducible rfl
 }
 rotate_left
 · simp only [Act.put, zs, zz, zk, i64_w, i32_w]; rfl
 refine pure_ (i := 18) (N := some 4) (v := ?_) (a' := ?_) (bA 19 524287) rfl rfl (any_of HT_.out (by kernel_rfl)) (fun _ _ _ h => h) (Or.inl ⟨by rfl, ?_⟩) ?_ ?_
 rotate_left
 {
 intro w'
 go_simp
 (try rw [if_pos AF])
 with_reducible rfl
 }
 rotate_left
 · simp only [Act.put, zs, zz, zk, i64_w, i32_w]; rfl
 refine done_ (done_of HT_.out (by kernel_rfl)) ?_
 try go_wp2
 go_ret
 exact ⟨by first | rfl | (simp [errW_none, errW_some] <;> rfl) | (simp only [← AU, ← AH]; first | rfl | (simp [errW_none, errW_some] <;> rfl)) | (simp [*, errW_none, errW_some] <;> rfl), zBG HB.out AR.out⟩
 }
 · rw [if_neg c9] at H; exact absurd H (by simp)
 }
 · rw [if_neg c6] at H; exact absurd H (by simp)
 }
 · rw [if_neg c5] at H; exact absurd H (by simp)
 }
 {
 replace c4 := Bool.eq_false_iff.mpr c4
 subst c4
 rw [if_neg (show ¬ (false = true) by decide)] at H
 obtain rfl := Option.some.inj H
 go_enter Try.func84, Try.ntmps84
 try go_wp2_with (first | ((with_reducible refine gate_dst (N := 3) rfl ?_); refine box_event ?hg (N := 3) ?hd (cs := #[.int .i8 AG, .int .i8 AA]) (t := 62) ?hr ?_; (case hd => rfl); (case hg => rfl); (case hr => first | (go_simp; done) | (go_simp; rfl)); intro AP hg Ap hbox hb; have Ab := ak (blk_below (g := b0) (o := .cells #[.int .i8 AS, .int .i8 AT, .int .u16 AQ, .int .u16 AI, .int .u16 AM, .int .u16 AO, .int .u16 AN, .int .u16 AL, .int .u16 AK, .int .u16 AJ, .int .u16 AD, .int .u16 AE] 35 (0, 0)) (zK AC.out) hb); have AZ := ak (below_step (zB HB.out) hb); have AY := ak (hbox); have Ac := gS HB hg; have Ag := gS HB hg; have Aa := nL AC hg; have Ae := nG AC hg; clear AC HB; have AC := Ab; have HB := AZ; have AB := AY; have Af := Ac; have AR := Ag; have AW := Aa; have AV := Ae; clear Ab AZ AY Ac Ag Aa Ae; clear hb hbox hg))
 replace AC := ak (blk_drew AC.out)
 replace AB := ak (blk_drew AB.out)
 replace HB := ak (below_drew1 HB.out)
 refine start_ (n := 19) (S := fun w' => w'.cell? ⟨AP, 0, none⟩ = some (.int .i8 AG) ∧ w'.cell? ⟨AP, 1, none⟩ = some (.int .i8 AA)) (ds := []) (bA 19 0) (by kernel_rfl) rfl rfl ⟨(blk_cell AB.out 0).trans rfl, (blk_cell AB.out 1).trans rfl⟩ (fun hHeld => ?_); refine with_tabW spec_l01Free.tab1 spec_l01Free.bits1 (fun HT_ HW_ => ?_)
 generalize Ap.drew = Aw at AC AB HB hHeld ⊢
 refine pU 0 5 (bA 19 1) HT_ ?_
 refine tK 1 6 (bA 19 3) HT_ HW_ hHeld ?_
 refine one_ (i := 2) (N := some 7) (bA 19 7) rfl rfl (one_of HT_.out (by kernel_rfl)) (by decide) (fun K hK => ?_)
 refine goes_ Try.func73 (by kernel_rfl) rfl #[.pointer (some ⟨b0, 0, none⟩), .agg #[.int .i8 AG, .int .i8 AA]] (by rfl) rfl rfl gl_ ?_
 with_reducible refine (spec_l01Is.calls b0 AS AT AQ AI AM AO AN AL AK AJ AD AE AG AA false _ ?side1 A3.out).mono ?_
 (case side1 => exact (zK AC.out))
 rintro e Ax ⟨rfl, hb⟩
 refine ⟨_, rfl, ?_⟩
 replace AC := kK AC hb
 replace AB := kK AB hb
 replace HB := kB1 HB AR hb
 refine hK.out _ _ ⟨(blk_cell AB.out 0).trans rfl, (blk_cell AB.out 1).trans rfl⟩ (fun hHeld => ?_)
 clear hK K
 refine norm_ (a' := ?_) ?_ ?_
 rotate_left
 {
 show Act.put _ (some 7) _ = _
 simp only [Act.put, zs, zz, zk, i64_w, i32_w]
 rfl
 }
 refine pU 3 8 (bA 19 15) HT_ ?_
 refine pN 4 9 (bA 19 31) HT_ ?_
 refine pN 5 10 (bA 19 63) HT_ ?_
 refine pN 6 11 (bA 19 127) HT_ ?_
 refine pN 7 12 (bA 19 255) HT_ ?_
 refine pN 8 13 (bA 19 511) HT_ ?_
 refine pN 9 14 (bA 19 1023) HT_ ?_
 refine pN 10 15 (bA 19 2047) HT_ ?_
 refine pN 11 16 (bA 19 4095) HT_ ?_
 refine pN 12 17 (bA 19 8191) HT_ ?_
 refine pN 13 18 (bA 19 16383) HT_ ?_
 refine pN 14 19 (bA 19 32767) HT_ ?_
 refine pN 15 20 (bA 19 65535) HT_ ?_
 refine pN 16 21 (bA 19 131071) HT_ ?_
 refine pU 17 22 (bA 19 262143) HT_ ?_
 refine pU 18 4 (bA 19 524287) HT_ ?_
 refine done_ (done_of HT_.out (by kernel_rfl)) ?_
 try go_wp2
 go_ret
 exact ⟨rfl, zBG HB.out AR.out⟩
 }
end Go.Proofs.Ytooidjdgfoioiaa.P
