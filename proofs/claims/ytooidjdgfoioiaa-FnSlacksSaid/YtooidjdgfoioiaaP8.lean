-- Printed by wip/print (my turned copy of the kit's print) out of the translation; Lean checks it.
import Derived.Test.YtooidjdgfoioiaaP0
import Derived.Test.YtooidjdgfoioiaaP6
namespace Go.Proofs.Ytooidjdgfoioiaa.P
open Go.RowKit Go.Proofs.YtooidjdgfoioiaaW.PrintWords Go.Proofs.YtooidjdgfoioiaaW.PrintLast Go.Proofs.YtooidjdgfoioiaaW.PrintMore
attribute [local go_sem] max2_int min2_int max_two min_two max_three min_three max_four min_four   -- for this text's walks alone
set_option linter.unusedVariables false
set_option linter.unusedSimpArgs false

/-! ### impl_Room_isFree: function 99 -/
def impl_Room_isFree.f (AN : Int) (AO : Int) (AL : Int) (AG : Int) (AH : Int) (AF : Int) (AJ : Int) (AI : Int) (AK : Int) (AE : Int) (AD : Int) (AC : Int) (AA : Int) (AB : Int) : Option (Bool) := (impl_Room_isCell.f AN AO AL AG AH AF AJ AI AK AE AD AC AA AB).bind fun AM => (if AM = true then (if 0 ≤ AB then (if AB < 10 then (if AB = 0 then (if 0 ≤ AA then (some ((Go.bits .and .u16 (shr .u16 AL AA) 1) == 0)) else (none)) else (if AB = 1 then (if 0 ≤ AA then (some ((Go.bits .and .u16 (shr .u16 AG AA) 1) == 0)) else (none)) else (if AB = 2 then (if 0 ≤ AA then (some ((Go.bits .and .u16 (shr .u16 AH AA) 1) == 0)) else (none)) else (if AB = 3 then (if 0 ≤ AA then (some ((Go.bits .and .u16 (shr .u16 AF AA) 1) == 0)) else (none)) else (if AB = 4 then (if 0 ≤ AA then (some ((Go.bits .and .u16 (shr .u16 AJ AA) 1) == 0)) else (none)) else (if AB = 5 then (if 0 ≤ AA then (some ((Go.bits .and .u16 (shr .u16 AI AA) 1) == 0)) else (none)) else (if AB = 6 then (if 0 ≤ AA then (some ((Go.bits .and .u16 (shr .u16 AK AA) 1) == 0)) else (none)) else (if AB = 7 then (if 0 ≤ AA then (some ((Go.bits .and .u16 (shr .u16 AE AA) 1) == 0)) else (none)) else (if AB = 8 then (if 0 ≤ AA then (some ((Go.bits .and .u16 (shr .u16 AD AA) 1) == 0)) else (none)) else (if AB = 9 then (if 0 ≤ AA then (some ((Go.bits .and .u16 (shr .u16 AC AA) 1) == 0)) else (none)) else (none))))))))))) else (none)) else (none)) else (some false))
def impl_Room_isFree.T1 : Bool × List (List Nat × List Nat) := (true, [([], []), ([], []), ([0, 1], [0, 1]), ([2, 2], [2]), ([3], [3]), ([4, 3], [3, 4]), ([3], [3]), ([6, 5, 3], [3, 5, 6]), ([7, 3], [3, 7]), ([3], [3]), ([9, 3], [3, 9]), ([8, 10, 3], [3, 8, 10]), ([11, 3], [3, 11]), ([12, 3], [3, 12]), ([3, 13], [3, 13]), ([14, 3, 0, 1, 2, 3, 4, 5, 6, 7, 8, 9, 10, 11, 12, 13, 14], [14])])
def impl_Room_isFree.B1 : List Nat := [0, 0, 3, 7, 15, 31, 15, 127, 255, 15, 527, 2047, 4095, 8191, 16383, 32767]
theorem impl_Room_isFree.tab1 : rtab .any (opsOf Try.f99 1) = impl_Room_isFree.T1 := by kernel_rfl
theorem impl_Room_isFree.bits1 : waitsOk impl_Room_isFree.T1.2 impl_Room_isFree.B1 = true := by kernel_rfl
set_option maxHeartbeats 8000000 in
set_option maxRecDepth 100000 in
theorem impl_Room_isFree.calls (AQ : Int) (AR : Int) (AK : Int) (AI : Int) (AN : Int) (AP : Int) (AO : Int) (AM : Int) (AL : Int) (AJ : Int) (AE : Int) (AF : Int) (AG : Int) (AC : Int) (r : Bool) (w : World) (h : impl_Room_isFree.f AQ AR AK AI AN AP AO AM AL AJ AE AF AG AC = some r) :
    Calls Try.prog 99 #[.agg #[.int .i8 AQ, .int .i8 AR, .int .u16 AK, .int .u16 AI, .int .u16 AN, .int .u16 AP, .int .u16 AO, .int .u16 AM, .int .u16 AL, .int .u16 AJ, .int .u16 AE, .int .u16 AF], .agg #[.int .i8 AG, .int .i8 AC]] w fun e w' => e = .returned (.bool r) ∧ Below w.heap.size w w' := by
 have At := Try.underlying35
 have Au := Try.underlying62
 have HB := ak (Below.refl w.heap.size w)
 have H := h
 unfold impl_Room_isFree.f at H
 clear h
 replace H := Option.bind_eq_some_iff.mp H
 obtain ⟨Ai, Ao, H⟩ := H
 have A3 := ak Ao
 clear Ao
 by_cases c4 : Ai = true
 {
 subst c4
 rw [if_pos rfl] at H
 by_cases c5 : 0 ≤ AC
 {
 rw [if_pos c5] at H
 have Ah : decide (0 ≤ AC) = true := decide_eq_true c5
 clear c5
 by_cases c6 : AC < 10
 {
 rw [if_pos c6] at H
 have Aj : decide (AC < 10) = true := decide_eq_true c6
 clear c6
 obtain ⟨u_, Am, H⟩ : ∃ u_ : Int, (#[.int .i8 AQ, .int .i8 AR, .int .u16 AK, .int .u16 AI, .int .u16 AN, .int .u16 AP, .int .u16 AO, .int .u16 AM, .int .u16 AL, .int .u16 AJ, .int .u16 AE, .int .u16 AF] : Array Value)[2 + AC.toNat]? = some (.int .u16 u_) ∧ (if 0 ≤ AG then (some ((Go.bits .and .u16 (shr .u16 u_ AG) 1) == 0)) else (none)) = some r := by
  by_cases e_ : AC = 0
  · rw [if_pos e_] at H; exact ⟨AK, by rw [e_]; rfl, H⟩
  rw [if_neg e_] at H
  by_cases e_ : AC = 1
  · rw [if_pos e_] at H; exact ⟨AI, by rw [e_]; rfl, H⟩
  rw [if_neg e_] at H
  by_cases e_ : AC = 2
  · rw [if_pos e_] at H; exact ⟨AN, by rw [e_]; rfl, H⟩
  rw [if_neg e_] at H
  by_cases e_ : AC = 3
  · rw [if_pos e_] at H; exact ⟨AP, by rw [e_]; rfl, H⟩
  rw [if_neg e_] at H
  by_cases e_ : AC = 4
  · rw [if_pos e_] at H; exact ⟨AO, by rw [e_]; rfl, H⟩
  rw [if_neg e_] at H
  by_cases e_ : AC = 5
  · rw [if_pos e_] at H; exact ⟨AM, by rw [e_]; rfl, H⟩
  rw [if_neg e_] at H
  by_cases e_ : AC = 6
  · rw [if_pos e_] at H; exact ⟨AL, by rw [e_]; rfl, H⟩
  rw [if_neg e_] at H
  by_cases e_ : AC = 7
  · rw [if_pos e_] at H; exact ⟨AJ, by rw [e_]; rfl, H⟩
  rw [if_neg e_] at H
  by_cases e_ : AC = 8
  · rw [if_pos e_] at H; exact ⟨AE, by rw [e_]; rfl, H⟩
  rw [if_neg e_] at H
  by_cases e_ : AC = 9
  · rw [if_pos e_] at H; exact ⟨AF, by rw [e_]; rfl, H⟩
  rw [if_neg e_] at H
  exact absurd H (by simp)
 have AS : 0 ≤ AC ∧ AC < 10 := ⟨of_decide_eq_true Ah, of_decide_eq_true Aj⟩
 by_cases c8 : 0 ≤ AG
 {
 rw [if_pos c8] at H
 have Ap := eq_true c8
 have Aq : decide (0 ≤ AG) = true := decide_eq_true c8
 clear c8
 obtain ⟨Ak, AX⟩ : ∃ j_ : Int, (shr .u16 u_ AG) = j_ := ⟨_, rfl⟩
 first | rw [AX] at H | simp only [AX] at H
 (try rw [AX] at A3)
 have Al : (u_ / 2 ^ min AG.toNat 16) = Ak := AX
 have An : AG ≤ 16 → (u_ / 2 ^ AG.toNat) = Ak := shr_small AX
 obtain rfl := Option.some.inj H
 go_enter Try.func99, Try.ntmps99
 try go_wp2_with (first | ((with_reducible refine gate_dst (N := 2) rfl ?_); refine box_event ?hg (N := 2) ?hd (cs := #[.int .i8 AQ, .int .i8 AR, .int .u16 AK, .int .u16 AI, .int .u16 AN, .int .u16 AP, .int .u16 AO, .int .u16 AM, .int .u16 AL, .int .u16 AJ, .int .u16 AE, .int .u16 AF]) (t := 35) ?hr ?_; (case hd => rfl); (case hg => rfl); (case hr => first | (go_simp; done) | (go_simp; rfl)); intro AB hg Av hbox hb; have Aa := ak (below_step (zB HB.out) hb); have AZ := ak (hbox); have AY := gS HB hg; have Ab := gS HB hg; clear HB; have HB := Aa; have AA := AZ; have Ag := AY; have AH := Ab; clear Aa AZ AY Ab; clear hb hbox hg) | ((with_reducible refine gate_dst (N := 3) rfl ?_); refine box_event ?hg (N := 3) ?hd (cs := #[.int .i8 AG, .int .i8 AC]) (t := 62) ?hr ?_; (case hd => rfl); (case hg => rfl); (case hr => first | (go_simp; done) | (go_simp; rfl)); intro AU hg As hbox hb; have Aa := ak (blk_below (g := AB) (o := .cells #[.int .i8 AQ, .int .i8 AR, .int .u16 AK, .int .u16 AI, .int .u16 AN, .int .u16 AP, .int .u16 AO, .int .u16 AM, .int .u16 AL, .int .u16 AJ, .int .u16 AE, .int .u16 AF] 35 (0, 0)) (zK AA.out) hb); have AZ := ak (below_step (zBG HB.out AH.out) hb); have AY := ak (hbox); have Ab := gS1 HB AH hg; have Af := gS1 HB AH hg; have Ac := nL AA hg; have Ae := nG AA hg; clear AA HB; have AA := Aa; have HB := AZ; have AD := AY; have Ad := Ab; have AT := Af; have AV := Ac; have AW := Ae; clear Aa AZ AY Ab Af Ac Ae; clear hb hbox hg))
 replace AA := ak (blk_drew AA.out)
 replace AD := ak (blk_drew AD.out)
 replace HB := ak (below_drew1 HB.out)
 refine start_ (n := 16) (S := fun w' => w'.cell? ⟨AB, 0, none⟩ = some (.int .i8 AQ) ∧ w'.cell? ⟨AB, 1, none⟩ = some (.int .i8 AR) ∧ w'.cell? ⟨AB, 2, none⟩ = some (.int .u16 AK) ∧ w'.cell? ⟨AB, 2 + AC.toNat, none⟩ = some (.int .u16 u_) ∧ w'.cell? ⟨AB, 3, none⟩ = some (.int .u16 AI) ∧ w'.cell? ⟨AB, 4, none⟩ = some (.int .u16 AN) ∧ w'.cell? ⟨AB, 5, none⟩ = some (.int .u16 AP) ∧ w'.cell? ⟨AB, 6, none⟩ = some (.int .u16 AO) ∧ w'.cell? ⟨AB, 7, none⟩ = some (.int .u16 AM) ∧ w'.cell? ⟨AB, 8, none⟩ = some (.int .u16 AL) ∧ w'.cell? ⟨AB, 9, none⟩ = some (.int .u16 AJ) ∧ w'.cell? ⟨AB, 10, none⟩ = some (.int .u16 AE) ∧ w'.cell? ⟨AB, 11, none⟩ = some (.int .u16 AF) ∧ w'.cell? ⟨AU, 0, none⟩ = some (.int .i8 AG) ∧ w'.cell? ⟨AU, 1, none⟩ = some (.int .i8 AC)) (ds := []) (bA 16 0) (by kernel_rfl) rfl rfl ⟨(blk_cell AA.out 0).trans rfl, (blk_cell AA.out 1).trans rfl, (blk_cell AA.out 2).trans rfl, (blk_cell AA.out (2 + AC.toNat)).trans Am, (blk_cell AA.out 3).trans rfl, (blk_cell AA.out 4).trans rfl, (blk_cell AA.out 5).trans rfl, (blk_cell AA.out 6).trans rfl, (blk_cell AA.out 7).trans rfl, (blk_cell AA.out 8).trans rfl, (blk_cell AA.out 9).trans rfl, (blk_cell AA.out 10).trans rfl, (blk_cell AA.out 11).trans rfl, (blk_cell AD.out 0).trans rfl, (blk_cell AD.out 1).trans rfl⟩ (fun hHeld => ?_); refine with_tabW impl_Room_isFree.tab1 impl_Room_isFree.bits1 (fun HT_ HW_ => ?_)
 generalize As.drew = Ax at AA AD HB hHeld ⊢
 refine tK 0 5 (bA 16 1) HT_ HW_ hHeld ?_
 refine tK 1 6 (bA 16 3) HT_ HW_ hHeld ?_
 refine one_ (i := 2) (N := some 7) (bA 16 7) rfl rfl (one_of HT_.out (by kernel_rfl)) (by decide) (fun K hK => ?_)
 refine goes_ Try.func78 (by kernel_rfl) rfl #[.agg #[.int .i8 AQ, .int .i8 AR, .int .u16 AK, .int .u16 AI, .int .u16 AN, .int .u16 AP, .int .u16 AO, .int .u16 AM, .int .u16 AL, .int .u16 AJ, .int .u16 AE, .int .u16 AF], .agg #[.int .i8 AG, .int .i8 AC]] (by rfl) rfl rfl gl_ ?_
 with_reducible refine (impl_Room_isCell.calls AQ AR AK AI AN AP AO AM AL AJ AE AF AG AC true _ A3.out).mono ?_
 rintro e Ay ⟨rfl, hb⟩
 refine ⟨_, rfl, ?_⟩
 replace AA := kK AA hb
 replace AD := kK AD hb
 replace HB := kB2 HB AH AT hb
 refine hK.out _ _ ⟨(blk_cell AA.out 0).trans rfl, (blk_cell AA.out 1).trans rfl, (blk_cell AA.out 2).trans rfl, (blk_cell AA.out (2 + AC.toNat)).trans Am, (blk_cell AA.out 3).trans rfl, (blk_cell AA.out 4).trans rfl, (blk_cell AA.out 5).trans rfl, (blk_cell AA.out 6).trans rfl, (blk_cell AA.out 7).trans rfl, (blk_cell AA.out 8).trans rfl, (blk_cell AA.out 9).trans rfl, (blk_cell AA.out 10).trans rfl, (blk_cell AA.out 11).trans rfl, (blk_cell AD.out 0).trans rfl, (blk_cell AD.out 1).trans rfl⟩ (fun hHeld => ?_)
 clear hK K
 refine norm_ (a' := ?_) ?_ ?_
 rotate_left
 {
 show Act.put _ (some 7) _ = _
 simp only [Act.put, zs, zz, zk, i64_w, i32_w]
 rfl
 }
 refine pure_ (i := 3) (N := some 8) (v := ?_) (a' := ?_) (bA 16 15) rfl rfl (any_of HT_.out (by kernel_rfl)) (fun _ _ _ h => h) (Or.inl ⟨by rfl, ?_⟩) ?_ ?_
 rotate_left
 {
 intro w'
 go_simp
 (try rw [if_pos AS])
 with_reducible rfl
 }
 rotate_left
 · simp only [Act.put, zs, zz, zk, i64_w, i32_w]; rfl
 refine pure_ (i := 4) (N := some 9) (v := ?_) (a' := ?_) (bA 16 31) rfl rfl (any_of HT_.out (by kernel_rfl)) (fun _ _ _ h => h) (Or.inl ⟨by rfl, ?_⟩) ?_ ?_
 rotate_left
 {
 intro w'
 go_simp
 (try rw [if_pos AS])
 with_reducible rfl
 }
 rotate_left
 · simp only [Act.put, zs, zz, zk, i64_w, i32_w]; rfl
 refine pure_ (i := 6) (N := some 11) (v := ?_) (a' := ?_) (bA 16 95) rfl rfl (any_of HT_.out (by kernel_rfl)) (fun _ _ _ h => h) (Or.inl ⟨by rfl, ?_⟩) ?_ ?_
 rotate_left
 {
 intro w'
 go_simp
 (try rw [if_pos AS])
 with_reducible rfl
 }
 rotate_left
 · simp only [Act.put, zs, zz, zk, i64_w, i32_w]; rfl
 refine pure_ (i := 9) (N := some 14) (v := ?_) (a' := ?_) (bA 16 607) rfl rfl (any_of HT_.out (by kernel_rfl)) (fun _ _ _ h => h) (Or.inl ⟨by rfl, ?_⟩) ?_ ?_
 rotate_left
 {
 intro w'
 go_simp
 (try rw [if_pos AS])
 with_reducible rfl
 }
 rotate_left
 · simp only [Act.put, zs, zz, zk, i64_w, i32_w]; rfl
 refine tK 5 10 (bA 16 639) HT_ HW_ hHeld ?_
 refine pure_ (i := 7) (N := some 12) (v := ?_) (a' := ?_) (bA 16 767) rfl rfl (any_of HT_.out (by kernel_rfl)) (fun _ _ _ h => h) (Or.inl ⟨by rfl, ?_⟩) ?_ ?_
 rotate_left
 {
 intro w'
 go_simp
 (try rw [if_pos AS])
 with_reducible rfl
 }
 rotate_left
 · simp only [Act.put, zs, zz, zk, i64_w, i32_w]; rfl
 refine tK 8 13 (bA 16 1023) HT_ HW_ hHeld ?_
 refine tK 10 15 (bA 16 2047) HT_ HW_ hHeld ?_
 refine pure_ (i := 11) (N := some 16) (v := ?_) (a' := ?_) (bA 16 4095) rfl rfl (any_of HT_.out (by kernel_rfl)) (fun _ _ _ h => h) (Or.inl ⟨by rfl, ?_⟩) ?_ ?_
 rotate_left
 {
 intro w'
 go_simp
 (try rw [if_pos AS])
 with_reducible rfl
 }
 rotate_left
 · simp only [Act.put, zs, zz, zk, i64_w, i32_w]; rfl
 refine pure_ (i := 12) (N := some 17) (v := ?_) (a' := ?_) (bA 16 8191) rfl rfl (any_of HT_.out (by kernel_rfl)) (fun _ _ _ h => h) (Or.inl ⟨by rfl, ?_⟩) ?_ ?_
 rotate_left
 {
 intro w'
 go_simp
 (try rw [if_pos AS])
 with_reducible rfl
 }
 rotate_left
 · simp only [Act.put, zs, zz, zk, i64_w, i32_w]; rfl
 refine pure_ (i := 13) (N := some 18) (v := ?_) (a' := ?_) (bA 16 16383) rfl rfl (any_of HT_.out (by kernel_rfl)) (fun _ _ _ h => h) (Or.inl ⟨by rfl, ?_⟩) ?_ ?_
 rotate_left
 {
 intro w'
 go_simp
 (try rw [if_pos AS])
 with_reducible rfl
 }
 rotate_left
 · simp only [Act.put, zs, zz, zk, i64_w, i32_w]; rfl
 refine pure_ (i := 14) (N := some 19) (v := ?_) (a' := ?_) (bA 16 32767) rfl rfl (any_of HT_.out (by kernel_rfl)) (fun _ _ _ h => h) (Or.inl ⟨by rfl, ?_⟩) ?_ ?_
 rotate_left
 {
 intro w'
 go_simp
 (try rw [if_pos AS])
 with_reducible rfl
 }
 rotate_left
 · simp only [Act.put, zs, zz, zk, i64_w, i32_w]; rfl
 refine pure_ (i := 15) (N := some 4) (v := ?_) (a' := ?_) (bA 16 65535) rfl rfl (any_of HT_.out (by kernel_rfl)) (fun _ _ _ h => h) (Or.inl ⟨by rfl, ?_⟩) ?_ ?_
 rotate_left
 {
 intro w'
 go_simp
 (try rw [if_pos AS])
 with_reducible rfl
 }
 rotate_left
 · simp only [Act.put, zs, zz, zk, i64_w, i32_w]; rfl
 refine done_ (done_of HT_.out (by kernel_rfl)) ?_
 try go_wp2
 go_ret
 exact ⟨by first | rfl | (simp [errW_none, errW_some] <;> rfl) | (simp only [← AX]; first | rfl | (simp [errW_none, errW_some] <;> rfl)) | (simp [*, errW_none, errW_some] <;> rfl), zH2 HB AH AT⟩
 }
 · rw [if_neg c8] at H; exact absurd H (by simp)
 }
 · rw [if_neg c6] at H; exact absurd H (by simp)
 }
 · rw [if_neg c5] at H; exact absurd H (by simp)
 }
 {
 replace c4 := Bool.eq_false_iff.mpr c4
 subst c4
 rw [if_neg (show ¬ (false = true) by decide)] at H
 obtain rfl := Option.some.inj H
 go_enter Try.func99, Try.ntmps99
 try go_wp2_with (first | ((with_reducible refine gate_dst (N := 2) rfl ?_); refine box_event ?hg (N := 2) ?hd (cs := #[.int .i8 AQ, .int .i8 AR, .int .u16 AK, .int .u16 AI, .int .u16 AN, .int .u16 AP, .int .u16 AO, .int .u16 AM, .int .u16 AL, .int .u16 AJ, .int .u16 AE, .int .u16 AF]) (t := 35) ?hr ?_; (case hd => rfl); (case hg => rfl); (case hr => first | (go_simp; done) | (go_simp; rfl)); intro AB hg Aw hbox hb; have Aa := ak (below_step (zB HB.out) hb); have AZ := ak (hbox); have AY := gS HB hg; have Ab := gS HB hg; clear HB; have HB := Aa; have AA := AZ; have Ag := AY; have AH := Ab; clear Aa AZ AY Ab; clear hb hbox hg) | ((with_reducible refine gate_dst (N := 3) rfl ?_); refine box_event ?hg (N := 3) ?hd (cs := #[.int .i8 AG, .int .i8 AC]) (t := 62) ?hr ?_; (case hd => rfl); (case hg => rfl); (case hr => first | (go_simp; done) | (go_simp; rfl)); intro AU hg Ar hbox hb; have Aa := ak (blk_below (g := AB) (o := .cells #[.int .i8 AQ, .int .i8 AR, .int .u16 AK, .int .u16 AI, .int .u16 AN, .int .u16 AP, .int .u16 AO, .int .u16 AM, .int .u16 AL, .int .u16 AJ, .int .u16 AE, .int .u16 AF] 35 (0, 0)) (zK AA.out) hb); have AZ := ak (below_step (zBG HB.out AH.out) hb); have AY := ak (hbox); have Ab := gS1 HB AH hg; have Af := gS1 HB AH hg; have Ac := nL AA hg; have Ae := nG AA hg; clear AA HB; have AA := Aa; have HB := AZ; have AD := AY; have Ad := Ab; have AT := Af; have AV := Ac; have AW := Ae; clear Aa AZ AY Ab Af Ac Ae; clear hb hbox hg))
 replace AA := ak (blk_drew AA.out)
 replace AD := ak (blk_drew AD.out)
 replace HB := ak (below_drew1 HB.out)
 refine start_ (n := 16) (S := fun w' => w'.cell? ⟨AB, 0, none⟩ = some (.int .i8 AQ) ∧ w'.cell? ⟨AB, 1, none⟩ = some (.int .i8 AR) ∧ w'.cell? ⟨AB, 2, none⟩ = some (.int .u16 AK) ∧ w'.cell? ⟨AB, 3, none⟩ = some (.int .u16 AI) ∧ w'.cell? ⟨AB, 4, none⟩ = some (.int .u16 AN) ∧ w'.cell? ⟨AB, 5, none⟩ = some (.int .u16 AP) ∧ w'.cell? ⟨AB, 6, none⟩ = some (.int .u16 AO) ∧ w'.cell? ⟨AB, 7, none⟩ = some (.int .u16 AM) ∧ w'.cell? ⟨AB, 8, none⟩ = some (.int .u16 AL) ∧ w'.cell? ⟨AB, 9, none⟩ = some (.int .u16 AJ) ∧ w'.cell? ⟨AB, 10, none⟩ = some (.int .u16 AE) ∧ w'.cell? ⟨AB, 11, none⟩ = some (.int .u16 AF) ∧ w'.cell? ⟨AU, 0, none⟩ = some (.int .i8 AG) ∧ w'.cell? ⟨AU, 1, none⟩ = some (.int .i8 AC)) (ds := []) (bA 16 0) (by kernel_rfl) rfl rfl (cr12 AA ⟨(blk_cell AD.out 0).trans rfl, (blk_cell AD.out 1).trans rfl⟩) (fun hHeld => ?_); refine with_tabW impl_Room_isFree.tab1 impl_Room_isFree.bits1 (fun HT_ HW_ => ?_)
 generalize Ar.drew = A0 at AA AD HB hHeld ⊢
 refine tK 0 5 (bA 16 1) HT_ HW_ hHeld ?_
 refine tK 1 6 (bA 16 3) HT_ HW_ hHeld ?_
 refine one_ (i := 2) (N := some 7) (bA 16 7) rfl rfl (one_of HT_.out (by kernel_rfl)) (by decide) (fun K hK => ?_)
 refine goes_ Try.func78 (by kernel_rfl) rfl #[.agg #[.int .i8 AQ, .int .i8 AR, .int .u16 AK, .int .u16 AI, .int .u16 AN, .int .u16 AP, .int .u16 AO, .int .u16 AM, .int .u16 AL, .int .u16 AJ, .int .u16 AE, .int .u16 AF], .agg #[.int .i8 AG, .int .i8 AC]] (by rfl) rfl rfl gl_ ?_
 with_reducible refine (impl_Room_isCell.calls AQ AR AK AI AN AP AO AM AL AJ AE AF AG AC false _ A3.out).mono ?_
 rintro e Az ⟨rfl, hb⟩
 refine ⟨_, rfl, ?_⟩
 replace AA := kK AA hb
 replace AD := kK AD hb
 replace HB := kB2 HB AH AT hb
 refine hK.out _ _ (cr12 AA ⟨(blk_cell AD.out 0).trans rfl, (blk_cell AD.out 1).trans rfl⟩) (fun hHeld => ?_)
 clear hK K
 refine norm_ (a' := ?_) ?_ ?_
 rotate_left
 {
 show Act.put _ (some 7) _ = _
 simp only [Act.put, zs, zz, zk, i64_w, i32_w]
 rfl
 }
 refine pU 3 8 (bA 16 15) HT_ ?_
 refine pN 4 9 (bA 16 31) HT_ ?_
 refine pN 5 10 (bA 16 63) HT_ ?_
 refine pN 6 11 (bA 16 127) HT_ ?_
 refine pN 7 12 (bA 16 255) HT_ ?_
 refine pN 8 13 (bA 16 511) HT_ ?_
 refine pN 9 14 (bA 16 1023) HT_ ?_
 refine pN 10 15 (bA 16 2047) HT_ ?_
 refine pN 11 16 (bA 16 4095) HT_ ?_
 refine pN 12 17 (bA 16 8191) HT_ ?_
 refine pN 13 18 (bA 16 16383) HT_ ?_
 refine pU 14 19 (bA 16 32767) HT_ ?_
 refine pU 15 4 (bA 16 65535) HT_ ?_
 refine done_ (done_of HT_.out (by kernel_rfl)) ?_
 try go_wp2
 go_ret
 exact ⟨rfl, zH2 HB AH AT⟩
 }
end Go.Proofs.Ytooidjdgfoioiaa.P
