-- Printed by wip/print (my turned copy of the kit's print) out of the translation; Lean checks it.
import Derived.Test.YtobickehjnogjaaGreatDoorP0
import Derived.Test.YtobickehjnogjaaGreatDoorP3
import Derived.Test.YtobickehjnogjaaGreatDoorP4
import Derived.Test.YtobickehjnogjaaGreatDoorP5
import Derived.Test.YtobickehjnogjaaGreatDoorP6
namespace Go.Proofs.YtobickehjnogjaaGreatDoor.P
open Go.RowKit Go.Proofs.YtobickehjnogjaaGreatDoorW.PrintWords Go.Proofs.YtobickehjnogjaaGreatDoorW.PrintLast Go.Proofs.YtobickehjnogjaaGreatDoorW.PrintMore
attribute [local go_sem] max2_int min2_int max_two min_two max_three min_three max_four min_four   -- for this text's walks alone
set_option linter.unusedVariables false
set_option linter.unusedSimpArgs false

/-! ### impl_ChangedBy: function 11 -/
def impl_ChangedBy.l0 : Nat → List ByteArray → List Int → Int → Int → Option (List Int × Int)
  | 0, _, _, _, _ => none
  | k + 1, x7, x8, x22, x23 => if x23 < x22 then (if 0 ≤ x23 then (if x23 < (x7.length : Int) then (if 0 ≤ (wrap64 (x23 + 1)) then (if (wrap64 (x23 + 1)) < (x7.length : Int) then (if (rdOf ByteArray.empty x7 x23).toList = (rdOf ByteArray.empty x7 (wrap64 (x23 + 1))).toList then (impl_ChangedBy.l0 k x7 x8 x22 (wrap64 (x23 + 1))) else (if x8.length < 17592186044416 then (impl_ChangedBy.l0 k x7 (x8 ++ [x23]) x22 (wrap64 (x23 + 1))) else (none))) else (none)) else (none)) else (none)) else (none)) else (some (x8, 0))
def impl_ChangedBy.f (k : Nat) (l0 : List (S40)) (a1 : ByteArray) (a977_0 : Int) : Option (List Int × Int) := (impl_chainCode.f k l0 (([a1] : List ByteArray))).bind fun t266 => (if t266 = 0 then ((impl_heard.f k l0 a1 a977_0).bind fun t267 => (impl_ChangedBy.l0 k t267 (([] : List Int)) (l0.length : Int) 0)) else (some (([] : List Int), t266)))
set_option maxHeartbeats 8000000 in
set_option maxRecDepth 100000 in
theorem impl_ChangedBy.calls (k : Nat) (A0 : Option Addr) (c0 : Nat) (l0 : List (S40)) (a1 : ByteArray) (a977_0 : Int) (r1 : List Int) (r2 : Int) (w : World) (hr0 : Kd.C k40 w A0 l0.length l0) (hc0 : l0.length ≤ c0) (hx977 : w.heap[0]? = some (.cells #[.int .i64 a977_0] 3 (0, 0))) (h : impl_ChangedBy.f k l0 a1 a977_0 = some (r1, r2)) :
    Calls Tryz.prog 11 #[.slice A0 l0.length c0, .string a1] w fun e w' => ∃ v0_ : Value, e = .returned (.tuple #[v0_, .int .i64 r2]) ∧ Kd.R (Kd.int .i64) 2 w' w.heap.size (fun _ => True) v0_ r1 ∧ Below w.heap.size w w' := by
 have HR0 := ak hr0
 have HC0 := ak hc0
 clear hr0 hc0
 have BK977 := ak hx977
 clear hx977
 have HB := ak (Below.refl w.heap.size w)
 have H := h
 unfold impl_ChangedBy.f at H
 clear h
 obtain ⟨y263, hy263⟩ : ∃ y_ : List ByteArray, y_ = (([a1] : List ByteArray)) := ⟨_, rfl⟩
 replace H : ((impl_chainCode.f k l0 y263).bind fun t266 => (if t266 = 0 then ((impl_heard.f k l0 a1 a977_0).bind fun t267 => (impl_ChangedBy.l0 k t267 (([] : List Int)) (l0.length : Int) 0)) else (some (([] : List Int), t266)))) = some (r1, r2) := by first | (rw [hy263]; with_reducible exact H) | (have H2_ := (Option.bind_some _ _).symm.trans H; rw [hy263]; with_reducible exact H2_) | (have H2_ := (Option.bind_some _ _).symm.trans H; with_reducible exact H2_) | with_reducible exact H | (rw [hy263]; exact H) | exact H
 have Ny263 := ak hy263
 clear hy263
 replace H := Option.bind_eq_some_iff.mp H
 obtain ⟨t266, A40, H⟩ := H
 have A4 := ak A40
 clear A40
 by_cases c5 : t266 = 0
 {
 rw [if_pos c5] at H
 have c5b0 : (t266 == 0) = true := beq_iff_eq.mpr c5
 have c5b1 : (t266 != 0) = false := bne_eq_false_iff_eq.mpr c5
 clear c5
 replace H := Option.bind_eq_some_iff.mp H
 obtain ⟨t267, A60, H⟩ := H
 have A6 := ak A60
 clear A60
 obtain ⟨y270, hy270⟩ : ∃ y_ : List Int, y_ = (([] : List Int)) := ⟨_, rfl⟩
 replace H : (impl_ChangedBy.l0 k t267 y270 (l0.length : Int) 0) = some (r1, r2) := by first | (rw [hy270]; with_reducible exact H) | (have H2_ := (Option.bind_some _ _).symm.trans H; rw [hy270]; with_reducible exact H2_) | (have H2_ := (Option.bind_some _ _).symm.trans H; with_reducible exact H2_) | with_reducible exact H | (rw [hy270]; exact H) | exact H
 have Ny270 := ak hy270
 clear hy270
 have H' := ak H
 clear H
 go_enter Tryz.func11, Tryz.ntmps11
 go_wp2_with (first | ((with_reducible refine gate_dst (N := 12) rfl ?_); refine Kd.R_lit Kd.string _ 9 ?hg (N := 12) ?hd (xs := ([a1] : List ByteArray)) (inner := [.string a1]) (ok := fun _ => True) (okp := fun _ => True) ?hr ?hp (fun _ hk => hk) trivial (Below.refl _ _) (Nat.le_refl _) (by simp) ?_; (case hd => rfl); (case hg => rfl); (case hr => first | (go_simp; done) | (go_simp; rfl)); (case hp => exact (Reps.one (show Kd.M Kd.string _ _ _ a1 [.string a1] from rfl) (Reps.none _ _))); intro v264 w7 ho8 hb hg_ hnew_; clear hg_ hnew_; (first | rw [← Ny263.out] at ho8 | (simp only [Int.reduceToNat] at ho8; rw [← Ny263.out] at ho8)); have HO265 := ak (Kd.R_lower ho8 (below_size (zB HB.out))); replace BK977 := kK BK977 hb; replace HB := kB HB hb; clear hb ho8; obtain ⟨Ao9, co9, eo9⟩ := Kd.R_slice HO265.out; subst eo9) | (go_at_call 32; (with_reducible refine (impl_chainCode.calls k _ _ l0 _ _ y263 t266 _ ?side1 ?side2 ?side3 ?side4 A4.out).mono ?_); (case side1 => exact sQ (Kd.C_below HR0.out HB.out)); (case side2 => exact HC0.out); (case side3 => exact sC HO265); (case side4 => exact sL HO265); rintro e w10 ⟨rfl, hb⟩; replace HO265 := kR HO265 hb; replace BK977 := kK BK977 hb; replace HB := kB HB hb; (try clear hb)) | (go_at_call 36; (with_reducible refine (impl_heard.calls k _ _ l0 a1 a977_0 t267 _ ?side1 ?side2 ?side3 A6.out).mono ?_); (case side1 => exact sQ (Kd.C_below HR0.out HB.out)); (case side2 => exact HC0.out); (case side3 => exact (zK BK977.out)); rintro e w11 ⟨v268, rfl, ho0, hb⟩; have HO269 := ak (Kd.R_lower (Kd.R_new' ho0 (Kd.R_lt (zR HO265.out))) (below_size (zB HB.out))); replace HO265 := kE HO265 ho0 hb; replace BK977 := kK BK977 hb; replace HB := kB HB hb; (try clear hb); (try clear ho0)) | ((with_reducible refine gate_dst (N := 20) rfl ?_); refine Kd.R_lit (Kd.int .i64) _ 2 ?hg (N := 20) ?hd (xs := ([] : List Int)) (inner := []) (ok := fun _ => True) (okp := fun _ => True) ?hr ?hp (fun _ hk => hk) trivial (Below.refl _ _) (Nat.le_refl _) (by simp) ?_; (case hd => rfl); (case hg => rfl); (case hr => first | (go_simp; done) | (go_simp; rfl)); (case hp => exact (Reps.none _ _)); intro v271 w12 ho13 hb hg_ hnew_; clear hg_ hnew_; (first | rw [← Ny270.out] at ho13 | (simp only [Int.reduceToNat] at ho13; rw [← Ny270.out] at ho13)); have HO272 := ak (Kd.R_lower ho13 (below_size (zB HB.out))); replace HO265 := kR HO265 hb; replace HO269 := kR HO269 hb; replace BK977 := kK BK977 hb; replace HB := kB HB hb; clear hb ho13))
 repeat (go_quiet (first | ((with_reducible refine gate_dst (N := 12) rfl ?_); refine Kd.R_lit Kd.string _ 9 ?hg (N := 12) ?hd (xs := ([a1] : List ByteArray)) (inner := [.string a1]) (ok := fun _ => True) (okp := fun _ => True) ?hr ?hp (fun _ hk => hk) trivial (Below.refl _ _) (Nat.le_refl _) (by simp) ?_; (case hd => rfl); (case hg => rfl); (case hr => first | (go_simp; done) | (go_simp; rfl)); (case hp => exact (Reps.one (show Kd.M Kd.string _ _ _ a1 [.string a1] from rfl) (Reps.none _ _))); intro v264 w7 ho8 hb hg_ hnew_; clear hg_ hnew_; (first | rw [← Ny263.out] at ho8 | (simp only [Int.reduceToNat] at ho8; rw [← Ny263.out] at ho8)); have HO265 := ak (Kd.R_lower ho8 (below_size (zB HB.out))); replace BK977 := kK BK977 hb; replace HB := kB HB hb; clear hb ho8; obtain ⟨Ao9, co9, eo9⟩ := Kd.R_slice HO265.out; subst eo9) | (go_at_call 32; (with_reducible refine (impl_chainCode.calls k _ _ l0 _ _ y263 t266 _ ?side1 ?side2 ?side3 ?side4 A4.out).mono ?_); (case side1 => exact sQ (Kd.C_below HR0.out HB.out)); (case side2 => exact HC0.out); (case side3 => exact sC HO265); (case side4 => exact sL HO265); rintro e w10 ⟨rfl, hb⟩; replace HO265 := kR HO265 hb; replace BK977 := kK BK977 hb; replace HB := kB HB hb; (try clear hb)) | (go_at_call 36; (with_reducible refine (impl_heard.calls k _ _ l0 a1 a977_0 t267 _ ?side1 ?side2 ?side3 A6.out).mono ?_); (case side1 => exact sQ (Kd.C_below HR0.out HB.out)); (case side2 => exact HC0.out); (case side3 => exact (zK BK977.out)); rintro e w11 ⟨v268, rfl, ho0, hb⟩; have HO269 := ak (Kd.R_lower (Kd.R_new' ho0 (Kd.R_lt (zR HO265.out))) (below_size (zB HB.out))); replace HO265 := kE HO265 ho0 hb; replace BK977 := kK BK977 hb; replace HB := kB HB hb; (try clear hb); (try clear ho0)) | ((with_reducible refine gate_dst (N := 20) rfl ?_); refine Kd.R_lit (Kd.int .i64) _ 2 ?hg (N := 20) ?hd (xs := ([] : List Int)) (inner := []) (ok := fun _ => True) (okp := fun _ => True) ?hr ?hp (fun _ hk => hk) trivial (Below.refl _ _) (Nat.le_refl _) (by simp) ?_; (case hd => rfl); (case hg => rfl); (case hr => first | (go_simp; done) | (go_simp; rfl)); (case hp => exact (Reps.none _ _)); intro v271 w12 ho13 hb hg_ hnew_; clear hg_ hnew_; (first | rw [← Ny270.out] at ho13 | (simp only [Int.reduceToNat] at ho13; rw [← Ny270.out] at ho13)); have n0_ := ak (Kd.R_below (zR HO265.out) hb); have n1_ := ak (Kd.R_below (zR HO269.out) hb); have n2_ := ak (Kd.R_lower ho13 (below_size (zB HB.out))); have n3_ := ak (blk_below (g := 0) (o := .cells #[.int .i64 a977_0] 3 (0, 0)) (zK BK977.out) hb); have n4_ := ak (below_step (zB HB.out) hb); clear HO265 HO269 BK977 HB; have HO265 := n0_; have HO269 := n1_; have HO272 := n2_; have BK977 := n3_; have HB := n4_; clear n0_ n1_ n2_ n3_ n4_; clear hb ho13)); try go_wp2_with (first | ((with_reducible refine gate_dst (N := 12) rfl ?_); refine Kd.R_lit Kd.string _ 9 ?hg (N := 12) ?hd (xs := ([a1] : List ByteArray)) (inner := [.string a1]) (ok := fun _ => True) (okp := fun _ => True) ?hr ?hp (fun _ hk => hk) trivial (Below.refl _ _) (Nat.le_refl _) (by simp) ?_; (case hd => rfl); (case hg => rfl); (case hr => first | (go_simp; done) | (go_simp; rfl)); (case hp => exact (Reps.one (show Kd.M Kd.string _ _ _ a1 [.string a1] from rfl) (Reps.none _ _))); intro v264 w7 ho8 hb hg_ hnew_; clear hg_ hnew_; (first | rw [← Ny263.out] at ho8 | (simp only [Int.reduceToNat] at ho8; rw [← Ny263.out] at ho8)); have HO265 := ak (Kd.R_lower ho8 (below_size (zB HB.out))); replace BK977 := kK BK977 hb; replace HB := kB HB hb; clear hb ho8; obtain ⟨Ao9, co9, eo9⟩ := Kd.R_slice HO265.out; subst eo9) | (go_at_call 32; (with_reducible refine (impl_chainCode.calls k _ _ l0 _ _ y263 t266 _ ?side1 ?side2 ?side3 ?side4 A4.out).mono ?_); (case side1 => exact sQ (Kd.C_below HR0.out HB.out)); (case side2 => exact HC0.out); (case side3 => exact sC HO265); (case side4 => exact sL HO265); rintro e w10 ⟨rfl, hb⟩; replace HO265 := kR HO265 hb; replace BK977 := kK BK977 hb; replace HB := kB HB hb; (try clear hb)) | (go_at_call 36; (with_reducible refine (impl_heard.calls k _ _ l0 a1 a977_0 t267 _ ?side1 ?side2 ?side3 A6.out).mono ?_); (case side1 => exact sQ (Kd.C_below HR0.out HB.out)); (case side2 => exact HC0.out); (case side3 => exact (zK BK977.out)); rintro e w11 ⟨v268, rfl, ho0, hb⟩; have HO269 := ak (Kd.R_lower (Kd.R_new' ho0 (Kd.R_lt (zR HO265.out))) (below_size (zB HB.out))); replace HO265 := kE HO265 ho0 hb; replace BK977 := kK BK977 hb; replace HB := kB HB hb; (try clear hb); (try clear ho0)) | ((with_reducible refine gate_dst (N := 20) rfl ?_); refine Kd.R_lit (Kd.int .i64) _ 2 ?hg (N := 20) ?hd (xs := ([] : List Int)) (inner := []) (ok := fun _ => True) (okp := fun _ => True) ?hr ?hp (fun _ hk => hk) trivial (Below.refl _ _) (Nat.le_refl _) (by simp) ?_; (case hd => rfl); (case hg => rfl); (case hr => first | (go_simp; done) | (go_simp; rfl)); (case hp => exact (Reps.none _ _)); intro v271 w12 ho13 hb hg_ hnew_; clear hg_ hnew_; (first | rw [← Ny270.out] at ho13 | (simp only [Int.reduceToNat] at ho13; rw [← Ny270.out] at ho13)); have HO272 := ak (Kd.R_lower ho13 (below_size (zB HB.out))); replace HO265 := kR HO265 hb; replace HO269 := kR HO269 hb; replace BK977 := kK BK977 hb; replace HB := kB HB hb; clear hb ho13)))
 go_loopg [8, 23] k (fun kq v8 v23 w' => ∃ (x8_1 : List Int) (x23_1 : Int), v23 = .int .i64 x23_1 ∧ Aside0 (impl_ChangedBy.l0 kq t267 x8_1 (l0.length : Int) x23_1 = some (r1, r2)) ∧ Aside0 (kq ≤ k) ∧ Aside0 (Kd.R Kd.string 9 w' w.heap.size (fun _ => True) v268 t267) ∧ Aside0 (Kd.R (Kd.int .i64) 2 w' w.heap.size (fun _ => True) v8 x8_1) ∧ Aside0 (w'.heap[0]? = some (.cells #[.int .i64 a977_0] 3 (0, 0))) ∧ Aside0 (Below w.heap.size w w'))
 case atStart => exact ⟨(y270), (0), (by first | rfl | (simp; done) | (simp [*]; done)), H', ⟨Nat.le_refl _⟩, ⟨by (with_reducible repeat (first | apply Kd.R_alloc | apply Kd.R_drewN | apply Kd.R_drew)); exact Kd.R_mono HO269.out (fun _ hk => trivial)⟩, ⟨(zR HO272.out)⟩, ⟨(zK BK977.out)⟩, ⟨zB HB.out⟩⟩
 case round => (
 clear H'
 try clear c5
 try clear c5b0
 try clear c5b1
 obtain ⟨x8_1, x23_1, rfl, HA, HK1, HO_7, HO_8, BK977, HB⟩ := hrel
 cases gk with
 | zero => exact absurd HA.out (by simp [impl_ChangedBy.l0])
 | succ k1 => (
 have H := HA.out
 clear HA
 simp only [impl_ChangedBy.l0] at H
 by_cases c14 : x23_1 < (l0.length : Int)
 {
 rw [if_pos c14] at H
 have c14b0 : decide (x23_1 < (l0.length : Int)) = true := decide_eq_true c14
 clear c14
 by_cases c15 : 0 ≤ x23_1
 {
 rw [if_pos c15] at H
 have c15b0 : decide (0 ≤ x23_1) = true := decide_eq_true c15
 clear c15
 by_cases c16 : x23_1 < (t267.length : Int)
 {
 rw [if_pos c16] at H
 have c16b0 : decide (x23_1 < (t267.length : Int)) = true := decide_eq_true c16
 clear c16
 obtain ⟨ji17, hji17⟩ : ∃ j_ : Int, (wrap64 (x23_1 + 1)) = j_ := ⟨_, rfl⟩
 first | rw [hji17] at H | simp only [hji17] at H
 have hji17w : (IntKind.i64.wrap (x23_1 + 1)) = ji17 := (i64_w _).trans hji17
 by_cases c18 : 0 ≤ (ji17)
 {
 rw [if_pos c18] at H
 have c18b0 : decide (0 ≤ (ji17)) = true := decide_eq_true c18
 clear c18
 by_cases c19 : (ji17) < (t267.length : Int)
 {
 rw [if_pos c19] at H
 have c19b0 : decide ((ji17) < (t267.length : Int)) = true := decide_eq_true c19
 clear c19
 by_cases c20 : (rdOf ByteArray.empty t267 x23_1).toList = (rdOf ByteArray.empty t267 (ji17)).toList
 {
 rw [if_pos c20] at H
 have c20b0 : ((rdOf ByteArray.empty t267 x23_1).toList == (rdOf ByteArray.empty t267 (ji17)).toList) = true := beq_iff_eq.mpr c20
 have c20b1 : ((rdOf ByteArray.empty t267 x23_1).toList != (rdOf ByteArray.empty t267 (ji17)).toList) = false := bne_eq_false_iff_eq.mpr c20
 clear c20
 have H' := ak H
 clear H
 obtain ⟨Ao21, co21, eo21⟩ := Kd.R_slice HO_7.out
 subst eo21
 have p273 : 0 ≤ (x23_1 : Int) := of_decide_eq_true (by first | (with_reducible assumption) | assumption)
 have q273 : x23_1 < (t267.length : Int) := of_decide_eq_true (by first | (with_reducible assumption) | assumption)
 obtain ⟨ad273, e273, hx273_0⟩ := Kd.at_string (Kd.R_reads' HO_7.out).2.2 x23_1 p273 q273
 cases e273
 replace p273 := eq_true p273
 replace q273 := eq_true q273
 have p274 : 0 ≤ ((ji17) : Int) := of_decide_eq_true (by first | (with_reducible assumption) | assumption)
 have q274 : (ji17) < (t267.length : Int) := of_decide_eq_true (by first | (with_reducible assumption) | assumption)
 obtain ⟨ad274, e274, hx274_0⟩ := Kd.at_string (Kd.R_reads' HO_7.out).2.2 (ji17) p274 q274
 obtain rfl : ad273 = ad274 := (by injection e274)
 replace p274 := eq_true p274
 replace q274 := eq_true q274
 go_wp2
 repeat (go_quiet (fail); try go_wp2)
 go_roundg k1
 case measure => have := HK1.out; omega
 case rel => exact ⟨(x8_1), (ji17), (by first | rfl | (simp; done) | (simp only [← hji17] <;> (first | rfl | simp)) | (simp [*]; done)), H', ⟨by have := HK1.out; omega⟩, ⟨(zR HO_7.out)⟩, ⟨(zR HO_8.out)⟩, ⟨(zK BK977.out)⟩, ⟨zB HB.out⟩⟩
 }
 {
 rw [if_neg c20] at H
 have c20b0 : ((rdOf ByteArray.empty t267 x23_1).toList == (rdOf ByteArray.empty t267 (ji17)).toList) = false := beq_eq_false_iff_ne.mpr c20
 have c20b1 : ((rdOf ByteArray.empty t267 x23_1).toList != (rdOf ByteArray.empty t267 (ji17)).toList) = true := bne_iff_ne.mpr c20
 by_cases c22 : x8_1.length < 17592186044416
 {
 rw [if_pos c22] at H
 have LMc22 := ak c22
 clear c22
 obtain ⟨y275, hy275⟩ : ∃ y_ : List Int, y_ = (x8_1 ++ [x23_1]) := ⟨_, rfl⟩
 replace H : (impl_ChangedBy.l0 k1 t267 y275 (l0.length : Int) ji17) = some (r1, r2) := by first | (rw [hy275]; with_reducible exact H) | (have H2_ := (Option.bind_some _ _).symm.trans H; rw [hy275]; with_reducible exact H2_) | (have H2_ := (Option.bind_some _ _).symm.trans H; with_reducible exact H2_) | with_reducible exact H | (rw [hy275]; exact H) | exact H
 have Ny275 := ak hy275
 clear hy275
 have H' := ak H
 clear H
 obtain ⟨Ao23, co23, eo23⟩ := Kd.R_slice HO_7.out
 subst eo23
 have p273 : 0 ≤ (x23_1 : Int) := of_decide_eq_true (by first | (with_reducible assumption) | assumption)
 have q273 : x23_1 < (t267.length : Int) := of_decide_eq_true (by first | (with_reducible assumption) | assumption)
 obtain ⟨ad273, e273, hx273_0⟩ := Kd.at_string (Kd.R_reads' HO_7.out).2.2 x23_1 p273 q273
 cases e273
 replace p273 := eq_true p273
 replace q273 := eq_true q273
 have p274 : 0 ≤ ((ji17) : Int) := of_decide_eq_true (by first | (with_reducible assumption) | assumption)
 have q274 : (ji17) < (t267.length : Int) := of_decide_eq_true (by first | (with_reducible assumption) | assumption)
 obtain ⟨ad274, e274, hx274_0⟩ := Kd.at_string (Kd.R_reads' HO_7.out).2.2 (ji17) p274 q274
 obtain rfl : ad273 = ad274 := (by injection e274)
 replace p274 := eq_true p274
 replace q274 := eq_true q274
 go_wp2_with (first | ((with_reducible refine gate_builtin (b := .append) (xs := #[.tmp 36, .tmp 38]) rfl ?_); at_builtin; refine Kd.R_append (Kd.int .i64) (w0 := w) w.heap.size rfl (.tmp 36) (.tmp 38) 32 2 (.int .i64 0) 8 rfl Tryz.underlying32 info2 rfl (by decide) (by omega) u8 x8_1 x23_1 [.int .i64 x23_1] (fun _ => True) (fun _ => False) rfl rfl ?aP (fun _ hk => hk.elim) ?aF ?aO ?aB ?aS ?aL ?_; (case aP => exact rfl); (case aB => exact (zB HB.out)); (case aF => exact (fun _ _ => trivial)); (case aO => exact (zR HO_8.out)); (case aS => exact (below_size (zB HB.out))); (case aL => have := LMc22.out; omega); intro v276 w24 ho hb hg hat; rw [← Ny275.out] at ho; have HO277 := ak (ho); replace HO_7 := ak (Kd.R_over' (zR HO_7.out) (Kd.R_typed (zR HO_8.out)) (by decide) hg); replace BK977 := ak (blk_grown (g := 0) (o := .cells #[.int .i64 a977_0] 3 (0, 0)) (zK BK977.out) hg (Kd.R_ne HO_8.out BK977.out (by decide))); replace HB := ak (hb); clear HO_8 ho hb hg hat))
 repeat (go_quiet (first | ((with_reducible refine gate_builtin (b := .append) (xs := #[.tmp 36, .tmp 38]) rfl ?_); at_builtin; refine Kd.R_append (Kd.int .i64) (w0 := w) w.heap.size rfl (.tmp 36) (.tmp 38) 32 2 (.int .i64 0) 8 rfl Tryz.underlying32 info2 rfl (by decide) (by omega) u8 x8_1 x23_1 [.int .i64 x23_1] (fun _ => True) (fun _ => False) rfl rfl ?aP (fun _ hk => hk.elim) ?aF ?aO ?aB ?aS ?aL ?_; (case aP => exact rfl); (case aB => exact (zB HB.out)); (case aF => exact (fun _ _ => trivial)); (case aO => exact (zR HO_8.out)); (case aS => exact (below_size (zB HB.out))); (case aL => have := LMc22.out; omega); intro v276 w24 ho hb hg hat; rw [← Ny275.out] at ho; have n0_ := ak (Kd.R_over' (zR HO_7.out) (Kd.R_typed (zR HO_8.out)) (by decide) hg); have n1_ := ak (blk_grown (g := 0) (o := .cells #[.int .i64 a977_0] 3 (0, 0)) (zK BK977.out) hg (Kd.R_ne HO_8.out BK977.out (by decide))); have n2_ := ak (hb); have n3_ := ak (ho); clear HO_7 BK977 HB HO_8; have HO_7 := n0_; have BK977 := n1_; have HB := n2_; have HO277 := n3_; clear n0_ n1_ n2_ n3_; clear ho hb hg hat)); try go_wp2_with (first | ((with_reducible refine gate_builtin (b := .append) (xs := #[.tmp 36, .tmp 38]) rfl ?_); at_builtin; refine Kd.R_append (Kd.int .i64) (w0 := w) w.heap.size rfl (.tmp 36) (.tmp 38) 32 2 (.int .i64 0) 8 rfl Tryz.underlying32 info2 rfl (by decide) (by omega) u8 x8_1 x23_1 [.int .i64 x23_1] (fun _ => True) (fun _ => False) rfl rfl ?aP (fun _ hk => hk.elim) ?aF ?aO ?aB ?aS ?aL ?_; (case aP => exact rfl); (case aB => exact (zB HB.out)); (case aF => exact (fun _ _ => trivial)); (case aO => exact (zR HO_8.out)); (case aS => exact (below_size (zB HB.out))); (case aL => have := LMc22.out; omega); intro v276 w24 ho hb hg hat; rw [← Ny275.out] at ho; have HO277 := ak (ho); replace HO_7 := ak (Kd.R_over' (zR HO_7.out) (Kd.R_typed (zR HO_8.out)) (by decide) hg); replace BK977 := ak (blk_grown (g := 0) (o := .cells #[.int .i64 a977_0] 3 (0, 0)) (zK BK977.out) hg (Kd.R_ne HO_8.out BK977.out (by decide))); replace HB := ak (hb); clear HO_8 ho hb hg hat)))
 go_roundg k1
 case measure => have := HK1.out; omega
 case rel => exact ⟨(y275), (ji17), (by first | rfl | (simp; done) | (simp only [← hji17] <;> (first | rfl | simp)) | (simp [*]; done)), H', ⟨by have := HK1.out; omega⟩, ⟨(zR HO_7.out)⟩, ⟨(zR HO277.out)⟩, ⟨(zK BK977.out)⟩, ⟨zB HB.out⟩⟩
 }
 · rw [if_neg c22] at H; exact absurd H (by simp)
 }
 }
 · rw [if_neg c19] at H; exact absurd H (by simp)
 }
 · rw [if_neg c18] at H; exact absurd H (by simp)
 }
 · rw [if_neg c16] at H; exact absurd H (by simp)
 }
 · rw [if_neg c15] at H; exact absurd H (by simp)
 }
 {
 rw [if_neg c14] at H
 have c14b0 : decide (x23_1 < (l0.length : Int)) = false := decide_eq_false c14
 clear c14
 simp only [Option.some.injEq, Prod.mk.injEq] at H
 obtain ⟨rfl, rfl⟩ := H
 go_wp2
 repeat (go_quiet (fail); try go_wp2)
 go_ret2
 exact ⟨_, by first | rfl | (simp [errW_none, errW_some] <;> rfl) | (simp [*, errW_none, errW_some] <;> rfl), by (with_reducible repeat (first | apply Kd.R_alloc | apply Kd.R_drewN | apply Kd.R_drew)); exact HO_8.out, zB HB.out⟩
 }
 )
 )
 }
 {
 rw [if_neg c5] at H
 have c5b0 : (t266 == 0) = false := beq_eq_false_iff_ne.mpr c5
 have c5b1 : (t266 != 0) = true := bne_iff_ne.mpr c5
 simp only [Option.some.injEq, Prod.mk.injEq] at H
 obtain ⟨rfl, rfl⟩ := H
 go_enter Tryz.func11, Tryz.ntmps11
 go_wp2_with (first | ((with_reducible refine gate_dst (N := 12) rfl ?_); refine Kd.R_lit Kd.string _ 9 ?hg (N := 12) ?hd (xs := ([a1] : List ByteArray)) (inner := [.string a1]) (ok := fun _ => True) (okp := fun _ => True) ?hr ?hp (fun _ hk => hk) trivial (Below.refl _ _) (Nat.le_refl _) (by simp) ?_; (case hd => rfl); (case hg => rfl); (case hr => first | (go_simp; done) | (go_simp; rfl)); (case hp => exact (Reps.one (show Kd.M Kd.string _ _ _ a1 [.string a1] from rfl) (Reps.none _ _))); intro v264 w25 ho26 hb hg_ hnew_; clear hg_ hnew_; (first | rw [← Ny263.out] at ho26 | (simp only [Int.reduceToNat] at ho26; rw [← Ny263.out] at ho26)); have HO265 := ak (Kd.R_lower ho26 (below_size (zB HB.out))); replace BK977 := kK BK977 hb; replace HB := kB HB hb; clear hb ho26; obtain ⟨Ao27, co27, eo27⟩ := Kd.R_slice HO265.out; subst eo27) | (go_at_call 32; (with_reducible refine (impl_chainCode.calls k _ _ l0 _ _ y263 t266 _ ?side1 ?side2 ?side3 ?side4 A4.out).mono ?_); (case side1 => exact sQ (Kd.C_below HR0.out HB.out)); (case side2 => exact HC0.out); (case side3 => exact sC HO265); (case side4 => exact sL HO265); rintro e w28 ⟨rfl, hb⟩; replace HO265 := kR HO265 hb; replace BK977 := kK BK977 hb; replace HB := kB HB hb; (try clear hb)))
 repeat (go_quiet (first | ((with_reducible refine gate_dst (N := 12) rfl ?_); refine Kd.R_lit Kd.string _ 9 ?hg (N := 12) ?hd (xs := ([a1] : List ByteArray)) (inner := [.string a1]) (ok := fun _ => True) (okp := fun _ => True) ?hr ?hp (fun _ hk => hk) trivial (Below.refl _ _) (Nat.le_refl _) (by simp) ?_; (case hd => rfl); (case hg => rfl); (case hr => first | (go_simp; done) | (go_simp; rfl)); (case hp => exact (Reps.one (show Kd.M Kd.string _ _ _ a1 [.string a1] from rfl) (Reps.none _ _))); intro v264 w25 ho26 hb hg_ hnew_; clear hg_ hnew_; (first | rw [← Ny263.out] at ho26 | (simp only [Int.reduceToNat] at ho26; rw [← Ny263.out] at ho26)); have HO265 := ak (Kd.R_lower ho26 (below_size (zB HB.out))); replace BK977 := kK BK977 hb; replace HB := kB HB hb; clear hb ho26; obtain ⟨Ao27, co27, eo27⟩ := Kd.R_slice HO265.out; subst eo27) | (go_at_call 32; (with_reducible refine (impl_chainCode.calls k _ _ l0 _ _ y263 t266 _ ?side1 ?side2 ?side3 ?side4 A4.out).mono ?_); (case side1 => exact sQ (Kd.C_below HR0.out HB.out)); (case side2 => exact HC0.out); (case side3 => exact zC (Kd.R_reads' HO265.out).2.2); (case side4 => exact (Kd.R_reads' HO265.out).2.1); rintro e w28 ⟨rfl, hb⟩; have n0_ := ak (Kd.R_below (zR HO265.out) hb); have n1_ := ak (blk_below (g := 0) (o := .cells #[.int .i64 a977_0] 3 (0, 0)) (zK BK977.out) hb); have n2_ := ak (below_step (zB HB.out) hb); clear HO265 BK977 HB; have HO265 := n0_; have BK977 := n1_; have HB := n2_; clear n0_ n1_ n2_; (try clear hb); (try clear hb2); (try clear hk); (try clear hi))); try go_wp2_with (first | ((with_reducible refine gate_dst (N := 12) rfl ?_); refine Kd.R_lit Kd.string _ 9 ?hg (N := 12) ?hd (xs := ([a1] : List ByteArray)) (inner := [.string a1]) (ok := fun _ => True) (okp := fun _ => True) ?hr ?hp (fun _ hk => hk) trivial (Below.refl _ _) (Nat.le_refl _) (by simp) ?_; (case hd => rfl); (case hg => rfl); (case hr => first | (go_simp; done) | (go_simp; rfl)); (case hp => exact (Reps.one (show Kd.M Kd.string _ _ _ a1 [.string a1] from rfl) (Reps.none _ _))); intro v264 w25 ho26 hb hg_ hnew_; clear hg_ hnew_; (first | rw [← Ny263.out] at ho26 | (simp only [Int.reduceToNat] at ho26; rw [← Ny263.out] at ho26)); have HO265 := ak (Kd.R_lower ho26 (below_size (zB HB.out))); replace BK977 := kK BK977 hb; replace HB := kB HB hb; clear hb ho26; obtain ⟨Ao27, co27, eo27⟩ := Kd.R_slice HO265.out; subst eo27) | (go_at_call 32; (with_reducible refine (impl_chainCode.calls k _ _ l0 _ _ y263 t266 _ ?side1 ?side2 ?side3 ?side4 A4.out).mono ?_); (case side1 => exact sQ (Kd.C_below HR0.out HB.out)); (case side2 => exact HC0.out); (case side3 => exact sC HO265); (case side4 => exact sL HO265); rintro e w28 ⟨rfl, hb⟩; replace HO265 := kR HO265 hb; replace BK977 := kK BK977 hb; replace HB := kB HB hb; (try clear hb))))
 go_ret2
 exact ⟨_, by first | rfl | (simp [errW_none, errW_some] <;> rfl) | (simp [*, errW_none, errW_some] <;> rfl), by first | exact Kd.R_nil _ _ _ _ _ | exact Kd.N_nil _ _ _ _ _ | exact Kd.V_nil _ _ _ _ _ | exact Kd.Q_nil _ _ _ _ _ | exact Kd.S_nil _ _ _ _ _, zB HB.out⟩
 }
/-! ### spec_ChangedBy: function 12 -/
def spec_ChangedBy.l0 : Nat → List (S40) → List Int → List ByteArray → Int → Option (List Int × Int)
  | 0, _, _, _, _ => none
  | k + 1, x0, x6, x8, x9 => if x9 < (x0.length : Int) then (if 0 ≤ x9 then (if x9 < (x8.length : Int) then (if 0 ≤ (wrap64 (x9 + 1)) then (if (wrap64 (x9 + 1)) < (x8.length : Int) then (if (rdOf ByteArray.empty x8 x9).toList = (rdOf ByteArray.empty x8 (wrap64 (x9 + 1))).toList then (spec_ChangedBy.l0 k x0 x6 x8 (wrap64 (x9 + 1))) else (if x6.length < 17592186044416 then (spec_ChangedBy.l0 k x0 (x6 ++ [x9]) x8 (wrap64 (x9 + 1))) else (none))) else (none)) else (none)) else (none)) else (none)) else (some (x6, 0))
def spec_ChangedBy.f (k : Nat) (l0 : List (S40)) (a1 : ByteArray) : Option (List Int × Int) := (some (([] : List Int) : List Int)).bind fun y278 => ((spec_l04Asked.f k l0 (([a1] : List ByteArray))).bind fun t284 => (if t284 = 0 then ((spec_l04Said.f k l0 a1).bind fun t285 => (spec_ChangedBy.l0 k l0 y278 t285 0)) else (some (y278, t284))))
set_option maxHeartbeats 8000000 in
set_option maxRecDepth 100000 in
theorem spec_ChangedBy.calls (k : Nat) (A0 : Option Addr) (c0 : Nat) (l0 : List (S40)) (a1 : ByteArray) (r1 : List Int) (r2 : Int) (w : World) (hr0 : Kd.C k40 w A0 l0.length l0) (hc0 : l0.length ≤ c0) (h : spec_ChangedBy.f k l0 a1 = some (r1, r2)) :
    Calls Tryz.prog 12 #[.slice A0 l0.length c0, .string a1] w fun e w' => ∃ v0_ : Value, e = .returned (.tuple #[v0_, .int .i64 r2]) ∧ Kd.R (Kd.int .i64) 2 w' w.heap.size (fun _ => True) v0_ r1 ∧ Below w.heap.size w w' := by
 have HR0 := ak hr0
 have HC0 := ak hc0
 clear hr0 hc0
 have HB := ak (Below.refl w.heap.size w)
 have H := h
 unfold spec_ChangedBy.f at H
 clear h
 obtain ⟨y278, hy278⟩ : ∃ y_ : List Int, y_ = (([] : List Int)) := ⟨_, rfl⟩
 replace H : ((spec_l04Asked.f k l0 (([a1] : List ByteArray))).bind fun t284 => (if t284 = 0 then ((spec_l04Said.f k l0 a1).bind fun t285 => (spec_ChangedBy.l0 k l0 y278 t285 0)) else (some (y278, t284)))) = some (r1, r2) := by first | (rw [hy278]; with_reducible exact H) | (have H2_ := (Option.bind_some _ _).symm.trans H; rw [hy278]; with_reducible exact H2_) | (have H2_ := (Option.bind_some _ _).symm.trans H; with_reducible exact H2_) | with_reducible exact H | (rw [hy278]; exact H) | exact H
 have Ny278 := ak hy278
 clear hy278
 obtain ⟨y281, hy281⟩ : ∃ y_ : List ByteArray, y_ = (([a1] : List ByteArray)) := ⟨_, rfl⟩
 replace H : ((spec_l04Asked.f k l0 y281).bind fun t284 => (if t284 = 0 then ((spec_l04Said.f k l0 a1).bind fun t285 => (spec_ChangedBy.l0 k l0 y278 t285 0)) else (some (y278, t284)))) = some (r1, r2) := by first | (rw [hy281]; with_reducible exact H) | (have H2_ := (Option.bind_some _ _).symm.trans H; rw [hy281]; with_reducible exact H2_) | (have H2_ := (Option.bind_some _ _).symm.trans H; with_reducible exact H2_) | with_reducible exact H | (rw [hy281]; exact H) | exact H
 have Ny281 := ak hy281
 clear hy281
 replace H := Option.bind_eq_some_iff.mp H
 obtain ⟨t284, A30, H⟩ := H
 have A3 := ak A30
 clear A30
 by_cases c4 : t284 = 0
 {
 rw [if_pos c4] at H
 have c4b0 : (t284 == 0) = true := beq_iff_eq.mpr c4
 have c4b1 : (t284 != 0) = false := bne_eq_false_iff_eq.mpr c4
 clear c4
 replace H := Option.bind_eq_some_iff.mp H
 obtain ⟨t285, A50, H⟩ := H
 have A5 := ak A50
 clear A50
 have H' := ak H
 clear H
 go_enter Tryz.func12, Tryz.ntmps12
 go_wp2_with (first | ((with_reducible refine gate_dst (N := 10) rfl ?_); refine Kd.R_lit (Kd.int .i64) _ 2 ?hg (N := 10) ?hd (xs := ([] : List Int)) (inner := []) (ok := fun _ => True) (okp := fun _ => True) ?hr ?hp (fun _ hk => hk) trivial (Below.refl _ _) (Nat.le_refl _) (by simp) ?_; (case hd => rfl); (case hg => rfl); (case hr => first | (go_simp; done) | (go_simp; rfl)); (case hp => exact (Reps.none _ _)); intro v279 w6 ho7 hb hg_ hnew_; clear hg_ hnew_; (first | rw [← Ny278.out] at ho7 | (simp only [Int.reduceToNat] at ho7; rw [← Ny278.out] at ho7)); have HO280 := ak (Kd.R_lower ho7 (below_size (zB HB.out))); replace HB := kB HB hb; clear hb ho7) | ((with_reducible refine gate_dst (N := 13) rfl ?_); refine Kd.R_lit Kd.string _ 9 ?hg (N := 13) ?hd (xs := ([a1] : List ByteArray)) (inner := [.string a1]) (ok := fun _ => True) (okp := fun _ => True) ?hr ?hp (fun _ hk => hk) trivial (Below.refl _ _) (Nat.le_refl _) (by simp) ?_; (case hd => rfl); (case hg => rfl); (case hr => first | (go_simp; done) | (go_simp; rfl)); (case hp => exact (Reps.one (show Kd.M Kd.string _ _ _ a1 [.string a1] from rfl) (Reps.none _ _))); intro v282 w8 ho9 hb hg_ hnew_; clear hg_ hnew_; (first | rw [← Ny281.out] at ho9 | (simp only [Int.reduceToNat] at ho9; rw [← Ny281.out] at ho9)); have HO283 := ak (Kd.R_lower ho9 (below_size (zB HB.out))); replace HO280 := kR HO280 hb; replace HB := kB HB hb; clear hb ho9; obtain ⟨Ao10, co10, eo10⟩ := Kd.R_slice HO283.out; subst eo10) | (go_at_call 34; (with_reducible refine (spec_l04Asked.calls k _ _ l0 _ _ y281 t284 _ ?side1 ?side2 ?side3 ?side4 A3.out).mono ?_); (case side1 => exact sQ (Kd.C_below HR0.out HB.out)); (case side2 => exact HC0.out); (case side3 => exact sC HO283); (case side4 => exact sL HO283); rintro e w11 ⟨rfl, hb⟩; replace HO280 := kR HO280 hb; replace HO283 := kR HO283 hb; replace HB := kB HB hb; (try clear hb)) | (go_at_call 37; (with_reducible refine (spec_l04Said.calls k _ _ l0 a1 t285 _ ?side1 ?side2 A5.out).mono ?_); (case side1 => exact sQ (Kd.C_below HR0.out HB.out)); (case side2 => exact HC0.out); rintro e w12 ⟨v286, rfl, ho0, hb⟩; have HO287 := ak (Kd.R_lower (Kd.R_new' ho0 (Kd.R_lt (zR HO283.out))) (below_size (zB HB.out))); replace HO280 := kR HO280 hb; replace HO283 := kE HO283 ho0 hb; replace HB := kB HB hb; (try clear hb); (try clear ho0)))
 repeat (go_quiet (first | ((with_reducible refine gate_dst (N := 10) rfl ?_); refine Kd.R_lit (Kd.int .i64) _ 2 ?hg (N := 10) ?hd (xs := ([] : List Int)) (inner := []) (ok := fun _ => True) (okp := fun _ => True) ?hr ?hp (fun _ hk => hk) trivial (Below.refl _ _) (Nat.le_refl _) (by simp) ?_; (case hd => rfl); (case hg => rfl); (case hr => first | (go_simp; done) | (go_simp; rfl)); (case hp => exact (Reps.none _ _)); intro v279 w6 ho7 hb hg_ hnew_; clear hg_ hnew_; (first | rw [← Ny278.out] at ho7 | (simp only [Int.reduceToNat] at ho7; rw [← Ny278.out] at ho7)); have HO280 := ak (Kd.R_lower ho7 (below_size (zB HB.out))); replace HB := kB HB hb; clear hb ho7) | ((with_reducible refine gate_dst (N := 13) rfl ?_); refine Kd.R_lit Kd.string _ 9 ?hg (N := 13) ?hd (xs := ([a1] : List ByteArray)) (inner := [.string a1]) (ok := fun _ => True) (okp := fun _ => True) ?hr ?hp (fun _ hk => hk) trivial (Below.refl _ _) (Nat.le_refl _) (by simp) ?_; (case hd => rfl); (case hg => rfl); (case hr => first | (go_simp; done) | (go_simp; rfl)); (case hp => exact (Reps.one (show Kd.M Kd.string _ _ _ a1 [.string a1] from rfl) (Reps.none _ _))); intro v282 w8 ho9 hb hg_ hnew_; clear hg_ hnew_; (first | rw [← Ny281.out] at ho9 | (simp only [Int.reduceToNat] at ho9; rw [← Ny281.out] at ho9)); have HO283 := ak (Kd.R_lower ho9 (below_size (zB HB.out))); replace HO280 := kR HO280 hb; replace HB := kB HB hb; clear hb ho9; obtain ⟨Ao10, co10, eo10⟩ := Kd.R_slice HO283.out; subst eo10) | (go_at_call 34; (with_reducible refine (spec_l04Asked.calls k _ _ l0 _ _ y281 t284 _ ?side1 ?side2 ?side3 ?side4 A3.out).mono ?_); (case side1 => exact sQ (Kd.C_below HR0.out HB.out)); (case side2 => exact HC0.out); (case side3 => exact sC HO283); (case side4 => exact sL HO283); rintro e w11 ⟨rfl, hb⟩; replace HO280 := kR HO280 hb; replace HO283 := kR HO283 hb; replace HB := kB HB hb; (try clear hb)) | (go_at_call 37; (with_reducible refine (spec_l04Said.calls k _ _ l0 a1 t285 _ ?side1 ?side2 A5.out).mono ?_); (case side1 => exact sQ (Kd.C_below HR0.out HB.out)); (case side2 => exact HC0.out); rintro e w12 ⟨v286, rfl, ho0, hb⟩; have n0_ := ak (Kd.R_below (zR HO280.out) hb); have n1_ := ak (Kd.R_elder' (zR HO283.out) (Kd.R_base ho0) hb); have n2_ := ak (Kd.R_lower (Kd.R_new' ho0 (Kd.R_lt (zR HO283.out))) (below_size (zB HB.out))); have n3_ := ak (below_step (zB HB.out) hb); clear HO280 HO283 HB; have HO280 := n0_; have HO283 := n1_; have HO287 := n2_; have HB := n3_; clear n0_ n1_ n2_ n3_; (try clear hb); (try clear hb2); (try clear hk); (try clear hi); (try clear ho0))); try go_wp2_with (first | ((with_reducible refine gate_dst (N := 10) rfl ?_); refine Kd.R_lit (Kd.int .i64) _ 2 ?hg (N := 10) ?hd (xs := ([] : List Int)) (inner := []) (ok := fun _ => True) (okp := fun _ => True) ?hr ?hp (fun _ hk => hk) trivial (Below.refl _ _) (Nat.le_refl _) (by simp) ?_; (case hd => rfl); (case hg => rfl); (case hr => first | (go_simp; done) | (go_simp; rfl)); (case hp => exact (Reps.none _ _)); intro v279 w6 ho7 hb hg_ hnew_; clear hg_ hnew_; (first | rw [← Ny278.out] at ho7 | (simp only [Int.reduceToNat] at ho7; rw [← Ny278.out] at ho7)); have HO280 := ak (Kd.R_lower ho7 (below_size (zB HB.out))); replace HB := kB HB hb; clear hb ho7) | ((with_reducible refine gate_dst (N := 13) rfl ?_); refine Kd.R_lit Kd.string _ 9 ?hg (N := 13) ?hd (xs := ([a1] : List ByteArray)) (inner := [.string a1]) (ok := fun _ => True) (okp := fun _ => True) ?hr ?hp (fun _ hk => hk) trivial (Below.refl _ _) (Nat.le_refl _) (by simp) ?_; (case hd => rfl); (case hg => rfl); (case hr => first | (go_simp; done) | (go_simp; rfl)); (case hp => exact (Reps.one (show Kd.M Kd.string _ _ _ a1 [.string a1] from rfl) (Reps.none _ _))); intro v282 w8 ho9 hb hg_ hnew_; clear hg_ hnew_; (first | rw [← Ny281.out] at ho9 | (simp only [Int.reduceToNat] at ho9; rw [← Ny281.out] at ho9)); have HO283 := ak (Kd.R_lower ho9 (below_size (zB HB.out))); replace HO280 := kR HO280 hb; replace HB := kB HB hb; clear hb ho9; obtain ⟨Ao10, co10, eo10⟩ := Kd.R_slice HO283.out; subst eo10) | (go_at_call 34; (with_reducible refine (spec_l04Asked.calls k _ _ l0 _ _ y281 t284 _ ?side1 ?side2 ?side3 ?side4 A3.out).mono ?_); (case side1 => exact sQ (Kd.C_below HR0.out HB.out)); (case side2 => exact HC0.out); (case side3 => exact sC HO283); (case side4 => exact sL HO283); rintro e w11 ⟨rfl, hb⟩; replace HO280 := kR HO280 hb; replace HO283 := kR HO283 hb; replace HB := kB HB hb; (try clear hb)) | (go_at_call 37; (with_reducible refine (spec_l04Said.calls k _ _ l0 a1 t285 _ ?side1 ?side2 A5.out).mono ?_); (case side1 => exact sQ (Kd.C_below HR0.out HB.out)); (case side2 => exact HC0.out); rintro e w12 ⟨v286, rfl, ho0, hb⟩; have HO287 := ak (Kd.R_lower (Kd.R_new' ho0 (Kd.R_lt (zR HO283.out))) (below_size (zB HB.out))); replace HO280 := kR HO280 hb; replace HO283 := kE HO283 ho0 hb; replace HB := kB HB hb; (try clear hb); (try clear ho0))))
 go_loopg [6, 9] k (fun kq v6 v9 w' => ∃ (x6_1 : List Int) (x9_1 : Int), v9 = .int .i64 x9_1 ∧ Aside0 (spec_ChangedBy.l0 kq l0 x6_1 t285 x9_1 = some (r1, r2)) ∧ Aside0 (kq ≤ k) ∧ Aside0 (Kd.R (Kd.int .i64) 2 w' w.heap.size (fun _ => True) v6 x6_1) ∧ Aside0 (Kd.R Kd.string 9 w' w.heap.size (fun _ => True) v286 t285) ∧ Aside0 (Below w.heap.size w w'))
 case atStart => exact ⟨(y278), (0), (by first | rfl | (simp; done) | (simp [*]; done)), H', ⟨Nat.le_refl _⟩, ⟨(zR HO280.out)⟩, ⟨by (with_reducible repeat (first | apply Kd.R_alloc | apply Kd.R_drewN | apply Kd.R_drew)); exact Kd.R_mono HO287.out (fun _ hk => trivial)⟩, ⟨zB HB.out⟩⟩
 case round => (
 clear H'
 try clear c4
 try clear c4b0
 try clear c4b1
 obtain ⟨x6_1, x9_1, rfl, HA, HK1, HO_6, HO_8, HB⟩ := hrel
 cases gk with
 | zero => exact absurd HA.out (by simp [spec_ChangedBy.l0])
 | succ k1 => (
 have H := HA.out
 clear HA
 simp only [spec_ChangedBy.l0] at H
 by_cases c13 : x9_1 < (l0.length : Int)
 {
 rw [if_pos c13] at H
 have c13b0 : decide (x9_1 < (l0.length : Int)) = true := decide_eq_true c13
 clear c13
 by_cases c14 : 0 ≤ x9_1
 {
 rw [if_pos c14] at H
 have c14b0 : decide (0 ≤ x9_1) = true := decide_eq_true c14
 clear c14
 by_cases c15 : x9_1 < (t285.length : Int)
 {
 rw [if_pos c15] at H
 have c15b0 : decide (x9_1 < (t285.length : Int)) = true := decide_eq_true c15
 clear c15
 obtain ⟨ji16, hji16⟩ : ∃ j_ : Int, (wrap64 (x9_1 + 1)) = j_ := ⟨_, rfl⟩
 first | rw [hji16] at H | simp only [hji16] at H
 have hji16w : (IntKind.i64.wrap (x9_1 + 1)) = ji16 := (i64_w _).trans hji16
 by_cases c17 : 0 ≤ (ji16)
 {
 rw [if_pos c17] at H
 have c17b0 : decide (0 ≤ (ji16)) = true := decide_eq_true c17
 clear c17
 by_cases c18 : (ji16) < (t285.length : Int)
 {
 rw [if_pos c18] at H
 have c18b0 : decide ((ji16) < (t285.length : Int)) = true := decide_eq_true c18
 clear c18
 by_cases c19 : (rdOf ByteArray.empty t285 x9_1).toList = (rdOf ByteArray.empty t285 (ji16)).toList
 {
 rw [if_pos c19] at H
 have c19b0 : ((rdOf ByteArray.empty t285 x9_1).toList == (rdOf ByteArray.empty t285 (ji16)).toList) = true := beq_iff_eq.mpr c19
 have c19b1 : ((rdOf ByteArray.empty t285 x9_1).toList != (rdOf ByteArray.empty t285 (ji16)).toList) = false := bne_eq_false_iff_eq.mpr c19
 clear c19
 have H' := ak H
 clear H
 obtain ⟨Ao20, co20, eo20⟩ := Kd.R_slice HO_8.out
 subst eo20
 have p288 : 0 ≤ (x9_1 : Int) := of_decide_eq_true (by first | (with_reducible assumption) | assumption)
 have q288 : x9_1 < (t285.length : Int) := of_decide_eq_true (by first | (with_reducible assumption) | assumption)
 obtain ⟨ad288, e288, hx288_0⟩ := Kd.at_string (Kd.R_reads' HO_8.out).2.2 x9_1 p288 q288
 cases e288
 replace p288 := eq_true p288
 replace q288 := eq_true q288
 have p289 : 0 ≤ ((ji16) : Int) := of_decide_eq_true (by first | (with_reducible assumption) | assumption)
 have q289 : (ji16) < (t285.length : Int) := of_decide_eq_true (by first | (with_reducible assumption) | assumption)
 obtain ⟨ad289, e289, hx289_0⟩ := Kd.at_string (Kd.R_reads' HO_8.out).2.2 (ji16) p289 q289
 obtain rfl : ad288 = ad289 := (by injection e289)
 replace p289 := eq_true p289
 replace q289 := eq_true q289
 go_wp2
 repeat (go_quiet (fail); try go_wp2)
 go_roundg k1
 case measure => have := HK1.out; omega
 case rel => exact ⟨(x6_1), (ji16), (by first | rfl | (simp; done) | (simp only [← hji16] <;> (first | rfl | simp)) | (simp [*]; done)), H', ⟨by have := HK1.out; omega⟩, ⟨(zR HO_6.out)⟩, ⟨(zR HO_8.out)⟩, ⟨zB HB.out⟩⟩
 }
 {
 rw [if_neg c19] at H
 have c19b0 : ((rdOf ByteArray.empty t285 x9_1).toList == (rdOf ByteArray.empty t285 (ji16)).toList) = false := beq_eq_false_iff_ne.mpr c19
 have c19b1 : ((rdOf ByteArray.empty t285 x9_1).toList != (rdOf ByteArray.empty t285 (ji16)).toList) = true := bne_iff_ne.mpr c19
 by_cases c21 : x6_1.length < 17592186044416
 {
 rw [if_pos c21] at H
 have LMc21 := ak c21
 clear c21
 obtain ⟨y290, hy290⟩ : ∃ y_ : List Int, y_ = (x6_1 ++ [x9_1]) := ⟨_, rfl⟩
 replace H : (spec_ChangedBy.l0 k1 l0 y290 t285 ji16) = some (r1, r2) := by first | (rw [hy290]; with_reducible exact H) | (have H2_ := (Option.bind_some _ _).symm.trans H; rw [hy290]; with_reducible exact H2_) | (have H2_ := (Option.bind_some _ _).symm.trans H; with_reducible exact H2_) | with_reducible exact H | (rw [hy290]; exact H) | exact H
 have Ny290 := ak hy290
 clear hy290
 have H' := ak H
 clear H
 obtain ⟨Ao22, co22, eo22⟩ := Kd.R_slice HO_8.out
 subst eo22
 have p288 : 0 ≤ (x9_1 : Int) := of_decide_eq_true (by first | (with_reducible assumption) | assumption)
 have q288 : x9_1 < (t285.length : Int) := of_decide_eq_true (by first | (with_reducible assumption) | assumption)
 obtain ⟨ad288, e288, hx288_0⟩ := Kd.at_string (Kd.R_reads' HO_8.out).2.2 x9_1 p288 q288
 cases e288
 replace p288 := eq_true p288
 replace q288 := eq_true q288
 have p289 : 0 ≤ ((ji16) : Int) := of_decide_eq_true (by first | (with_reducible assumption) | assumption)
 have q289 : (ji16) < (t285.length : Int) := of_decide_eq_true (by first | (with_reducible assumption) | assumption)
 obtain ⟨ad289, e289, hx289_0⟩ := Kd.at_string (Kd.R_reads' HO_8.out).2.2 (ji16) p289 q289
 obtain rfl : ad288 = ad289 := (by injection e289)
 replace p289 := eq_true p289
 replace q289 := eq_true q289
 go_wp2_with (first | ((with_reducible refine gate_builtin (b := .append) (xs := #[.tmp 38, .tmp 40]) rfl ?_); at_builtin; refine Kd.R_append (Kd.int .i64) (w0 := w) w.heap.size rfl (.tmp 38) (.tmp 40) 32 2 (.int .i64 0) 8 rfl Tryz.underlying32 info2 rfl (by decide) (by omega) u6 x6_1 x9_1 [.int .i64 x9_1] (fun _ => True) (fun _ => False) rfl rfl ?aP (fun _ hk => hk.elim) ?aF ?aO ?aB ?aS ?aL ?_; (case aP => exact rfl); (case aB => exact (zB HB.out)); (case aF => exact (fun _ _ => trivial)); (case aO => exact (zR HO_6.out)); (case aS => exact (below_size (zB HB.out))); (case aL => have := LMc21.out; omega); intro v291 w23 ho hb hg hat; rw [← Ny290.out] at ho; have HO292 := ak (ho); replace HO_8 := ak (Kd.R_over' (zR HO_8.out) (Kd.R_typed (zR HO_6.out)) (by decide) hg); replace HB := ak (hb); clear HO_6 ho hb hg hat))
 repeat (go_quiet (first | ((with_reducible refine gate_builtin (b := .append) (xs := #[.tmp 38, .tmp 40]) rfl ?_); at_builtin; refine Kd.R_append (Kd.int .i64) (w0 := w) w.heap.size rfl (.tmp 38) (.tmp 40) 32 2 (.int .i64 0) 8 rfl Tryz.underlying32 info2 rfl (by decide) (by omega) u6 x6_1 x9_1 [.int .i64 x9_1] (fun _ => True) (fun _ => False) rfl rfl ?aP (fun _ hk => hk.elim) ?aF ?aO ?aB ?aS ?aL ?_; (case aP => exact rfl); (case aB => exact (zB HB.out)); (case aF => exact (fun _ _ => trivial)); (case aO => exact (zR HO_6.out)); (case aS => exact (below_size (zB HB.out))); (case aL => have := LMc21.out; omega); intro v291 w23 ho hb hg hat; rw [← Ny290.out] at ho; have n0_ := ak (Kd.R_over' (zR HO_8.out) (Kd.R_typed (zR HO_6.out)) (by decide) hg); have n1_ := ak (hb); have n2_ := ak (ho); clear HO_8 HB HO_6; have HO_8 := n0_; have HB := n1_; have HO292 := n2_; clear n0_ n1_ n2_; clear ho hb hg hat)); try go_wp2_with (first | ((with_reducible refine gate_builtin (b := .append) (xs := #[.tmp 38, .tmp 40]) rfl ?_); at_builtin; refine Kd.R_append (Kd.int .i64) (w0 := w) w.heap.size rfl (.tmp 38) (.tmp 40) 32 2 (.int .i64 0) 8 rfl Tryz.underlying32 info2 rfl (by decide) (by omega) u6 x6_1 x9_1 [.int .i64 x9_1] (fun _ => True) (fun _ => False) rfl rfl ?aP (fun _ hk => hk.elim) ?aF ?aO ?aB ?aS ?aL ?_; (case aP => exact rfl); (case aB => exact (zB HB.out)); (case aF => exact (fun _ _ => trivial)); (case aO => exact (zR HO_6.out)); (case aS => exact (below_size (zB HB.out))); (case aL => have := LMc21.out; omega); intro v291 w23 ho hb hg hat; rw [← Ny290.out] at ho; have HO292 := ak (ho); replace HO_8 := ak (Kd.R_over' (zR HO_8.out) (Kd.R_typed (zR HO_6.out)) (by decide) hg); replace HB := ak (hb); clear HO_6 ho hb hg hat)))
 go_roundg k1
 case measure => have := HK1.out; omega
 case rel => exact ⟨(y290), (ji16), (by first | rfl | (simp; done) | (simp only [← hji16] <;> (first | rfl | simp)) | (simp [*]; done)), H', ⟨by have := HK1.out; omega⟩, ⟨(zR HO292.out)⟩, ⟨(zR HO_8.out)⟩, ⟨zB HB.out⟩⟩
 }
 · rw [if_neg c21] at H; exact absurd H (by simp)
 }
 }
 · rw [if_neg c18] at H; exact absurd H (by simp)
 }
 · rw [if_neg c17] at H; exact absurd H (by simp)
 }
 · rw [if_neg c15] at H; exact absurd H (by simp)
 }
 · rw [if_neg c14] at H; exact absurd H (by simp)
 }
 {
 rw [if_neg c13] at H
 have c13b0 : decide (x9_1 < (l0.length : Int)) = false := decide_eq_false c13
 clear c13
 simp only [Option.some.injEq, Prod.mk.injEq] at H
 obtain ⟨rfl, rfl⟩ := H
 go_wp2
 repeat (go_quiet (fail); try go_wp2)
 go_ret2
 exact ⟨_, by first | rfl | (simp [errW_none, errW_some] <;> rfl) | (simp [*, errW_none, errW_some] <;> rfl), by (with_reducible repeat (first | apply Kd.R_alloc | apply Kd.R_drewN | apply Kd.R_drew)); exact HO_6.out, zB HB.out⟩
 }
 )
 )
 }
 {
 rw [if_neg c4] at H
 have c4b0 : (t284 == 0) = false := beq_eq_false_iff_ne.mpr c4
 have c4b1 : (t284 != 0) = true := bne_iff_ne.mpr c4
 simp only [Option.some.injEq, Prod.mk.injEq] at H
 obtain ⟨rfl, rfl⟩ := H
 go_enter Tryz.func12, Tryz.ntmps12
 go_wp2_with (first | ((with_reducible refine gate_dst (N := 10) rfl ?_); refine Kd.R_lit (Kd.int .i64) _ 2 ?hg (N := 10) ?hd (xs := ([] : List Int)) (inner := []) (ok := fun _ => True) (okp := fun _ => True) ?hr ?hp (fun _ hk => hk) trivial (Below.refl _ _) (Nat.le_refl _) (by simp) ?_; (case hd => rfl); (case hg => rfl); (case hr => first | (go_simp; done) | (go_simp; rfl)); (case hp => exact (Reps.none _ _)); intro v279 w24 ho25 hb hg_ hnew_; clear hg_ hnew_; (first | rw [← Ny278.out] at ho25 | (simp only [Int.reduceToNat] at ho25; rw [← Ny278.out] at ho25)); have HO280 := ak (Kd.R_lower ho25 (below_size (zB HB.out))); replace HB := kB HB hb; clear hb ho25) | ((with_reducible refine gate_dst (N := 13) rfl ?_); refine Kd.R_lit Kd.string _ 9 ?hg (N := 13) ?hd (xs := ([a1] : List ByteArray)) (inner := [.string a1]) (ok := fun _ => True) (okp := fun _ => True) ?hr ?hp (fun _ hk => hk) trivial (Below.refl _ _) (Nat.le_refl _) (by simp) ?_; (case hd => rfl); (case hg => rfl); (case hr => first | (go_simp; done) | (go_simp; rfl)); (case hp => exact (Reps.one (show Kd.M Kd.string _ _ _ a1 [.string a1] from rfl) (Reps.none _ _))); intro v282 w26 ho27 hb hg_ hnew_; clear hg_ hnew_; (first | rw [← Ny281.out] at ho27 | (simp only [Int.reduceToNat] at ho27; rw [← Ny281.out] at ho27)); have HO283 := ak (Kd.R_lower ho27 (below_size (zB HB.out))); replace HO280 := kR HO280 hb; replace HB := kB HB hb; clear hb ho27; obtain ⟨Ao28, co28, eo28⟩ := Kd.R_slice HO283.out; subst eo28) | (go_at_call 34; (with_reducible refine (spec_l04Asked.calls k _ _ l0 _ _ y281 t284 _ ?side1 ?side2 ?side3 ?side4 A3.out).mono ?_); (case side1 => exact sQ (Kd.C_below HR0.out HB.out)); (case side2 => exact HC0.out); (case side3 => exact sC HO283); (case side4 => exact sL HO283); rintro e w29 ⟨rfl, hb⟩; replace HO280 := kR HO280 hb; replace HO283 := kR HO283 hb; replace HB := kB HB hb; (try clear hb)))
 repeat (go_quiet (first | ((with_reducible refine gate_dst (N := 10) rfl ?_); refine Kd.R_lit (Kd.int .i64) _ 2 ?hg (N := 10) ?hd (xs := ([] : List Int)) (inner := []) (ok := fun _ => True) (okp := fun _ => True) ?hr ?hp (fun _ hk => hk) trivial (Below.refl _ _) (Nat.le_refl _) (by simp) ?_; (case hd => rfl); (case hg => rfl); (case hr => first | (go_simp; done) | (go_simp; rfl)); (case hp => exact (Reps.none _ _)); intro v279 w24 ho25 hb hg_ hnew_; clear hg_ hnew_; (first | rw [← Ny278.out] at ho25 | (simp only [Int.reduceToNat] at ho25; rw [← Ny278.out] at ho25)); have HO280 := ak (Kd.R_lower ho25 (below_size (zB HB.out))); replace HB := kB HB hb; clear hb ho25) | ((with_reducible refine gate_dst (N := 13) rfl ?_); refine Kd.R_lit Kd.string _ 9 ?hg (N := 13) ?hd (xs := ([a1] : List ByteArray)) (inner := [.string a1]) (ok := fun _ => True) (okp := fun _ => True) ?hr ?hp (fun _ hk => hk) trivial (Below.refl _ _) (Nat.le_refl _) (by simp) ?_; (case hd => rfl); (case hg => rfl); (case hr => first | (go_simp; done) | (go_simp; rfl)); (case hp => exact (Reps.one (show Kd.M Kd.string _ _ _ a1 [.string a1] from rfl) (Reps.none _ _))); intro v282 w26 ho27 hb hg_ hnew_; clear hg_ hnew_; (first | rw [← Ny281.out] at ho27 | (simp only [Int.reduceToNat] at ho27; rw [← Ny281.out] at ho27)); have HO283 := ak (Kd.R_lower ho27 (below_size (zB HB.out))); replace HO280 := kR HO280 hb; replace HB := kB HB hb; clear hb ho27; obtain ⟨Ao28, co28, eo28⟩ := Kd.R_slice HO283.out; subst eo28) | (go_at_call 34; (with_reducible refine (spec_l04Asked.calls k _ _ l0 _ _ y281 t284 _ ?side1 ?side2 ?side3 ?side4 A3.out).mono ?_); (case side1 => exact sQ (Kd.C_below HR0.out HB.out)); (case side2 => exact HC0.out); (case side3 => exact zC (Kd.R_reads' HO283.out).2.2); (case side4 => exact (Kd.R_reads' HO283.out).2.1); rintro e w29 ⟨rfl, hb⟩; have n0_ := ak (Kd.R_below (zR HO280.out) hb); have n1_ := ak (Kd.R_below (zR HO283.out) hb); have n2_ := ak (below_step (zB HB.out) hb); clear HO280 HO283 HB; have HO280 := n0_; have HO283 := n1_; have HB := n2_; clear n0_ n1_ n2_; (try clear hb); (try clear hb2); (try clear hk); (try clear hi))); try go_wp2_with (first | ((with_reducible refine gate_dst (N := 10) rfl ?_); refine Kd.R_lit (Kd.int .i64) _ 2 ?hg (N := 10) ?hd (xs := ([] : List Int)) (inner := []) (ok := fun _ => True) (okp := fun _ => True) ?hr ?hp (fun _ hk => hk) trivial (Below.refl _ _) (Nat.le_refl _) (by simp) ?_; (case hd => rfl); (case hg => rfl); (case hr => first | (go_simp; done) | (go_simp; rfl)); (case hp => exact (Reps.none _ _)); intro v279 w24 ho25 hb hg_ hnew_; clear hg_ hnew_; (first | rw [← Ny278.out] at ho25 | (simp only [Int.reduceToNat] at ho25; rw [← Ny278.out] at ho25)); have HO280 := ak (Kd.R_lower ho25 (below_size (zB HB.out))); replace HB := kB HB hb; clear hb ho25) | ((with_reducible refine gate_dst (N := 13) rfl ?_); refine Kd.R_lit Kd.string _ 9 ?hg (N := 13) ?hd (xs := ([a1] : List ByteArray)) (inner := [.string a1]) (ok := fun _ => True) (okp := fun _ => True) ?hr ?hp (fun _ hk => hk) trivial (Below.refl _ _) (Nat.le_refl _) (by simp) ?_; (case hd => rfl); (case hg => rfl); (case hr => first | (go_simp; done) | (go_simp; rfl)); (case hp => exact (Reps.one (show Kd.M Kd.string _ _ _ a1 [.string a1] from rfl) (Reps.none _ _))); intro v282 w26 ho27 hb hg_ hnew_; clear hg_ hnew_; (first | rw [← Ny281.out] at ho27 | (simp only [Int.reduceToNat] at ho27; rw [← Ny281.out] at ho27)); have HO283 := ak (Kd.R_lower ho27 (below_size (zB HB.out))); replace HO280 := kR HO280 hb; replace HB := kB HB hb; clear hb ho27; obtain ⟨Ao28, co28, eo28⟩ := Kd.R_slice HO283.out; subst eo28) | (go_at_call 34; (with_reducible refine (spec_l04Asked.calls k _ _ l0 _ _ y281 t284 _ ?side1 ?side2 ?side3 ?side4 A3.out).mono ?_); (case side1 => exact sQ (Kd.C_below HR0.out HB.out)); (case side2 => exact HC0.out); (case side3 => exact sC HO283); (case side4 => exact sL HO283); rintro e w29 ⟨rfl, hb⟩; replace HO280 := kR HO280 hb; replace HO283 := kR HO283 hb; replace HB := kB HB hb; (try clear hb))))
 go_ret2
 exact ⟨_, by first | rfl | (simp [errW_none, errW_some] <;> rfl) | (simp [*, errW_none, errW_some] <;> rfl), by (with_reducible repeat (first | apply Kd.R_alloc | apply Kd.R_drewN | apply Kd.R_drew)); exact HO280.out, zB HB.out⟩
 }
/-! ### spec_SameWords: function 14 -/
def spec_SameWords.l0 : Nat → List ByteArray → List ByteArray → Int → Option (Bool)
  | 0, _, _, _ => none
  | k + 1, x0, x1, x5 => if x5 < (x0.length : Int) then (if 0 ≤ x5 then (if x5 < (x1.length : Int) then (if (rdOf ByteArray.empty x0 x5).toList = (rdOf ByteArray.empty x1 x5).toList then (spec_SameWords.l0 k x0 x1 (wrap64 (x5 + 1))) else (some false)) else (none)) else (none)) else (some true)
def spec_SameWords.f (k : Nat) (l0 : List ByteArray) (l1 : List ByteArray) : Option (Bool) := if (l0.length : Int) = (l1.length : Int) then (spec_SameWords.l0 k l0 l1 0) else (some false)
set_option maxHeartbeats 8000000 in
set_option maxRecDepth 100000 in
theorem spec_SameWords.calls (k : Nat) (A0 : Option Addr) (c0 : Nat) (l0 : List ByteArray) (A1 : Option Addr) (c1 : Nat) (l1 : List ByteArray) (r : Bool) (w : World) (hr0 : Kd.C Kd.string w A0 l0.length l0) (hc0 : l0.length ≤ c0) (hr1 : Kd.C Kd.string w A1 l1.length l1) (hc1 : l1.length ≤ c1) (h : spec_SameWords.f k l0 l1 = some r) :
    Calls Tryz.prog 14 #[.slice A0 l0.length c0, .slice A1 l1.length c1] w fun e w' => e = .returned (.bool r) ∧ Drawn0 w w' := by
 have HR0 := ak hr0
 have HC0 := ak hc0
 clear hr0 hc0
 have HR1 := ak hr1
 have HC1 := ak hc1
 clear hr1 hc1
 have H := h
 unfold spec_SameWords.f at H
 clear h
 by_cases c3 : (l0.length : Int) = (l1.length : Int)
 {
 rw [if_pos c3] at H
 have c3b0 : ((l0.length : Int) == (l1.length : Int)) = true := beq_iff_eq.mpr c3
 have c3b1 : ((l0.length : Int) != (l1.length : Int)) = false := bne_eq_false_iff_eq.mpr c3
 have c3b2 : (l0.length == l1.length) = true := by first | simpa using c3 | (simp at c3 ⊢; omega)
 clear c3
 have H' := ak H
 clear H
 go_enter Tryz.func14, Tryz.ntmps14
 go_wp2
 repeat (go_quiet (fail); try go_wp2)
 go_loopg [5] k (fun kq v5 w' => ∃ (x5_1 : Int), v5 = .int .i64 x5_1 ∧ Aside0 (spec_SameWords.l0 kq l0 l1 x5_1 = some r) ∧ Aside0 (kq ≤ k) ∧ Drawn0 w w')
 case atStart => exact ⟨(0), (by first | rfl | (simp; done) | (simp [*]; done)), H', ⟨Nat.le_refl _⟩, by repeat (first | exact Drawn0.refl _ | apply Drawn0.step)⟩
 case round => (
 clear H'
 try clear c1
 try clear c3
 try clear c3b0
 try clear c3b1
 try clear c3b2
 obtain ⟨x5_1, rfl, HA, HK1, ⟨m1, rfl⟩⟩ := hrel
 cases gk with
 | zero => exact absurd HA.out (by simp [spec_SameWords.l0])
 | succ k1 => (
 have H := HA.out
 clear HA
 simp only [spec_SameWords.l0] at H
 by_cases c4 : x5_1 < (l0.length : Int)
 {
 rw [if_pos c4] at H
 have c4b0 : decide (x5_1 < (l0.length : Int)) = true := decide_eq_true c4
 clear c4
 by_cases c5 : 0 ≤ x5_1
 {
 rw [if_pos c5] at H
 have c5b0 : decide (0 ≤ x5_1) = true := decide_eq_true c5
 clear c5
 by_cases c6 : x5_1 < (l1.length : Int)
 {
 rw [if_pos c6] at H
 have c6b0 : decide (x5_1 < (l1.length : Int)) = true := decide_eq_true c6
 clear c6
 by_cases c7 : (rdOf ByteArray.empty l0 x5_1).toList = (rdOf ByteArray.empty l1 x5_1).toList
 {
 rw [if_pos c7] at H
 have c7b0 : ((rdOf ByteArray.empty l0 x5_1).toList == (rdOf ByteArray.empty l1 x5_1).toList) = true := beq_iff_eq.mpr c7
 have c7b1 : ((rdOf ByteArray.empty l0 x5_1).toList != (rdOf ByteArray.empty l1 x5_1).toList) = false := bne_eq_false_iff_eq.mpr c7
 clear c7
 have H' := ak H
 clear H
 have p293 : 0 ≤ (x5_1 : Int) := of_decide_eq_true (by first | (with_reducible assumption) | assumption)
 have q293 : x5_1 < (l0.length : Int) := of_decide_eq_true (by first | (with_reducible assumption) | assumption)
 obtain ⟨ad293, e293, hx293_0⟩ := Kd.at_string HR0.out x5_1 p293 q293
 cases e293
 replace p293 := eq_true p293
 replace q293 := eq_true q293
 have p294 : 0 ≤ (x5_1 : Int) := of_decide_eq_true (by first | (with_reducible assumption) | assumption)
 have q294 : x5_1 < (l1.length : Int) := of_decide_eq_true (by first | (with_reducible assumption) | assumption)
 obtain ⟨ad294, e294, hx294_0⟩ := Kd.at_string HR1.out x5_1 p294 q294
 cases e294
 replace p294 := eq_true p294
 replace q294 := eq_true q294
 go_wp2
 repeat (go_quiet (fail); try go_wp2)
 go_roundg k1
 case measure => have := HK1.out; omega
 case rel => exact ⟨(wrap64 (x5_1 + 1)), (by first | rfl | (simp; done) | (simp [*]; done)), H', ⟨by have := HK1.out; omega⟩, by repeat (first | exact Drawn0.refl _ | apply Drawn0.step)⟩
 }
 {
 rw [if_neg c7] at H
 have c7b0 : ((rdOf ByteArray.empty l0 x5_1).toList == (rdOf ByteArray.empty l1 x5_1).toList) = false := beq_eq_false_iff_ne.mpr c7
 have c7b1 : ((rdOf ByteArray.empty l0 x5_1).toList != (rdOf ByteArray.empty l1 x5_1).toList) = true := bne_iff_ne.mpr c7
 obtain rfl := Option.some.inj H
 have p293 : 0 ≤ (x5_1 : Int) := of_decide_eq_true (by first | (with_reducible assumption) | assumption)
 have q293 : x5_1 < (l0.length : Int) := of_decide_eq_true (by first | (with_reducible assumption) | assumption)
 obtain ⟨ad293, e293, hx293_0⟩ := Kd.at_string HR0.out x5_1 p293 q293
 cases e293
 replace p293 := eq_true p293
 replace q293 := eq_true q293
 have p294 : 0 ≤ (x5_1 : Int) := of_decide_eq_true (by first | (with_reducible assumption) | assumption)
 have q294 : x5_1 < (l1.length : Int) := of_decide_eq_true (by first | (with_reducible assumption) | assumption)
 obtain ⟨ad294, e294, hx294_0⟩ := Kd.at_string HR1.out x5_1 p294 q294
 cases e294
 replace p294 := eq_true p294
 replace q294 := eq_true q294
 go_wp2
 repeat (go_quiet (fail); try go_wp2)
 go_ret
 exact ⟨by first | rfl | (simp; done) | (simp [*]; done), by repeat (first | exact Drawn0.refl _ | apply Drawn0.step)⟩
 }
 }
 · rw [if_neg c6] at H; exact absurd H (by simp)
 }
 · rw [if_neg c5] at H; exact absurd H (by simp)
 }
 {
 rw [if_neg c4] at H
 have c4b0 : decide (x5_1 < (l0.length : Int)) = false := decide_eq_false c4
 clear c4
 obtain rfl := Option.some.inj H
 go_wp2
 repeat (go_quiet (fail); try go_wp2)
 go_ret
 exact ⟨by first | rfl | (simp; done) | (simp [*]; done), by repeat (first | exact Drawn0.refl _ | apply Drawn0.step)⟩
 }
 )
 )
 }
 {
 rw [if_neg c3] at H
 have c3b0 : ((l0.length : Int) == (l1.length : Int)) = false := beq_eq_false_iff_ne.mpr c3
 have c3b1 : ((l0.length : Int) != (l1.length : Int)) = true := bne_iff_ne.mpr c3
 have c3b2 : (l0.length == l1.length) = false := by first | simpa using c3 | (simp at c3 ⊢; omega)
 obtain rfl := Option.some.inj H
 go_enter Tryz.func14, Tryz.ntmps14
 go_wp2
 repeat (go_quiet (fail); try go_wp2)
 go_ret
 exact ⟨by first | rfl | (simp; done) | (simp [*]; done), by repeat (first | exact Drawn0.refl _ | apply Drawn0.step)⟩
 }
/-! ### spec_l00Same: function 40 -/
def spec_l00Same.l0 : Nat → List Int → List Int → Int → Option (Bool)
  | 0, _, _, _ => none
  | k + 1, x0, x1, x5 => if x5 < (x0.length : Int) then (if 0 ≤ x5 then (if x5 < (x1.length : Int) then (if (rd x0 x5) = (rd x1 x5) then (spec_l00Same.l0 k x0 x1 (wrap64 (x5 + 1))) else (some false)) else (none)) else (none)) else (some true)
def spec_l00Same.f (k : Nat) (l0 : List Int) (l1 : List Int) : Option (Bool) := if (l0.length : Int) = (l1.length : Int) then (spec_l00Same.l0 k l0 l1 0) else (some false)
set_option maxHeartbeats 8000000 in
set_option maxRecDepth 100000 in
theorem spec_l00Same.calls (k : Nat) (A0 : Option Addr) (c0 : Nat) (l0 : List Int) (A1 : Option Addr) (c1 : Nat) (l1 : List Int) (r : Bool) (w : World) (hr0 : Kd.C (Kd.int .i64) w A0 l0.length l0) (hc0 : l0.length ≤ c0) (hr1 : Kd.C (Kd.int .i64) w A1 l1.length l1) (hc1 : l1.length ≤ c1) (h : spec_l00Same.f k l0 l1 = some r) :
    Calls Tryz.prog 40 #[.slice A0 l0.length c0, .slice A1 l1.length c1] w fun e w' => e = .returned (.bool r) ∧ Drawn0 w w' := by
 have HR0 := ak hr0
 have HC0 := ak hc0
 clear hr0 hc0
 have HR1 := ak hr1
 have HC1 := ak hc1
 clear hr1 hc1
 have H := h
 unfold spec_l00Same.f at H
 clear h
 by_cases c3 : (l0.length : Int) = (l1.length : Int)
 {
 rw [if_pos c3] at H
 have c3b0 : ((l0.length : Int) == (l1.length : Int)) = true := beq_iff_eq.mpr c3
 have c3b1 : ((l0.length : Int) != (l1.length : Int)) = false := bne_eq_false_iff_eq.mpr c3
 have c3b2 : (l0.length == l1.length) = true := by first | simpa using c3 | (simp at c3 ⊢; omega)
 clear c3
 have H' := ak H
 clear H
 go_enter Tryz.func40, Tryz.ntmps40
 go_wp2
 repeat (go_quiet (fail); try go_wp2)
 go_loopg [5] k (fun kq v5 w' => ∃ (x5_1 : Int), v5 = .int .i64 x5_1 ∧ Aside0 (spec_l00Same.l0 kq l0 l1 x5_1 = some r) ∧ Aside0 (kq ≤ k) ∧ Drawn0 w w')
 case atStart => exact ⟨(0), (by first | rfl | (simp; done) | (simp [*]; done)), H', ⟨Nat.le_refl _⟩, by repeat (first | exact Drawn0.refl _ | apply Drawn0.step)⟩
 case round => (
 clear H'
 try clear c1
 try clear c3
 try clear c3b0
 try clear c3b1
 try clear c3b2
 obtain ⟨x5_1, rfl, HA, HK1, ⟨m1, rfl⟩⟩ := hrel
 cases gk with
 | zero => exact absurd HA.out (by simp [spec_l00Same.l0])
 | succ k1 => (
 have H := HA.out
 clear HA
 simp only [spec_l00Same.l0] at H
 by_cases c4 : x5_1 < (l0.length : Int)
 {
 rw [if_pos c4] at H
 have c4b0 : decide (x5_1 < (l0.length : Int)) = true := decide_eq_true c4
 clear c4
 by_cases c5 : 0 ≤ x5_1
 {
 rw [if_pos c5] at H
 have c5b0 : decide (0 ≤ x5_1) = true := decide_eq_true c5
 clear c5
 by_cases c6 : x5_1 < (l1.length : Int)
 {
 rw [if_pos c6] at H
 have c6b0 : decide (x5_1 < (l1.length : Int)) = true := decide_eq_true c6
 clear c6
 by_cases c7 : (rd l0 x5_1) = (rd l1 x5_1)
 {
 rw [if_pos c7] at H
 have c7b0 : ((rd l0 x5_1) == (rd l1 x5_1)) = true := beq_iff_eq.mpr c7
 have c7b1 : ((rd l0 x5_1) != (rd l1 x5_1)) = false := bne_eq_false_iff_eq.mpr c7
 clear c7
 have H' := ak H
 clear H
 have p295 : 0 ≤ (x5_1 : Int) := of_decide_eq_true (by first | (with_reducible assumption) | assumption)
 have q295 : x5_1 < (l0.length : Int) := of_decide_eq_true (by first | (with_reducible assumption) | assumption)
 obtain ⟨ad295, e295, hx295_0⟩ := Kd.at_int HR0.out x5_1 p295 q295
 cases e295
 replace p295 := eq_true p295
 replace q295 := eq_true q295
 have p296 : 0 ≤ (x5_1 : Int) := of_decide_eq_true (by first | (with_reducible assumption) | assumption)
 have q296 : x5_1 < (l1.length : Int) := of_decide_eq_true (by first | (with_reducible assumption) | assumption)
 obtain ⟨ad296, e296, hx296_0⟩ := Kd.at_int HR1.out x5_1 p296 q296
 cases e296
 replace p296 := eq_true p296
 replace q296 := eq_true q296
 go_wp2
 repeat (go_quiet (fail); try go_wp2)
 go_roundg k1
 case measure => have := HK1.out; omega
 case rel => exact ⟨(wrap64 (x5_1 + 1)), (by first | rfl | (simp; done) | (simp [*]; done)), H', ⟨by have := HK1.out; omega⟩, by repeat (first | exact Drawn0.refl _ | apply Drawn0.step)⟩
 }
 {
 rw [if_neg c7] at H
 have c7b0 : ((rd l0 x5_1) == (rd l1 x5_1)) = false := beq_eq_false_iff_ne.mpr c7
 have c7b1 : ((rd l0 x5_1) != (rd l1 x5_1)) = true := bne_iff_ne.mpr c7
 obtain rfl := Option.some.inj H
 have p295 : 0 ≤ (x5_1 : Int) := of_decide_eq_true (by first | (with_reducible assumption) | assumption)
 have q295 : x5_1 < (l0.length : Int) := of_decide_eq_true (by first | (with_reducible assumption) | assumption)
 obtain ⟨ad295, e295, hx295_0⟩ := Kd.at_int HR0.out x5_1 p295 q295
 cases e295
 replace p295 := eq_true p295
 replace q295 := eq_true q295
 have p296 : 0 ≤ (x5_1 : Int) := of_decide_eq_true (by first | (with_reducible assumption) | assumption)
 have q296 : x5_1 < (l1.length : Int) := of_decide_eq_true (by first | (with_reducible assumption) | assumption)
 obtain ⟨ad296, e296, hx296_0⟩ := Kd.at_int HR1.out x5_1 p296 q296
 cases e296
 replace p296 := eq_true p296
 replace q296 := eq_true q296
 go_wp2
 repeat (go_quiet (fail); try go_wp2)
 go_ret
 exact ⟨by first | rfl | (simp; done) | (simp [*]; done), by repeat (first | exact Drawn0.refl _ | apply Drawn0.step)⟩
 }
 }
 · rw [if_neg c6] at H; exact absurd H (by simp)
 }
 · rw [if_neg c5] at H; exact absurd H (by simp)
 }
 {
 rw [if_neg c4] at H
 have c4b0 : decide (x5_1 < (l0.length : Int)) = false := decide_eq_false c4
 clear c4
 obtain rfl := Option.some.inj H
 go_wp2
 repeat (go_quiet (fail); try go_wp2)
 go_ret
 exact ⟨by first | rfl | (simp; done) | (simp [*]; done), by repeat (first | exact Drawn0.refl _ | apply Drawn0.step)⟩
 }
 )
 )
 }
 {
 rw [if_neg c3] at H
 have c3b0 : ((l0.length : Int) == (l1.length : Int)) = false := beq_eq_false_iff_ne.mpr c3
 have c3b1 : ((l0.length : Int) != (l1.length : Int)) = true := bne_iff_ne.mpr c3
 have c3b2 : (l0.length == l1.length) = false := by first | simpa using c3 | (simp at c3 ⊢; omega)
 obtain rfl := Option.some.inj H
 go_enter Tryz.func40, Tryz.ntmps40
 go_wp2
 repeat (go_quiet (fail); try go_wp2)
 go_ret
 exact ⟨by first | rfl | (simp; done) | (simp [*]; done), by repeat (first | exact Drawn0.refl _ | apply Drawn0.step)⟩
 }
/-! ### spec_SameNumbers: function 15 -/
def spec_SameNumbers.f (k : Nat) (l0 : List Int) (l1 : List Int) : Option (Bool) := (spec_l00Same.f k l0 l1).bind fun t297 => (some t297)
set_option maxHeartbeats 8000000 in
set_option maxRecDepth 100000 in
theorem spec_SameNumbers.calls (k : Nat) (A0 : Option Addr) (c0 : Nat) (l0 : List Int) (A1 : Option Addr) (c1 : Nat) (l1 : List Int) (r : Bool) (w : World) (hr0 : Kd.C (Kd.int .i64) w A0 l0.length l0) (hc0 : l0.length ≤ c0) (hr1 : Kd.C (Kd.int .i64) w A1 l1.length l1) (hc1 : l1.length ≤ c1) (h : spec_SameNumbers.f k l0 l1 = some r) :
    Calls Tryz.prog 15 #[.slice A0 l0.length c0, .slice A1 l1.length c1] w fun e w' => e = .returned (.bool r) ∧ Drawn0 w w' := by
 have HR0 := ak hr0
 have HC0 := ak hc0
 clear hr0 hc0
 have HR1 := ak hr1
 have HC1 := ak hc1
 clear hr1 hc1
 have H := h
 unfold spec_SameNumbers.f at H
 clear h
 replace H := Option.bind_eq_some_iff.mp H
 obtain ⟨t297, A30, H⟩ := H
 have A3 := ak A30
 clear A30
 obtain rfl := Option.some.inj H
 go_enter Tryz.func15, Tryz.ntmps15
 go_wp2_with (first | ((with_reducible refine gate_callee (f := 40) rfl ?_); refine goesL_ (some 7) rfl rfl Tryz.func40 (by kernel_rfl) rfl #[.slice A0 l0.length c0, .slice A1 l1.length c1] rfl gl_ ?_; (with_reducible refine (spec_l00Same.calls k _ _ l0 _ _ l1 t297 _ ?side1 ?side2 ?side3 ?side4 A3.out).mono ?_); (case side1 => exact sD HR0); (case side2 => exact HC0.out); (case side3 => exact sD HR1); (case side4 => exact HC1.out); rintro e w' ⟨rfl, ⟨nd, rfl⟩⟩; refine ⟨_, rfl, ?_⟩))
 go_ret
 exact ⟨by first | rfl | (simp; done) | (simp [*]; done), by repeat (first | exact Drawn0.refl _ | apply Drawn0.step)⟩
/-! ### impl_HabitText: function 17 -/
def impl_HabitText.f (a0_0 a0_1 a0_2 : Int) : Option ByteArray := (impl_ValidHabit.f a0_0 a0_1 a0_2).bind fun t => (if t = true then (if 0 ≤ a0_0 then (if a0_0 < 5 then some (Go.Proofs.YtobickehjnogjaaGreatDoor.H.putB (Go.Proofs.YtobickehjnogjaaGreatDoor.H.putB (Go.Proofs.YtobickehjnogjaaGreatDoor.H.kindName a0_0) a0_1) a0_2) else none) else none) else some (⟨#[]⟩ : ByteArray))
theorem impl_HabitText.calls (a0_0 a0_1 a0_2 : Int) (r : ByteArray) (w : World) (h : impl_HabitText.f a0_0 a0_1 a0_2 = some r) :
    Calls Tryz.prog 17 #[.agg #[.int .i8 a0_0, .int .u8 a0_1, .int .u8 a0_2]] w fun e w' => e = .returned (.string r) ∧ Below w.heap.size w w' := by
 unfold impl_HabitText.f at h
 obtain ⟨t, ht, h⟩ := Option.bind_eq_some_iff.mp h
 have hv := fun W : World => impl_ValidHabit.calls a0_0 a0_1 a0_2 t W ht
 by_cases c : t = true
 {
 rw [if_pos c] at h
 by_cases c1 : 0 ≤ a0_0
 {
 rw [if_pos c1] at h
 by_cases c2 : a0_0 < 5
 · rw [if_pos c2] at h; obtain rfl := Option.some.inj h; subst c; exact Go.Proofs.YtobickehjnogjaaGreatDoor.H.habitText_calls a0_0 a0_1 a0_2 w c1 c2 hv
 · rw [if_neg c2] at h; exact absurd h (by simp)
 }
 · rw [if_neg c1] at h; exact absurd h (by simp)
 }
 · rw [if_neg c] at h; obtain rfl := Option.some.inj h; have c := Bool.eq_false_iff.mpr c; subst c; exact Go.Proofs.YtobickehjnogjaaGreatDoor.H.habitBad_calls a0_0 a0_1 a0_2 w hv
/-! ### strings_Split: function 41 -/
def strings_Split.f (a0 a1 : ByteArray) (a977_0 : Int) : Option (List ByteArray) := if a0.size ≤ 4294967280 ∧ 1 ≤ a1.size then some (Go.Lib.splitB a1 0 (Go.Lib.countB a0 a1) a0) else none
theorem strings_Split.calls (a0 a1 : ByteArray) (a977_0 : Int) (r : List ByteArray) (w : World) (hx977 : w.heap[0]? = some (.cells #[.int .i64 a977_0] 3 (0, 0))) (h : strings_Split.f a0 a1 a977_0 = some r) :
    Calls Tryz.prog 41 #[.string a0, .string a1] w fun e w' => ∃ v0_ : Value, e = .returned (v0_) ∧ Kd.R Kd.string 9 w' w.heap.size (fun _ => True) v0_ r ∧ Below w.heap.size w w' := by
 unfold strings_Split.f at h
 by_cases c : a0.size ≤ 4294967280 ∧ 1 ≤ a1.size
 {
 rw [if_pos c] at h
 obtain rfl := Option.some.inj h
 have hm : w.cell? ⟨0, 0, none⟩ = some (.int .i64 a977_0) := by simp [World.cell?, hx977]
 refine (Tryz.strings_Split a0 a1 a977_0 w (by omega) hm c.2).mono ?_
 rintro e w' ⟨rfl, rfl⟩
 have hlen := Go.Proofs.YtobickehjnogjaaGreatDoor.H.split_length a0 a1 c.2
 have hc1 := Go.Proofs.YtobickehjnogjaaGreatDoor.H.split_small a0 a1 c.2
 have ho := own_lit_of (enc := Value.string) w w.heap.size 9 (Go.Lib.splitB a1 0 (Go.Lib.countB a0 a1) a0) (Nat.le_refl _) (by rw [hlen]; omega)
 refine ⟨_, rfl, ?_, Below.alloc (Below.refl _ _) (Nat.le_refl _) _⟩
 rw [← hlen]
 exact Kd.R_of_own (ok := fun _ => True) ho (fun _ _ => trivial)
 }
 · rw [if_neg c] at h; exact absurd h (by simp)
/-! ### impl_habitWords: function 43 -/
def impl_habitWords.f  : Option (List ByteArray) := some (([(⟨#[110, 111, 110, 101]⟩ : ByteArray), (⟨#[115, 119, 97, 112]⟩ : ByteArray), (⟨#[100, 114, 111, 112]⟩ : ByteArray), (⟨#[100, 111, 117, 98, 108, 101]⟩ : ByteArray), (⟨#[116, 117, 114, 110]⟩ : ByteArray)] : List ByteArray))
set_option maxHeartbeats 8000000 in
set_option maxRecDepth 100000 in
theorem impl_habitWords.calls  (r : List ByteArray) (w : World) (h : impl_habitWords.f  = some r) :
    Calls Tryz.prog 43 #[] w fun e w' => ∃ v0_ : Value, e = .returned (v0_) ∧ Kd.R Kd.string 9 w' w.heap.size (fun _ => True) v0_ r ∧ Below w.heap.size w w' := by
 have HB := ak (Below.refl w.heap.size w)
 have H := h
 unfold impl_habitWords.f at H
 clear h
 obtain ⟨y298, hy298⟩ : ∃ y_ : List ByteArray, y_ = (([(⟨#[110, 111, 110, 101]⟩ : ByteArray), (⟨#[115, 119, 97, 112]⟩ : ByteArray), (⟨#[100, 114, 111, 112]⟩ : ByteArray), (⟨#[100, 111, 117, 98, 108, 101]⟩ : ByteArray), (⟨#[116, 117, 114, 110]⟩ : ByteArray)] : List ByteArray)) := ⟨_, rfl⟩
 replace H : (some y298) = some r := by first | (rw [hy298]; with_reducible exact H) | (have H2_ := (Option.bind_some _ _).symm.trans H; rw [hy298]; with_reducible exact H2_) | (have H2_ := (Option.bind_some _ _).symm.trans H; with_reducible exact H2_) | with_reducible exact H | (rw [hy298]; exact H) | exact H
 have Ny298 := ak hy298
 clear hy298
 obtain rfl := Option.some.inj H
 go_enter Tryz.func43, Tryz.ntmps43
 go_wp2_with (first | ((with_reducible refine gate_dst (N := 1) rfl ?_); refine Kd.R_lit Kd.string _ 9 ?hg (N := 1) ?hd (xs := ([(⟨#[110, 111, 110, 101]⟩ : ByteArray), (⟨#[115, 119, 97, 112]⟩ : ByteArray), (⟨#[100, 114, 111, 112]⟩ : ByteArray), (⟨#[100, 111, 117, 98, 108, 101]⟩ : ByteArray), (⟨#[116, 117, 114, 110]⟩ : ByteArray)] : List ByteArray)) (inner := [.string (⟨#[110, 111, 110, 101]⟩ : ByteArray), .string (⟨#[115, 119, 97, 112]⟩ : ByteArray), .string (⟨#[100, 114, 111, 112]⟩ : ByteArray), .string (⟨#[100, 111, 117, 98, 108, 101]⟩ : ByteArray), .string (⟨#[116, 117, 114, 110]⟩ : ByteArray)]) (ok := fun _ => True) (okp := fun _ => True) ?hr ?hp (fun _ hk => hk) trivial (Below.refl _ _) (Nat.le_refl _) (by simp) ?_; (case hd => rfl); (case hg => rfl); (case hr => first | (go_simp; done) | (go_simp; rfl)); (case hp => exact (Reps.one (show Kd.M Kd.string _ _ _ (⟨#[110, 111, 110, 101]⟩ : ByteArray) [.string (⟨#[110, 111, 110, 101]⟩ : ByteArray)] from rfl) (Reps.one (show Kd.M Kd.string _ _ _ (⟨#[115, 119, 97, 112]⟩ : ByteArray) [.string (⟨#[115, 119, 97, 112]⟩ : ByteArray)] from rfl) (Reps.one (show Kd.M Kd.string _ _ _ (⟨#[100, 114, 111, 112]⟩ : ByteArray) [.string (⟨#[100, 114, 111, 112]⟩ : ByteArray)] from rfl) (Reps.one (show Kd.M Kd.string _ _ _ (⟨#[100, 111, 117, 98, 108, 101]⟩ : ByteArray) [.string (⟨#[100, 111, 117, 98, 108, 101]⟩ : ByteArray)] from rfl) (Reps.one (show Kd.M Kd.string _ _ _ (⟨#[116, 117, 114, 110]⟩ : ByteArray) [.string (⟨#[116, 117, 114, 110]⟩ : ByteArray)] from rfl) (Reps.none _ _))))))); intro v299 w1 ho2 hb hg_ hnew_; clear hg_ hnew_; (first | rw [← Ny298.out] at ho2 | (simp only [Int.reduceToNat] at ho2; rw [← Ny298.out] at ho2)); have HO300 := ak (Kd.R_lower ho2 (below_size (zB HB.out))); replace HB := kB HB hb; clear hb ho2))
 go_ret
 exact ⟨_, by first | rfl | (simp [errW_none, errW_some] <;> rfl) | (simp [*, errW_none, errW_some] <;> rfl), by (with_reducible repeat (first | apply Kd.R_alloc | apply Kd.R_drewN | apply Kd.R_drew)); exact HO300.out, zB HB.out⟩
end Go.Proofs.YtobickehjnogjaaGreatDoor.P
