-- Printed by wip/print (my turned copy of the kit's print) out of the translation; Lean checks it.
import Derived.Test.YtlggjfhoecaelaaGreatDoorP0
import Derived.Test.YtlggjfhoecaelaaGreatDoorP3
import Derived.Test.YtlggjfhoecaelaaGreatDoorP4
import Derived.Test.YtlggjfhoecaelaaGreatDoorP8
import Derived.Test.YtlggjfhoecaelaaGreatDoorP12
namespace Go.Proofs.YtlggjfhoecaelaaGreatDoor.P
open Go.RowKit Go.Proofs.YtlggjfhoecaelaaGreatDoorW.PrintWords Go.Proofs.YtlggjfhoecaelaaGreatDoorW.PrintLast Go.Proofs.YtlggjfhoecaelaaGreatDoorW.PrintMore
attribute [local go_sem] max2_int min2_int max_two min_two max_three min_three max_four min_four   -- for this text's walks alone
set_option linter.unusedVariables false
set_option linter.unusedSimpArgs false

/-! ### impl_size_Hold: function 58 -/
def impl_size_Hold.f (l0 : List (S52)) : Option (Int) := some (l0.length : Int)
set_option maxHeartbeats 8000000 in
set_option maxRecDepth 100000 in
theorem impl_size_Hold.calls (A0 : Option Addr) (c0 : Nat) (l0 : List (S52)) (r : Int) (w : World) (AB : Kd.C k52 w A0 l0.length l0) (AA : l0.length ≤ c0) (h : impl_size_Hold.f l0 = some r) :
    Calls Tryz.prog 58 #[.slice A0 l0.length c0] w fun e w' => e = .returned (.int .i64 r) ∧ Drawn0 w w' := by
 have AD := ak AB
 have AC := ak AA
 clear AB AA
 have H := h
 unfold impl_size_Hold.f at H
 clear h
 obtain rfl := Option.some.inj H
 go_enter Tryz.func58, Tryz.ntmps58
 go_wp2
 go_ret
 exact ⟨by first | rfl | (simp; done) | (simp [*]; done), by repeat (first | exact Drawn0.refl _ | apply Drawn0.step)⟩
/-! ### impl_without: function 59 -/
def impl_without.f (l0 : List S52) (a1 : Int) : Option (List S52) := if 0 ≤ a1 then (if a1 < (l0.length : Int) then ((slices_Clone_Hold.f l0).bind fun t => (if t.length = l0.length then some (t.eraseIdx a1.toNat) else none)) else none) else none
set_option maxHeartbeats 4000000 in
set_option maxRecDepth 1000000 in
theorem impl_without.calls (A0 : Option Addr) (c0 : Nat) (l0 : List S52) (a1 : Int) (r : List S52) (w : World) (AA : Kd.C k52 w A0 l0.length l0) (AB : l0.length ≤ c0) (h : impl_without.f l0 a1 = some r) :
    Calls Tryz.prog 59 #[.slice A0 l0.length c0, .int .i64 a1] w fun e w' => ∃ v0_ : Value, e = .returned (v0_) ∧ Kd.R k52 52 w' w.heap.size (fun _ => True) v0_ r ∧ Below w.heap.size w w' := by
 unfold impl_without.f at h
 by_cases c1 : 0 ≤ a1
 {
 rw [if_pos c1] at h
 by_cases c2 : a1 < (l0.length : Int)
 {
 rw [if_pos c2] at h
 obtain ⟨t, ht, h⟩ := Option.bind_eq_some_iff.mp h
 by_cases c3 : t.length = l0.length
 {
 rw [if_pos c3] at h
 obtain rfl := Option.some.inj h
 obtain ⟨i, rfl⟩ : ∃ i : Nat, a1 = (i : Int) := ⟨a1.toNat, by omega⟩
 have hi : i < t.length := by omega
 have hcl := slices_Clone_Hold.calls A0 c0 l0 t w AA AB ht
 have AF : t.length ≤ 9223372036854775807 := by have := AA.2.1; omega
 have hdel : ∀ (v0 : Value) (w1 : World), Kd.R k52 52 w1 w.heap.size (fun _ => True) v0 t → Below w.heap.size w w1 → Calls Tryz.prog 73 #[v0, .int .i64 (i : Int), .int .i64 ((i : Int) + 1)] w1 fun e w' => ∃ v0_ : Value, e = .returned (v0_) ∧ Kd.R k52 52 w' w.heap.size (fun _ => True) v0_ (t.eraseIdx i) ∧ Below w.heap.size w w' := by {
 intro v0 w1 hR hB
 obtain ⟨AG, AC⟩ := Kd.R_own hR
 have hbase := own_base AC
 rcases AC.2 with ⟨e0, e1⟩ | ⟨g, cap, cur, rfl, hb, hg, hrest⟩
 · omega
 {
 obtain ⟨cs, ho, hn, h1, hR'⟩ := Go.Proofs.YtlggjfhoecaelaaGreatDoor.H.R_del (zs := [.int .i16 0, .int .i8 0]) hR hi rfl
 refine (Go.Proofs.YtlggjfhoecaelaaGreatDoor.H.delHold_calls (j := i + 1) rfl ho h1 hi).mono ?_
 rintro e w' ⟨rfl, rfl⟩
 exact ⟨_, rfl, hR', Go.Proofs.YtlggjfhoecaelaaGreatDoor.H.delW_below hB hb⟩
 }
 }
 have hwr : IntKind.i64.wrap ((i : Int) + 1) = ((i + 1 : Nat) : Int) := by simp [IntKind.wrap, IntKind.bits, IntKind.signed]; omega
 clear AA AB ht h hi c1 c2 c3
 go_enter Tryz.func59, Tryz.ntmps59
 go_wp2_with (first | (go_at_call 51; refine hcl.mono ?_; rintro e w1 ⟨v0, rfl, hR, hB⟩) | (go_at_call 73; refine (hdel _ _ hR hB).mono ?_; rintro e w2 ⟨v1, rfl, AD, AE⟩))
 go_ret
 exact ⟨_, rfl, AD, AE⟩
 }
 · rw [if_neg c3] at h; exact absurd h (by simp)
 }
 · rw [if_neg c2] at h; exact absurd h (by simp)
 }
 · rw [if_neg c1] at h; exact absurd h (by simp)
/-! ### impl_LetGo: function 29 -/
def impl_LetGo.f (k : Nat) (AE : Int) (AB : List Int) (l1 : List (S52)) (a2 : Int) : Option ((List (S52)) × Int) := (impl_ValidHolds.f k AE AB l1).bind fun AF => (if AF = true then ((impl_size_Hold.f l1).bind fun AA => ((impl_within.f a2 0 (wrap64 (AA - 1))).bind fun AC => (if AC = true then ((impl_without.f l1 a2).bind fun AD => (some (AD, 0))) else (some (([] : List (S52)), 2))))) else (some (([] : List (S52)), 1)))
set_option maxHeartbeats 8000000 in
set_option maxRecDepth 100000 in
theorem impl_LetGo.calls (k : Nat) (AD : Int) (AF : Option Addr) (AE : Nat) (AC : List Int) (A1 : Option Addr) (c1 : Nat) (l1 : List (S52)) (a2 : Int) (r1 : List (S52)) (r2 : Int) (w : World) (AL : Kd.C (Kd.int .i16) w AF AC.length AC) (AM : AC.length ≤ AE) (Ag : Kd.C k52 w A1 l1.length l1) (Ah : l1.length ≤ c1) (h : impl_LetGo.f k AD AC l1 a2 = some (r1, r2)) :
    Calls Tryz.prog 29 #[.agg #[.int .i16 AD, .slice AF AC.length AE], .slice A1 l1.length c1, .int .i64 a2] w fun e w' => ∃ v0_ : Value, e = .returned (.tuple #[v0_, .int .i64 r2]) ∧ Kd.R k52 52 w' w.heap.size (fun _ => True) v0_ r1 ∧ Below w.heap.size w w' := by
 have Aq := Tryz.underlying27
 have AI := ak AL
 have AH := ak AM
 clear AL AM
 have AO := ak Ag
 have AN := ak Ah
 clear Ag Ah
 have HB := ak (Below.refl w.heap.size w)
 have H := h
 unfold impl_LetGo.f at H
 clear h
 replace H := Option.bind_eq_some_iff.mp H
 obtain ⟨Ad, Al, H⟩ := H
 have A4 := ak Al
 clear Al
 by_cases c5 : Ad = true
 {
 subst c5
 rw [if_pos rfl] at H
 replace H := Option.bind_eq_some_iff.mp H
 obtain ⟨AG, Af, H⟩ := H
 have A6 := ak Af
 clear Af
 replace H := Option.bind_eq_some_iff.mp H
 obtain ⟨Ae, Ak, H⟩ := H
 have A7 := ak Ak
 clear Ak
 by_cases c8 : Ae = true
 {
 subst c8
 rw [if_pos rfl] at H
 replace H := Option.bind_eq_some_iff.mp H
 obtain ⟨Ac, Aj, H⟩ := H
 have A9 := ak Aj
 clear Aj
 simp only [Option.some.injEq, Prod.mk.injEq] at H
 obtain ⟨rfl, rfl⟩ := H
 go_enter Tryz.func29, Tryz.ntmps29
 go_wp2_with (first | ((with_reducible refine gate_dst (N := 3) rfl ?_); refine box_event ?hg (N := 3) ?hd (cs := #[.int .i16 AD, .slice AF AC.length AE]) (t := 27) ?hr ?_; (case hd => rfl); (case hg => rfl); (case hr => first | (go_simp; done) | (go_simp; rfl)); intro AJ hg Ap hbox hb; have AA := ak (hbox); have AK := gS HB hg; have AB := gS HB hg; replace HB := kB HB hb; clear hb hbox hg; obtain ⟨AY, AQ, AV, AR⟩ := cz2 Ap AA) | ((with_reducible refine gate_callee (f := 15) rfl ?_); refine goesL_ (some 11) rfl rfl Tryz.func15 (by kernel_rfl) rfl #[.agg #[.int .i16 AD, .slice AF AC.length AE], .slice A1 l1.length c1] rfl gl_ ?_; (with_reducible refine (impl_ValidHolds.calls k AD _ _ AC _ _ l1 true _ ?side1 ?side2 ?side3 ?side4 A4.out).mono ?_); (case side1 => exact sQ (Kd.C_below AI.out HB.out)); (case side2 => exact AH.out); (case side3 => exact sQ (Kd.C_below AO.out HB.out)); (case side4 => exact AN.out); rintro e Au ⟨rfl, hb⟩; refine ⟨_, rfl, ?_⟩; replace AA := kK AA hb; replace HB := kB1 HB AB hb; (try clear hb)) | ((with_reducible refine gate_callee (f := 58) rfl ?_); refine goesL_ (some 16) rfl rfl Tryz.func58 (by kernel_rfl) rfl #[.slice A1 l1.length c1] rfl gl_ ?_; (with_reducible refine (impl_size_Hold.calls _ _ l1 AG _ ?side1 ?side2 A6.out).mono ?_); (case side1 => exact sQ (Kd.C_below AO.out HB.out)); (case side2 => exact AN.out); rintro e w' ⟨rfl, ⟨nd, rfl⟩⟩; refine ⟨_, rfl, ?_⟩) | ((with_reducible refine gate_callee (f := 41) rfl ?_); refine goesL_ (some 18) rfl rfl Tryz.func41 (by kernel_rfl) rfl #[.int .i64 a2, .int .i64 0, .int .i64 (wrap64 (AG - 1))] rfl gl_ ?_; (with_reducible refine (impl_within.calls a2 0 (wrap64 (AG - 1)) true _ A7.out).mono ?_); rintro e w' ⟨rfl, ⟨nd, rfl⟩⟩; refine ⟨_, rfl, ?_⟩) | ((with_reducible refine gate_callee (f := 59) rfl ?_); refine goesL_ (some 22) rfl rfl Tryz.func59 (by kernel_rfl) rfl #[.slice A1 l1.length c1, .int .i64 a2] rfl gl_ ?_; (with_reducible refine (impl_without.calls _ _ l1 a2 Ac _ ?side1 ?side2 A9.out).mono ?_); (case side1 => exact sQ (Kd.C_below AO.out (zBG HB.out AB.out))); (case side2 => exact AN.out); rintro e At ⟨Ao, rfl, Ai, hb⟩; refine ⟨_, rfl, ?_⟩; have AP := ak (Kd.R_lower Ai (below_size (zBG HB.out AB.out))); replace AA := kK AA hb; replace HB := kB1 HB AB hb; (try clear hb); (try clear Ai)))
 go_ret2
 exact ⟨_, rfl, AP.out, zBG HB.out AB.out⟩
 }
 {
 replace c8 := Bool.eq_false_iff.mpr c8
 subst c8
 rw [if_neg (show ¬ (false = true) by decide)] at H
 simp only [Option.some.injEq, Prod.mk.injEq] at H
 obtain ⟨rfl, rfl⟩ := H
 go_enter Tryz.func29, Tryz.ntmps29
 go_wp2_with (first | ((with_reducible refine gate_dst (N := 3) rfl ?_); refine box_event ?hg (N := 3) ?hd (cs := #[.int .i16 AD, .slice AF AC.length AE]) (t := 27) ?hr ?_; (case hd => rfl); (case hg => rfl); (case hr => first | (go_simp; done) | (go_simp; rfl)); intro AJ hg Am hbox hb; have AA := ak (hbox); have AK := gS HB hg; have AB := gS HB hg; replace HB := kB HB hb; clear hb hbox hg; obtain ⟨AU, AT, Aa, Ab⟩ := cz2 Am AA) | ((with_reducible refine gate_callee (f := 15) rfl ?_); refine goesL_ (some 11) rfl rfl Tryz.func15 (by kernel_rfl) rfl #[.agg #[.int .i16 AD, .slice AF AC.length AE], .slice A1 l1.length c1] rfl gl_ ?_; (with_reducible refine (impl_ValidHolds.calls k AD _ _ AC _ _ l1 true _ ?side1 ?side2 ?side3 ?side4 A4.out).mono ?_); (case side1 => exact sQ (Kd.C_below AI.out HB.out)); (case side2 => exact AH.out); (case side3 => exact sQ (Kd.C_below AO.out HB.out)); (case side4 => exact AN.out); rintro e As ⟨rfl, hb⟩; refine ⟨_, rfl, ?_⟩; replace AA := kK AA hb; replace HB := kB1 HB AB hb; (try clear hb)) | ((with_reducible refine gate_callee (f := 58) rfl ?_); refine goesL_ (some 16) rfl rfl Tryz.func58 (by kernel_rfl) rfl #[.slice A1 l1.length c1] rfl gl_ ?_; (with_reducible refine (impl_size_Hold.calls _ _ l1 AG _ ?side1 ?side2 A6.out).mono ?_); (case side1 => exact sQ (Kd.C_below AO.out HB.out)); (case side2 => exact AN.out); rintro e w' ⟨rfl, ⟨nd, rfl⟩⟩; refine ⟨_, rfl, ?_⟩) | ((with_reducible refine gate_callee (f := 41) rfl ?_); refine goesL_ (some 18) rfl rfl Tryz.func41 (by kernel_rfl) rfl #[.int .i64 a2, .int .i64 0, .int .i64 (wrap64 (AG - 1))] rfl gl_ ?_; (with_reducible refine (impl_within.calls a2 0 (wrap64 (AG - 1)) false _ A7.out).mono ?_); rintro e w' ⟨rfl, ⟨nd, rfl⟩⟩; refine ⟨_, rfl, ?_⟩))
 go_ret2
 exact ⟨_, rfl, by first | exact Kd.R_nil _ _ _ _ _ | exact Kd.N_nil _ _ _ _ _ | exact Kd.V_nil _ _ _ _ _ | exact Kd.Q_nil _ _ _ _ _ | exact Kd.S_nil _ _ _ _ _, zBG HB.out AB.out⟩
 }
 }
 {
 replace c5 := Bool.eq_false_iff.mpr c5
 subst c5
 rw [if_neg (show ¬ (false = true) by decide)] at H
 simp only [Option.some.injEq, Prod.mk.injEq] at H
 obtain ⟨rfl, rfl⟩ := H
 go_enter Tryz.func29, Tryz.ntmps29
 go_wp2_with (first | ((with_reducible refine gate_dst (N := 3) rfl ?_); refine box_event ?hg (N := 3) ?hd (cs := #[.int .i16 AD, .slice AF AC.length AE]) (t := 27) ?hr ?_; (case hd => rfl); (case hg => rfl); (case hr => first | (go_simp; done) | (go_simp; rfl)); intro AJ hg An hbox hb; have AA := ak (hbox); have AK := gS HB hg; have AB := gS HB hg; replace HB := kB HB hb; clear hb hbox hg; obtain ⟨AS, AW, AZ, AX⟩ := cz2 An AA) | ((with_reducible refine gate_callee (f := 15) rfl ?_); refine goesL_ (some 11) rfl rfl Tryz.func15 (by kernel_rfl) rfl #[.agg #[.int .i16 AD, .slice AF AC.length AE], .slice A1 l1.length c1] rfl gl_ ?_; (with_reducible refine (impl_ValidHolds.calls k AD _ _ AC _ _ l1 false _ ?side1 ?side2 ?side3 ?side4 A4.out).mono ?_); (case side1 => exact sQ (Kd.C_below AI.out HB.out)); (case side2 => exact AH.out); (case side3 => exact sQ (Kd.C_below AO.out HB.out)); (case side4 => exact AN.out); rintro e Ar ⟨rfl, hb⟩; refine ⟨_, rfl, ?_⟩; replace AA := kK AA hb; replace HB := kB1 HB AB hb; (try clear hb)))
 go_ret2
 exact ⟨_, rfl, by first | exact Kd.R_nil _ _ _ _ _ | exact Kd.N_nil _ _ _ _ _ | exact Kd.V_nil _ _ _ _ _ | exact Kd.Q_nil _ _ _ _ _ | exact Kd.S_nil _ _ _ _ _, zBG HB.out AB.out⟩
 }
/-! ### impl_EvenRope: function 30 -/
mutual
def impl_EvenRope.j0 : Nat → Int → Int → Bool → Option (Int × List Int × Int)
  | 0, _, _, _ => none
  | k + 1, x0, x1, AA => if AA = true then (some (0, ([] : List Int), 2)) else (impl_EvenRope.l0 k x0 x1 0 (IntKind.i16.wrap (x0)) ([] : List Int))
def impl_EvenRope.l0 : Nat → Int → Int → Int → Int → List Int → Option (Int × List Int × Int)
  | 0, _, _, _, _, _ => none
  | k + 1, x0, x1, x7, AB, AA => if x7 < x0 then (if AA.length < 70368744177664 then (impl_EvenRope.l0 k x0 x1 (wrap64 (x7 + (mn x1 x0))) AB (AA ++ [IntKind.i16.wrap (x7)])) else (none)) else (if AA.length < 70368744177664 then ((some (AA ++ [IntKind.i16.wrap (x0)] : List Int)).bind fun AC => (if (AC.length : Int) > 40 then (some (0, ([] : List Int), 3)) else (some (AB, AC, 0)))) else (none))
end
def impl_EvenRope.f (k : Nat) (a0 : Int) (a1 : Int) : Option (Int × List Int × Int) := (impl_within.f a0 1 400).bind fun AA => (if AA = true then (impl_EvenRope.j0 k a0 a1 (decide (a1 < 1))) else (impl_EvenRope.j0 k a0 a1 true))
set_option maxHeartbeats 8000000 in
set_option maxRecDepth 100000 in
theorem impl_EvenRope.calls (k : Nat) (a0 : Int) (a1 : Int) (r1 : Int) (r2 : List Int) (r3 : Int) (w : World) (h : impl_EvenRope.f k a0 a1 = some (r1, r2, r3)) :
    Calls Tryz.prog 30 #[.int .i64 a0, .int .i64 a1] w fun e w' => ∃ v1_ : Value, e = .returned (.tuple #[.agg #[.int .i16 r1, v1_], .int .i64 r3]) ∧ Kd.R (Kd.int .i16) 24 w' w.heap.size (fun _ => True) v1_ r2 ∧ Below w.heap.size w w' := by
 have Bp := Tryz.underlying27
 have HB := ak (Below.refl w.heap.size w)
 have H := h
 unfold impl_EvenRope.f at H
 clear h
 have BW := ak H
 clear H
 go_enter Tryz.func30, Tryz.ntmps30
 go_upto_region 1 with (first | ((with_reducible refine gate_dst (N := 4) rfl ?_); refine box_event ?hg (N := 4) ?hd (cs := #[.int .i16 0, .slice none 0 0]) (t := 27) ?hr ?_; (case hd => rfl); (case hg => rfl); (case hr => first | (go_simp; done) | (go_simp; rfl)); intro AI hg w4 hbox hb; have AC := ak (hbox); have BY := gS HB hg; have AG := gS HB hg; replace HB := kB HB hb; clear hb hbox hg))
 (try simp only [Act.put, zs, zz, zk])
 go_cut [14] (fun Br wc => ∃ (kq : Nat) (AR : Bool), Br = .bool AR ∧ Aside0 (impl_EvenRope.j0 kq a0 a1 AR = some (r1, r2, r3)) ∧ Aside0 (kq ≤ k) ∧ Aside0 (wc.heap[AI]? = some (.cells #[.int .i16 0, (.slice none 0 0)] 27 (0, 0))) ∧ Aside0 (Below w.heap.size w wc))
 case first => (
 have H := BW.out
 clear BW
 replace H := Option.bind_eq_some_iff.mp H
 obtain ⟨BQ, Bc, H⟩ := H
 have A5 := ak Bc
 clear Bc
 by_cases c6 : BQ = true
 {
 subst c6
 rw [if_pos rfl] at H
 have H' := ak H
 clear H
 go_wp2_with (first | ((with_reducible refine gate_callee (f := 41) rfl ?_); refine goesL_ (some 9) rfl rfl Tryz.func41 (by kernel_rfl) rfl #[.int .i64 a0, .int .i64 1, .int .i64 400] rfl gl_ ?_; (with_reducible refine (impl_within.calls a0 1 400 true _ A5.out).mono ?_); rintro e w' ⟨rfl, ⟨nd, rfl⟩⟩; refine ⟨_, rfl, ?_⟩))
 go_meet
 case rel => exact ⟨_, (decide (a1 < 1)), rfl, H', ⟨by omega⟩, ⟨(zK AC.out)⟩, ⟨zBG HB.out AG.out⟩⟩
 }
 {
 replace c6 := Bool.eq_false_iff.mpr c6
 subst c6
 rw [if_neg (show ¬ (false = true) by decide)] at H
 have H' := ak H
 clear H
 go_wp2_with (first | ((with_reducible refine gate_callee (f := 41) rfl ?_); refine goesL_ (some 9) rfl rfl Tryz.func41 (by kernel_rfl) rfl #[.int .i64 a0, .int .i64 1, .int .i64 400] rfl gl_ ?_; (with_reducible refine (impl_within.calls a0 1 400 false _ A5.out).mono ?_); rintro e w' ⟨rfl, ⟨nd, rfl⟩⟩; refine ⟨_, rfl, ?_⟩))
 go_meet
 case rel => exact ⟨_, (true), rfl, H', ⟨by omega⟩, ⟨(zK AC.out)⟩, ⟨zBG HB.out AG.out⟩⟩
 }
 )
 case rest => (
 clear BW
 obtain ⟨kq, AR, rfl, HA, Bl, AC, HB⟩ := hcut
 cases kq with
 | zero => exact absurd HA.out (by simp [impl_EvenRope.j0])
 | succ Bi => (
 have H := HA.out
 clear HA
 simp only [impl_EvenRope.j0] at H
 by_cases c7 : AR = true
 {
 subst c7
 rw [if_pos rfl] at H
 simp only [Option.some.injEq, Prod.mk.injEq] at H
 obtain ⟨rfl, rfl, rfl⟩ := H
 have BS : wc.cell? ⟨AI, 0, none⟩ = some (.int .i16 0) := (blk_cell AC.out 0).trans rfl
 have BU : wc.cell? ⟨AI, 1, none⟩ = some (.slice none 0 0) := (blk_cell AC.out 1).trans rfl
 have BR := blk_frozen AC.out 0
 have BV := blk_frozen AC.out 1
 go_wp2
 refine bodyPost_ret (results_ct rfl _ _ AI 27 #[.int .i16 0, .slice none 0 0] (0, 0) _ rfl (by refine blk_put (cs := #[.int .i16 0, .slice none 0 0]) ?_ 1 _ rfl; refine blk_put (cs := #[.int .i16 0, .slice none 0 0]) ?_ 0 _ rfl; exact AC.out) Tryz.underlying27 rfl (by kernel_rfl)) rfl ?_
 exact ⟨_, rfl, by first | exact Kd.R_nil _ _ _ _ _ | exact Kd.N_nil _ _ _ _ _ | exact Kd.V_nil _ _ _ _ _ | exact Kd.Q_nil _ _ _ _ _ | exact Kd.S_nil _ _ _ _ _, zBG HB.out AG.out⟩
 }
 {
 replace c7 := Bool.eq_false_iff.mpr c7
 subst c7
 rw [if_neg (show ¬ (false = true) by decide)] at H
 have H' := ak H
 clear H
 go_wp2_with (first | ((with_reducible refine gate_dst (N := 6) rfl ?_); refine box_event ?hg (N := 6) ?hd (cs := #[.int .i16 0, .slice none 0 0]) (t := 27) ?hr ?_; (case hd => rfl); (case hg => rfl); (case hr => first | (go_simp; done) | (go_simp; rfl)); intro AH hg w9 hbox hb; have AA := ak (hbox); have BX := gS1 HB AG hg; have AK := gS1 HB AG hg; have AE := nL AC hg; have AJ := nG AC hg; replace AC := kK AC hb; replace HB := kB1 HB AG hb; clear hb hbox hg; have Bf := AJ.out; have Bh := AE.out; obtain ⟨AT, AS, AW, AV⟩ := cz2 w9 AA))
 go_loopg [7] Bi (fun kq v7 w' => ∃ (AL : Int) (AD : List Int) (AF : Value), v7 = .int .i64 AL ∧ Aside0 (impl_EvenRope.l0 kq a0 a1 AL (IntKind.i16.wrap (a0)) AD = some (r1, r2, r3)) ∧ Aside0 (kq ≤ Bi) ∧ Aside0 (Kd.R (Kd.int .i16) 24 w' w.heap.size (fun _ => True) AF AD) ∧ Aside0 (w'.heap[AI]? = some (.cells #[.int .i16 0, (.slice none 0 0)] 27 (0, 0))) ∧ Aside0 (w'.heap[AH]? = some (.cells #[.int .i16 (IntKind.i16.wrap (a0)), AF] 27 (0, 0))) ∧ Aside0 (Below w.heap.size w w'))
 case atStart => exact ⟨(0), (([] : List Int)), (.slice none 0 0), rfl, H', ⟨Nat.le_refl _⟩, ⟨by first | exact Kd.R_nil _ _ _ _ _ | exact Kd.N_nil _ _ _ _ _ | exact Kd.V_nil _ _ _ _ _ | exact Kd.Q_nil _ _ _ _ _ | exact Kd.S_nil _ _ _ _ _⟩, ⟨by refine blk_far ?_ AE.out _; refine blk_far ?_ AE.out _; exact AC.out⟩, ⟨by refine blk_put (cs := #[.int .i16 (IntKind.i16.wrap (a0)), .slice none 0 0]) ?_ 1 _ rfl; refine blk_put (cs := #[.int .i16 0, .slice none 0 0]) ?_ 0 _ rfl; exact AA.out⟩, ⟨zH2 HB AG AK⟩⟩
 case round => (
 clear H'
 obtain ⟨AL, AD, AF, rfl, HA, Bj, AB, AC, AA, HB⟩ := hrel
 cases gk with
 | zero => exact absurd HA.out (by simp [impl_EvenRope.l0])
 | succ k2 => (
 have H := HA.out
 clear HA
 simp only [impl_EvenRope.l0] at H
 by_cases Ad : AL < a0
 {
 rw [if_pos Ad] at H
 have Al : decide (AL < a0) = true := decide_eq_true Ad
 clear Ad
 by_cases BJ : AD.length < 70368744177664
 {
 rw [if_pos BJ] at H
 have Ai := ak BJ
 clear BJ
 obtain ⟨AU, AO⟩ : ∃ y_ : List Int, y_ = (AD ++ [IntKind.i16.wrap (AL)]) := ⟨_, rfl⟩
 replace H : (impl_EvenRope.l0 k2 a0 a1 (wrap64 (AL + (mn a1 a0))) (IntKind.i16.wrap (a0)) AU) = some (r1, r2, r3) := by first | (rw [AO]; with_reducible exact H) | (have Aa := (Option.bind_some _ _).symm.trans H; rw [AO]; with_reducible exact Aa) | (have Aa := (Option.bind_some _ _).symm.trans H; with_reducible exact Aa) | with_reducible exact H | (rw [AO]; exact H) | exact H
 have Af := ak AO
 clear AO
 obtain ⟨Aj, AP⟩ : ∃ j_ : Int, (mn a1 a0) = j_ := ⟨_, rfl⟩
 first | rw [AP] at H | simp only [AP] at H
 have BM : (if a0 < a1 then a0 else a1) = Aj := AP
 have H' := ak H
 clear H
 have Bk := AJ.out
 have Ba := AE.out
 have A8 : wr.cell? ⟨AH, 0, none⟩ = some (.int .i16 (IntKind.i16.wrap (a0))) := (blk_cell AA.out 0).trans rfl
 have BB : wr.cell? ⟨AH, 1, none⟩ = some (AF) := (blk_cell AA.out 1).trans rfl
 have A4 := blk_frozen AA.out 0
 have A7 := blk_frozen AA.out 1
 go_wp2_with (first | ((with_reducible refine gate_builtin (b := .append) (xs := #[.tmp 28, .tmp 31]) rfl ?_); at_builtin; refine Kd.R_append (Kd.int .i16) (w0 := w) w.heap.size rfl (.tmp 28) (.tmp 31) 25 24 (.int .i16 0) 2 rfl Tryz.underlying25 info24 rfl (by decide) (by omega) AF AD (IntKind.i16.wrap (AL)) [.int .i16 (IntKind.i16.wrap (AL))] (fun _ => True) (fun _ => False) rfl rfl ?aP (fun _ hk => hk.elim) ?aF ?aO ?aB ?aS ?aL ?_; (case aP => exact rfl); (case aB => exact (zH2 HB AG AK)); (case aF => exact (fun _ _ => trivial)); (case aO => exact (zR AB.out)); (case aS => exact (below_size (zH2 HB AG AK))); (case aL => have := Ai.out; omega); intro Bs Bq ho hb hg hat; rw [← Af.out] at ho; have AY := ak (ho); replace AC := ak (blk_grown (g := AI) (o := .cells #[.int .i16 0, .slice none 0 0] 27 (0, 0)) (zK AC.out) hg (Kd.R_ne AB.out AC.out (by decide))); replace AA := ak (blk_grown (g := AH) (o := .cells #[.int .i16 (IntKind.i16.wrap (a0)), AF] 27 (0, 0)) (zK AA.out) hg (Kd.R_ne AB.out AA.out (by decide))); replace HB := ak (hb); clear AB ho hb hg hat; obtain ⟨Ak, Ah, BT⟩ := Kd.R_slice AY.out; subst BT; obtain ⟨BD, Ar, Ap, BH⟩ := cz2 Bq AA))
 go_roundg k2
 case measure => have := Bl.out; have := Bj.out; omega
 case rel => exact ⟨(wrap64 (AL + (Aj))), (AU), (.slice Ak AU.length Ah), (by first | rfl | (simp; done) | (simp only [← AP] <;> (first | rfl | simp)) | (simp [*]; done)), H', ⟨by have := Bl.out; have := Bj.out; omega⟩, ⟨Kd.R_mono (Kd.R_far (p := ⟨AH, 1, none⟩) (Kd.R_types AY.out AA.out (by decide)) (fun _ hk => hk.2) (.slice Ak AU.length Ah)) (fun _ hk => trivial)⟩, ⟨by refine blk_far ?_ AE.out _; exact AC.out⟩, ⟨by refine blk_put (cs := #[.int .i16 (IntKind.i16.wrap (a0)), AF]) ?_ 1 _ rfl; exact AA.out⟩, ⟨zH2 HB AG AK⟩⟩
 }
 · rw [if_neg BJ] at H; exact absurd H (by simp)
 }
 {
 rw [if_neg Ad] at H
 have Al : decide (AL < a0) = false := decide_eq_false Ad
 clear Ad
 by_cases A0 : AD.length < 70368744177664
 {
 rw [if_pos A0] at H
 have AX := ak A0
 clear A0
 obtain ⟨AM, AN⟩ : ∃ y_ : List Int, y_ = (AD ++ [IntKind.i16.wrap (a0)]) := ⟨_, rfl⟩
 replace H : (if (AM.length : Int) > 40 then (some (0, ([] : List Int), 3)) else (some ((IntKind.i16.wrap (a0)), AM, 0))) = some (r1, r2, r3) := by first | (rw [AN]; with_reducible exact H) | (have Aa := (Option.bind_some _ _).symm.trans H; rw [AN]; with_reducible exact Aa) | (have Aa := (Option.bind_some _ _).symm.trans H; with_reducible exact Aa) | with_reducible exact H | (rw [AN]; exact H) | exact H
 have AZ := ak AN
 clear AN
 by_cases Ae : (AM.length : Int) > 40
 {
 rw [if_pos Ae] at H
 have Ag : decide (40 < (AM.length : Int)) = true := decide_eq_true Ae
 have Am : decide (40 < AM.length) = true := decide_eq_true (by omega)
 clear Ae
 simp only [Option.some.injEq, Prod.mk.injEq] at H
 obtain ⟨rfl, rfl, rfl⟩ := H
 have BZ := AJ.out
 have Bm := AE.out
 have BC : wr.cell? ⟨AH, 0, none⟩ = some (.int .i16 (IntKind.i16.wrap (a0))) := (blk_cell AA.out 0).trans rfl
 have BE : wr.cell? ⟨AH, 1, none⟩ = some (AF) := (blk_cell AA.out 1).trans rfl
 have A6 := blk_frozen AA.out 0
 have Ay := blk_frozen AA.out 1
 go_wp2_with (first | ((with_reducible refine gate_builtin (b := .append) (xs := #[.tmp 35, .tmp 38]) rfl ?_); at_builtin; refine Kd.R_append (Kd.int .i16) (w0 := w) w.heap.size rfl (.tmp 35) (.tmp 38) 25 24 (.int .i16 0) 2 rfl Tryz.underlying25 info24 rfl (by decide) (by omega) AF AD (IntKind.i16.wrap (a0)) [.int .i16 (IntKind.i16.wrap (a0))] (fun _ => True) (fun _ => False) rfl rfl ?aP (fun _ hk => hk.elim) ?aF ?aO ?aB ?aS ?aL ?_; (case aP => exact rfl); (case aB => exact (zH2 HB AG AK)); (case aF => exact (fun _ _ => trivial)); (case aO => exact (zR AB.out)); (case aS => exact (below_size (zH2 HB AG AK))); (case aL => have := AX.out; omega); intro BO Bd ho hb hg hat; rw [← AZ.out] at ho; have AQ := ak (ho); replace AC := ak (blk_grown (g := AI) (o := .cells #[.int .i16 0, .slice none 0 0] 27 (0, 0)) (zK AC.out) hg (Kd.R_ne AB.out AC.out (by decide))); replace AA := ak (blk_grown (g := AH) (o := .cells #[.int .i16 (IntKind.i16.wrap (a0)), AF] 27 (0, 0)) (zK AA.out) hg (Kd.R_ne AB.out AA.out (by decide))); replace HB := ak (hb); clear AB ho hb hg hat; obtain ⟨Bn, Bo, BP⟩ := Kd.R_slice AQ.out; subst BP; obtain ⟨Ao, BK, A1, A9⟩ := cz2 Bd AA; obtain ⟨Aw, Aq, A2, Az⟩ := cz2 Bd AC))
 refine bodyPost_ret (results_ct rfl _ _ AI 27 #[.int .i16 0, .slice none 0 0] (0, 0) _ rfl (by refine blk_put (cs := #[.int .i16 0, .slice none 0 0]) ?_ 1 _ rfl; refine blk_put (cs := #[.int .i16 0, .slice none 0 0]) ?_ 0 _ rfl; refine blk_far ?_ AE.out _; exact AC.out) Tryz.underlying27 rfl (by kernel_rfl)) rfl ?_
 exact ⟨_, rfl, by first | exact Kd.R_nil _ _ _ _ _ | exact Kd.N_nil _ _ _ _ _ | exact Kd.V_nil _ _ _ _ _ | exact Kd.Q_nil _ _ _ _ _ | exact Kd.S_nil _ _ _ _ _, zH2 HB AG AK⟩
 }
 {
 rw [if_neg Ae] at H
 have Ag : decide (40 < (AM.length : Int)) = false := decide_eq_false Ae
 have Am : decide (40 < AM.length) = false := decide_eq_false (by omega)
 clear Ae
 simp only [Option.some.injEq, Prod.mk.injEq] at H
 obtain ⟨rfl, rfl, rfl⟩ := H
 have Be := AJ.out
 have Bg := AE.out
 have BF : wr.cell? ⟨AH, 0, none⟩ = some (.int .i16 (IntKind.i16.wrap (a0))) := (blk_cell AA.out 0).trans rfl
 have Ax : wr.cell? ⟨AH, 1, none⟩ = some (AF) := (blk_cell AA.out 1).trans rfl
 have BG := blk_frozen AA.out 0
 have An := blk_frozen AA.out 1
 go_wp2_with (first | ((with_reducible refine gate_builtin (b := .append) (xs := #[.tmp 35, .tmp 38]) rfl ?_); at_builtin; refine Kd.R_append (Kd.int .i16) (w0 := w) w.heap.size rfl (.tmp 35) (.tmp 38) 25 24 (.int .i16 0) 2 rfl Tryz.underlying25 info24 rfl (by decide) (by omega) AF AD (IntKind.i16.wrap (a0)) [.int .i16 (IntKind.i16.wrap (a0))] (fun _ => True) (fun _ => False) rfl rfl ?aP (fun _ hk => hk.elim) ?aF ?aO ?aB ?aS ?aL ?_; (case aP => exact rfl); (case aB => exact (zH2 HB AG AK)); (case aF => exact (fun _ _ => trivial)); (case aO => exact (zR AB.out)); (case aS => exact (below_size (zH2 HB AG AK))); (case aL => have := AX.out; omega); intro BO Bb ho hb hg hat; rw [← AZ.out] at ho; have AQ := ak (ho); replace AC := ak (blk_grown (g := AI) (o := .cells #[.int .i16 0, .slice none 0 0] 27 (0, 0)) (zK AC.out) hg (Kd.R_ne AB.out AC.out (by decide))); replace AA := ak (blk_grown (g := AH) (o := .cells #[.int .i16 (IntKind.i16.wrap (a0)), AF] 27 (0, 0)) (zK AA.out) hg (Kd.R_ne AB.out AA.out (by decide))); replace HB := ak (hb); clear AB ho hb hg hat; obtain ⟨Ac, Ab, BN⟩ := Kd.R_slice AQ.out; subst BN; obtain ⟨BL, Av, A3, At⟩ := cz2 Bb AA; obtain ⟨BI, As, Au, BA⟩ := cz2 Bb AC))
 refine bodyPost_ret (results_ct rfl _ _ AI 27 #[.int .i16 (IntKind.i16.wrap (a0)), .slice Ac AM.length Ab] (0, 0) _ rfl (by refine blk_put (cs := #[.int .i16 (IntKind.i16.wrap (a0)), .slice none 0 0]) ?_ 1 _ rfl; refine blk_put (cs := #[.int .i16 0, .slice none 0 0]) ?_ 0 _ rfl; refine blk_far ?_ AE.out _; exact AC.out) Tryz.underlying27 rfl (by kernel_rfl)) rfl ?_
 exact ⟨_, rfl, Kd.R_mono (Kd.R_far (p := ⟨AI, 1, none⟩) (Kd.R_far (p := ⟨AI, 0, none⟩) (Kd.R_far (p := ⟨AH, 1, none⟩) (Kd.R_types (Kd.R_types AQ.out AA.out (by decide)) AC.out (by decide)) (fun _ hk => hk.1.2) (.slice Ac AM.length Ab)) (fun _ hk => hk.2) (.int .i16 (IntKind.i16.wrap (a0)))) (fun _ hk => hk.2) (.slice Ac AM.length Ab)) (fun _ hk => trivial), zH2 HB AG AK⟩
 }
 }
 · rw [if_neg A0] at H; exact absurd H (by simp)
 }
 )
 )
 }
 )
 )
/-! ### spec_l00Min: function 60 -/
def spec_l00Min.f (a0 : Int) (a1 : Int) : Option (Int) := if a0 < a1 then (some a0) else (some a1)
set_option maxHeartbeats 8000000 in
set_option maxRecDepth 100000 in
theorem spec_l00Min.calls (a0 : Int) (a1 : Int) (r : Int) (w : World) (h : spec_l00Min.f a0 a1 = some r) :
    Calls Tryz.prog 60 #[.int .i64 a0, .int .i64 a1] w fun e w' => e = .returned (.int .i64 r) ∧ Drawn0 w w' := by
 have H := h
 unfold spec_l00Min.f at H
 clear h
 by_cases c3 : a0 < a1
 {
 rw [if_pos c3] at H
 have AA : decide (a0 < a1) = true := decide_eq_true c3
 clear c3
 obtain rfl := Option.some.inj H
 go_enter Tryz.func60, Tryz.ntmps60
 go_wp2
 go_ret
 exact ⟨by first | rfl | (simp; done) | (simp [*]; done), by repeat (first | exact Drawn0.refl _ | apply Drawn0.step)⟩
 }
 {
 rw [if_neg c3] at H
 have AA : decide (a0 < a1) = false := decide_eq_false c3
 clear c3
 obtain rfl := Option.some.inj H
 go_enter Tryz.func60, Tryz.ntmps60
 go_wp2
 go_ret
 exact ⟨by first | rfl | (simp; done) | (simp [*]; done), by repeat (first | exact Drawn0.refl _ | apply Drawn0.step)⟩
 }
/-! ### spec_EvenRope: function 31 -/
mutual
def spec_EvenRope.j0 : Nat → Int → Int → Bool → Option (Int × List Int × Int)
  | 0, _, _, _ => none
  | k + 1, x0, x1, AA => if AA = true then (some (0, ([] : List Int), 2)) else (spec_EvenRope.l0 k x0 x1 0 (IntKind.i16.wrap (x0)) ([] : List Int))
def spec_EvenRope.l0 : Nat → Int → Int → Int → Int → List Int → Option (Int × List Int × Int)
  | 0, _, _, _, _, _ => none
  | k + 1, x0, x1, x7, AB, AA => if x7 < x0 then (if AA.length < 70368744177664 then ((spec_l00Min.f x1 400).bind fun AD => (spec_EvenRope.l0 k x0 x1 (wrap64 (x7 + AD)) AB (AA ++ [IntKind.i16.wrap (x7)]))) else (none)) else (if AA.length < 70368744177664 then ((some (AA ++ [IntKind.i16.wrap (x0)] : List Int)).bind fun AC => (if (AC.length : Int) > 40 then (some (0, ([] : List Int), 3)) else (some (AB, AC, 0)))) else (none))
end
def spec_EvenRope.f (k : Nat) (a0 : Int) (a1 : Int) : Option (Int × List Int × Int) := (spec_l00In.f a0 1 400).bind fun AA => (if AA = true then (spec_EvenRope.j0 k a0 a1 (decide (a1 < 1))) else (spec_EvenRope.j0 k a0 a1 true))
set_option maxHeartbeats 8000000 in
set_option maxRecDepth 100000 in
theorem spec_EvenRope.calls (k : Nat) (a0 : Int) (a1 : Int) (r1 : Int) (r2 : List Int) (r3 : Int) (w : World) (h : spec_EvenRope.f k a0 a1 = some (r1, r2, r3)) :
    Calls Tryz.prog 31 #[.int .i64 a0, .int .i64 a1] w fun e w' => ∃ v1_ : Value, e = .returned (.tuple #[.agg #[.int .i16 r1, v1_], .int .i64 r3]) ∧ Kd.R (Kd.int .i16) 24 w' w.heap.size (fun _ => True) v1_ r2 ∧ Below w.heap.size w w' := by
 have Bp := Tryz.underlying27
 have HB := ak (Below.refl w.heap.size w)
 have H := h
 unfold spec_EvenRope.f at H
 clear h
 have BV := ak H
 clear H
 go_enter Tryz.func31, Tryz.ntmps31
 go_upto_region 1 with (first | ((with_reducible refine gate_dst (N := 4) rfl ?_); refine box_event ?hg (N := 4) ?hd (cs := #[.int .i16 0, .slice none 0 0]) (t := 27) ?hr ?_; (case hd => rfl); (case hg => rfl); (case hr => first | (go_simp; done) | (go_simp; rfl)); intro AI hg w4 hbox hb; have AC := ak (hbox); have BW := gS HB hg; have AG := gS HB hg; replace HB := kB HB hb; clear hb hbox hg))
 (try simp only [Act.put, zs, zz, zk])
 go_cut [14] (fun Bs wc => ∃ (kq : Nat) (AP : Bool), Bs = .bool AP ∧ Aside0 (spec_EvenRope.j0 kq a0 a1 AP = some (r1, r2, r3)) ∧ Aside0 (kq ≤ k) ∧ Aside0 (wc.heap[AI]? = some (.cells #[.int .i16 0, (.slice none 0 0)] 27 (0, 0))) ∧ Aside0 (Below w.heap.size w wc))
 case first => (
 have H := BV.out
 clear BV
 replace H := Option.bind_eq_some_iff.mp H
 obtain ⟨BT, Ba, H⟩ := H
 have A5 := ak Ba
 clear Ba
 by_cases c6 : BT = true
 {
 subst c6
 rw [if_pos rfl] at H
 have H' := ak H
 clear H
 go_wp2_with (first | ((with_reducible refine gate_callee (f := 48) rfl ?_); refine goesL_ (some 9) rfl rfl Tryz.func48 (by kernel_rfl) rfl #[.int .i64 a0, .int .i64 1, .int .i64 400] rfl gl_ ?_; (with_reducible refine (spec_l00In.calls a0 1 400 true _ A5.out).mono ?_); rintro e w' ⟨rfl, ⟨nd, rfl⟩⟩; refine ⟨_, rfl, ?_⟩))
 go_meet
 case rel => exact ⟨_, (decide (a1 < 1)), rfl, H', ⟨by omega⟩, ⟨(zK AC.out)⟩, ⟨zBG HB.out AG.out⟩⟩
 }
 {
 replace c6 := Bool.eq_false_iff.mpr c6
 subst c6
 rw [if_neg (show ¬ (false = true) by decide)] at H
 have H' := ak H
 clear H
 go_wp2_with (first | ((with_reducible refine gate_callee (f := 48) rfl ?_); refine goesL_ (some 9) rfl rfl Tryz.func48 (by kernel_rfl) rfl #[.int .i64 a0, .int .i64 1, .int .i64 400] rfl gl_ ?_; (with_reducible refine (spec_l00In.calls a0 1 400 false _ A5.out).mono ?_); rintro e w' ⟨rfl, ⟨nd, rfl⟩⟩; refine ⟨_, rfl, ?_⟩))
 go_meet
 case rel => exact ⟨_, (true), rfl, H', ⟨by omega⟩, ⟨(zK AC.out)⟩, ⟨zBG HB.out AG.out⟩⟩
 }
 )
 case rest => (
 clear BV
 obtain ⟨kq, AP, rfl, HA, Bk, AC, HB⟩ := hcut
 cases kq with
 | zero => exact absurd HA.out (by simp [spec_EvenRope.j0])
 | succ Bh => (
 have H := HA.out
 clear HA
 simp only [spec_EvenRope.j0] at H
 by_cases c7 : AP = true
 {
 subst c7
 rw [if_pos rfl] at H
 simp only [Option.some.injEq, Prod.mk.injEq] at H
 obtain ⟨rfl, rfl, rfl⟩ := H
 have BQ : wc.cell? ⟨AI, 0, none⟩ = some (.int .i16 0) := (blk_cell AC.out 0).trans rfl
 have BS : wc.cell? ⟨AI, 1, none⟩ = some (.slice none 0 0) := (blk_cell AC.out 1).trans rfl
 have BP := blk_frozen AC.out 0
 have BU := blk_frozen AC.out 1
 go_wp2
 refine bodyPost_ret (results_ct rfl _ _ AI 27 #[.int .i16 0, .slice none 0 0] (0, 0) _ rfl (by refine blk_put (cs := #[.int .i16 0, .slice none 0 0]) ?_ 1 _ rfl; refine blk_put (cs := #[.int .i16 0, .slice none 0 0]) ?_ 0 _ rfl; exact AC.out) Tryz.underlying27 rfl (by kernel_rfl)) rfl ?_
 exact ⟨_, rfl, by first | exact Kd.R_nil _ _ _ _ _ | exact Kd.N_nil _ _ _ _ _ | exact Kd.V_nil _ _ _ _ _ | exact Kd.Q_nil _ _ _ _ _ | exact Kd.S_nil _ _ _ _ _, zBG HB.out AG.out⟩
 }
 {
 replace c7 := Bool.eq_false_iff.mpr c7
 subst c7
 rw [if_neg (show ¬ (false = true) by decide)] at H
 have H' := ak H
 clear H
 go_wp2_with (first | ((with_reducible refine gate_dst (N := 6) rfl ?_); refine box_event ?hg (N := 6) ?hd (cs := #[.int .i16 0, .slice none 0 0]) (t := 27) ?hr ?_; (case hd => rfl); (case hg => rfl); (case hr => first | (go_simp; done) | (go_simp; rfl)); intro AH hg w9 hbox hb; have AA := ak (hbox); have Bc := gS1 HB AG hg; have AK := gS1 HB AG hg; have AF := nL AC hg; have AJ := nG AC hg; replace AC := kK AC hb; replace HB := kB1 HB AG hb; clear hb hbox hg; have Be := AJ.out; have Bg := AF.out; obtain ⟨AS, AR, AU, AT⟩ := cz2 w9 AA))
 go_loopg [7] Bh (fun kq v7 w' => ∃ (AL : Int) (AD : List Int) (AE : Value), v7 = .int .i64 AL ∧ Aside0 (spec_EvenRope.l0 kq a0 a1 AL (IntKind.i16.wrap (a0)) AD = some (r1, r2, r3)) ∧ Aside0 (kq ≤ Bh) ∧ Aside0 (Kd.R (Kd.int .i16) 24 w' w.heap.size (fun _ => True) AE AD) ∧ Aside0 (w'.heap[AI]? = some (.cells #[.int .i16 0, (.slice none 0 0)] 27 (0, 0))) ∧ Aside0 (w'.heap[AH]? = some (.cells #[.int .i16 (IntKind.i16.wrap (a0)), AE] 27 (0, 0))) ∧ Aside0 (Below w.heap.size w w'))
 case atStart => exact ⟨(0), (([] : List Int)), (.slice none 0 0), rfl, H', ⟨Nat.le_refl _⟩, ⟨by first | exact Kd.R_nil _ _ _ _ _ | exact Kd.N_nil _ _ _ _ _ | exact Kd.V_nil _ _ _ _ _ | exact Kd.Q_nil _ _ _ _ _ | exact Kd.S_nil _ _ _ _ _⟩, ⟨by refine blk_far ?_ AF.out _; refine blk_far ?_ AF.out _; exact AC.out⟩, ⟨by refine blk_put (cs := #[.int .i16 (IntKind.i16.wrap (a0)), .slice none 0 0]) ?_ 1 _ rfl; refine blk_put (cs := #[.int .i16 0, .slice none 0 0]) ?_ 0 _ rfl; exact AA.out⟩, ⟨zH2 HB AG AK⟩⟩
 case round => (
 clear H'
 obtain ⟨AL, AD, AE, rfl, HA, Bi, AB, AC, AA, HB⟩ := hrel
 cases gk with
 | zero => exact absurd HA.out (by simp [spec_EvenRope.l0])
 | succ k2 => (
 have H := HA.out
 clear HA
 simp only [spec_EvenRope.l0] at H
 by_cases Ad : AL < a0
 {
 rw [if_pos Ad] at H
 have Al : decide (AL < a0) = true := decide_eq_true Ad
 clear Ad
 by_cases BJ : AD.length < 70368744177664
 {
 rw [if_pos BJ] at H
 have Aj := ak BJ
 clear BJ
 obtain ⟨AW, AO⟩ : ∃ y_ : List Int, y_ = (AD ++ [IntKind.i16.wrap (AL)]) := ⟨_, rfl⟩
 replace H : ((spec_l00Min.f a1 400).bind fun AV => (spec_EvenRope.l0 k2 a0 a1 (wrap64 (AL + AV)) (IntKind.i16.wrap (a0)) AW)) = some (r1, r2, r3) := by first | (rw [AO]; with_reducible exact H) | (have Aa := (Option.bind_some _ _).symm.trans H; rw [AO]; with_reducible exact Aa) | (have Aa := (Option.bind_some _ _).symm.trans H; with_reducible exact Aa) | with_reducible exact H | (rw [AO]; exact H) | exact H
 have Ag := ak AO
 clear AO
 replace H := Option.bind_eq_some_iff.mp H
 obtain ⟨AV, Af, H⟩ := H
 have Bm := ak Af
 clear Af
 have H' := ak H
 clear H
 have Bj := AJ.out
 have BY := AF.out
 have A8 : wr.cell? ⟨AH, 0, none⟩ = some (.int .i16 (IntKind.i16.wrap (a0))) := (blk_cell AA.out 0).trans rfl
 have BB : wr.cell? ⟨AH, 1, none⟩ = some (AE) := (blk_cell AA.out 1).trans rfl
 have A4 := blk_frozen AA.out 0
 have A7 := blk_frozen AA.out 1
 go_wp2_with (first | ((with_reducible refine gate_builtin (b := .append) (xs := #[.tmp 27, .tmp 30]) rfl ?_); at_builtin; refine Kd.R_append (Kd.int .i16) (w0 := w) w.heap.size rfl (.tmp 27) (.tmp 30) 25 24 (.int .i16 0) 2 rfl Tryz.underlying25 info24 rfl (by decide) (by omega) AE AD (IntKind.i16.wrap (AL)) [.int .i16 (IntKind.i16.wrap (AL))] (fun _ => True) (fun _ => False) rfl rfl ?aP (fun _ hk => hk.elim) ?aF ?aO ?aB ?aS ?aL ?_; (case aP => exact rfl); (case aB => exact (zH2 HB AG AK)); (case aF => exact (fun _ _ => trivial)); (case aO => exact (zR AB.out)); (case aS => exact (below_size (zH2 HB AG AK))); (case aL => have := Aj.out; omega); intro Bq Br ho hb hg hat; rw [← Ag.out] at ho; have AX := ak (ho); replace AC := ak (blk_grown (g := AI) (o := .cells #[.int .i16 0, .slice none 0 0] 27 (0, 0)) (zK AC.out) hg (Kd.R_ne AB.out AC.out (by decide))); replace AA := ak (blk_grown (g := AH) (o := .cells #[.int .i16 (IntKind.i16.wrap (a0)), AE] 27 (0, 0)) (zK AA.out) hg (Kd.R_ne AB.out AA.out (by decide))); replace HB := ak (hb); clear AB ho hb hg hat; obtain ⟨Ak, Ai, BR⟩ := Kd.R_slice AX.out; subst BR; obtain ⟨BD, Ar, Ap, BH⟩ := cz2 Br AA) | ((with_reducible refine gate_callee (f := 60) rfl ?_); refine goesL_ (some 24) rfl rfl Tryz.func60 (by kernel_rfl) rfl #[.int .i64 a1, .int .i64 400] rfl gl_ ?_; (with_reducible refine (spec_l00Min.calls a1 400 AV _ Bm.out).mono ?_); rintro e w' ⟨rfl, ⟨nd, rfl⟩⟩; refine ⟨_, rfl, ?_⟩))
 go_roundg k2
 case measure => have := Bk.out; have := Bi.out; omega
 case rel => exact ⟨(wrap64 (AL + AV)), (AW), (.slice Ak AW.length Ai), rfl, H', ⟨by have := Bk.out; have := Bi.out; omega⟩, ⟨Kd.R_mono (Kd.R_far (p := ⟨AH, 1, none⟩) (Kd.R_types AX.out AA.out (by decide)) (fun _ hk => hk.2) (.slice Ak AW.length Ai)) (fun _ hk => trivial)⟩, ⟨by refine blk_far ?_ AF.out _; exact AC.out⟩, ⟨by refine blk_put (cs := #[.int .i16 (IntKind.i16.wrap (a0)), AE]) ?_ 1 _ rfl; exact AA.out⟩, ⟨zH2 HB AG AK⟩⟩
 }
 · rw [if_neg BJ] at H; exact absurd H (by simp)
 }
 {
 rw [if_neg Ad] at H
 have Al : decide (AL < a0) = false := decide_eq_false Ad
 clear Ad
 by_cases A0 : AD.length < 70368744177664
 {
 rw [if_pos A0] at H
 have AZ := ak A0
 clear A0
 obtain ⟨AM, AN⟩ : ∃ y_ : List Int, y_ = (AD ++ [IntKind.i16.wrap (a0)]) := ⟨_, rfl⟩
 replace H : (if (AM.length : Int) > 40 then (some (0, ([] : List Int), 3)) else (some ((IntKind.i16.wrap (a0)), AM, 0))) = some (r1, r2, r3) := by first | (rw [AN]; with_reducible exact H) | (have Aa := (Option.bind_some _ _).symm.trans H; rw [AN]; with_reducible exact Aa) | (have Aa := (Option.bind_some _ _).symm.trans H; with_reducible exact Aa) | with_reducible exact H | (rw [AN]; exact H) | exact H
 have AY := ak AN
 clear AN
 by_cases Ae : (AM.length : Int) > 40
 {
 rw [if_pos Ae] at H
 have Ah : decide (40 < (AM.length : Int)) = true := decide_eq_true Ae
 have Am : decide (40 < AM.length) = true := decide_eq_true (by omega)
 clear Ae
 simp only [Option.some.injEq, Prod.mk.injEq] at H
 obtain ⟨rfl, rfl, rfl⟩ := H
 have BX := AJ.out
 have Bl := AF.out
 have BC : wr.cell? ⟨AH, 0, none⟩ = some (.int .i16 (IntKind.i16.wrap (a0))) := (blk_cell AA.out 0).trans rfl
 have BE : wr.cell? ⟨AH, 1, none⟩ = some (AE) := (blk_cell AA.out 1).trans rfl
 have A6 := blk_frozen AA.out 0
 have Ay := blk_frozen AA.out 1
 go_wp2_with (first | ((with_reducible refine gate_builtin (b := .append) (xs := #[.tmp 34, .tmp 37]) rfl ?_); at_builtin; refine Kd.R_append (Kd.int .i16) (w0 := w) w.heap.size rfl (.tmp 34) (.tmp 37) 25 24 (.int .i16 0) 2 rfl Tryz.underlying25 info24 rfl (by decide) (by omega) AE AD (IntKind.i16.wrap (a0)) [.int .i16 (IntKind.i16.wrap (a0))] (fun _ => True) (fun _ => False) rfl rfl ?aP (fun _ hk => hk.elim) ?aF ?aO ?aB ?aS ?aL ?_; (case aP => exact rfl); (case aB => exact (zH2 HB AG AK)); (case aF => exact (fun _ _ => trivial)); (case aO => exact (zR AB.out)); (case aS => exact (below_size (zH2 HB AG AK))); (case aL => have := AZ.out; omega); intro BN Bb ho hb hg hat; rw [← AY.out] at ho; have AQ := ak (ho); replace AC := ak (blk_grown (g := AI) (o := .cells #[.int .i16 0, .slice none 0 0] 27 (0, 0)) (zK AC.out) hg (Kd.R_ne AB.out AC.out (by decide))); replace AA := ak (blk_grown (g := AH) (o := .cells #[.int .i16 (IntKind.i16.wrap (a0)), AE] 27 (0, 0)) (zK AA.out) hg (Kd.R_ne AB.out AA.out (by decide))); replace HB := ak (hb); clear AB ho hb hg hat; obtain ⟨Bn, Bo, BO⟩ := Kd.R_slice AQ.out; subst BO; obtain ⟨Ao, BK, A1, A9⟩ := cz2 Bb AA; obtain ⟨Aw, Aq, A2, Az⟩ := cz2 Bb AC))
 refine bodyPost_ret (results_ct rfl _ _ AI 27 #[.int .i16 0, .slice none 0 0] (0, 0) _ rfl (by refine blk_put (cs := #[.int .i16 0, .slice none 0 0]) ?_ 1 _ rfl; refine blk_put (cs := #[.int .i16 0, .slice none 0 0]) ?_ 0 _ rfl; refine blk_far ?_ AF.out _; exact AC.out) Tryz.underlying27 rfl (by kernel_rfl)) rfl ?_
 exact ⟨_, rfl, by first | exact Kd.R_nil _ _ _ _ _ | exact Kd.N_nil _ _ _ _ _ | exact Kd.V_nil _ _ _ _ _ | exact Kd.Q_nil _ _ _ _ _ | exact Kd.S_nil _ _ _ _ _, zH2 HB AG AK⟩
 }
 {
 rw [if_neg Ae] at H
 have Ah : decide (40 < (AM.length : Int)) = false := decide_eq_false Ae
 have Am : decide (40 < AM.length) = false := decide_eq_false (by omega)
 clear Ae
 simp only [Option.some.injEq, Prod.mk.injEq] at H
 obtain ⟨rfl, rfl, rfl⟩ := H
 have Bd := AJ.out
 have Bf := AF.out
 have BF : wr.cell? ⟨AH, 0, none⟩ = some (.int .i16 (IntKind.i16.wrap (a0))) := (blk_cell AA.out 0).trans rfl
 have Ax : wr.cell? ⟨AH, 1, none⟩ = some (AE) := (blk_cell AA.out 1).trans rfl
 have BG := blk_frozen AA.out 0
 have An := blk_frozen AA.out 1
 go_wp2_with (first | ((with_reducible refine gate_builtin (b := .append) (xs := #[.tmp 34, .tmp 37]) rfl ?_); at_builtin; refine Kd.R_append (Kd.int .i16) (w0 := w) w.heap.size rfl (.tmp 34) (.tmp 37) 25 24 (.int .i16 0) 2 rfl Tryz.underlying25 info24 rfl (by decide) (by omega) AE AD (IntKind.i16.wrap (a0)) [.int .i16 (IntKind.i16.wrap (a0))] (fun _ => True) (fun _ => False) rfl rfl ?aP (fun _ hk => hk.elim) ?aF ?aO ?aB ?aS ?aL ?_; (case aP => exact rfl); (case aB => exact (zH2 HB AG AK)); (case aF => exact (fun _ _ => trivial)); (case aO => exact (zR AB.out)); (case aS => exact (below_size (zH2 HB AG AK))); (case aL => have := AZ.out; omega); intro BN BZ ho hb hg hat; rw [← AY.out] at ho; have AQ := ak (ho); replace AC := ak (blk_grown (g := AI) (o := .cells #[.int .i16 0, .slice none 0 0] 27 (0, 0)) (zK AC.out) hg (Kd.R_ne AB.out AC.out (by decide))); replace AA := ak (blk_grown (g := AH) (o := .cells #[.int .i16 (IntKind.i16.wrap (a0)), AE] 27 (0, 0)) (zK AA.out) hg (Kd.R_ne AB.out AA.out (by decide))); replace HB := ak (hb); clear AB ho hb hg hat; obtain ⟨Ac, Ab, BM⟩ := Kd.R_slice AQ.out; subst BM; obtain ⟨BL, Av, A3, At⟩ := cz2 BZ AA; obtain ⟨BI, As, Au, BA⟩ := cz2 BZ AC))
 refine bodyPost_ret (results_ct rfl _ _ AI 27 #[.int .i16 (IntKind.i16.wrap (a0)), .slice Ac AM.length Ab] (0, 0) _ rfl (by refine blk_put (cs := #[.int .i16 (IntKind.i16.wrap (a0)), .slice none 0 0]) ?_ 1 _ rfl; refine blk_put (cs := #[.int .i16 0, .slice none 0 0]) ?_ 0 _ rfl; refine blk_far ?_ AF.out _; exact AC.out) Tryz.underlying27 rfl (by kernel_rfl)) rfl ?_
 exact ⟨_, rfl, Kd.R_mono (Kd.R_far (p := ⟨AI, 1, none⟩) (Kd.R_far (p := ⟨AI, 0, none⟩) (Kd.R_far (p := ⟨AH, 1, none⟩) (Kd.R_types (Kd.R_types AQ.out AA.out (by decide)) AC.out (by decide)) (fun _ hk => hk.1.2) (.slice Ac AM.length Ab)) (fun _ hk => hk.2) (.int .i16 (IntKind.i16.wrap (a0)))) (fun _ hk => hk.2) (.slice Ac AM.length Ab)) (fun _ hk => trivial), zH2 HB AG AK⟩
 }
 }
 · rw [if_neg A0] at H; exact absurd H (by simp)
 }
 )
 )
 }
 )
 )
end Go.Proofs.YtlggjfhoecaelaaGreatDoor.P
