-- Printed by wip/print (my turned copy of the kit's print) out of the translation; Lean checks it.
import Derived.Test.YtlggjfhoecaelaaGreatDoorP0
import Derived.Test.YtlggjfhoecaelaaGreatDoorP2
namespace Go.Proofs.YtlggjfhoecaelaaGreatDoor.P
open Go.RowKit Go.Proofs.YtlggjfhoecaelaaGreatDoorW.PrintWords Go.Proofs.YtlggjfhoecaelaaGreatDoorW.PrintLast Go.Proofs.YtlggjfhoecaelaaGreatDoorW.PrintMore
attribute [local go_sem] max2_int min2_int max_two min_two max_three min_three max_four min_four   -- for this text's walks alone
set_option linter.unusedVariables false
set_option linter.unusedSimpArgs false

/-! ### spec_P6Holds: function 6 -/
def spec_P6Holds.f (k : Nat) (l0 : List Int) (AD : Int) (AC : List Int) : Option ((List (S52))) := (spec_l00From.f l0).bind fun AA => ((spec_l03Held.f k AA.1 AA.2.1 AA.2.2 AD AC).bind fun AB => (some AB.1))
set_option maxHeartbeats 8000000 in
set_option maxRecDepth 100000 in
theorem spec_P6Holds.calls (k : Nat) (A0 : Option Addr) (c0 : Nat) (l0 : List Int) (AF : Int) (AH : Option Addr) (AG : Nat) (AB : List Int) (r : List (S52)) (w : World) (AY : Kd.C (Kd.int .u8) w A0 l0.length l0) (AX : l0.length ≤ c0) (AK : Kd.C (Kd.int .i16) w AH AB.length AB) (AL : AB.length ≤ AG) (h : spec_P6Holds.f k l0 AF AB = some r) :
    Calls Tryz.prog 6 #[.slice A0 l0.length c0, .agg #[.int .i16 AF, .slice AH AB.length AG]] w fun e w' => ∃ v0_ : Value, e = .returned (v0_) ∧ Kd.R k52 52 w' w.heap.size (fun _ => True) v0_ r ∧ Below w.heap.size w w' := by
 have Ag := Tryz.underlying27
 have Ae := ak AY
 have Ad := ak AX
 clear AY AX
 have AM := ak AK
 have AP := ak AL
 clear AK AL
 have HB := ak (Below.refl w.heap.size w)
 have H := h
 unfold spec_P6Holds.f at H
 clear h
 replace H := Option.bind_eq_some_iff.mp H
 obtain ⟨⟨AO, AS, AQ⟩, AZ, H⟩ := H
 have A3 := ak AZ
 clear AZ
 replace H := Option.bind_eq_some_iff.mp H
 obtain ⟨⟨AV, AW, AU⟩, Aa, H⟩ := H
 have A4 := ak Aa
 clear Aa
 obtain rfl := Option.some.inj H
 go_enter Tryz.func6, Tryz.ntmps6
 go_wp2_with (first | ((with_reducible refine gate_dst (N := 3) rfl ?_); refine box_event ?hg (N := 3) ?hd (cs := #[.int .i16 AF, .slice AH AB.length AG]) (t := 27) ?hr ?_; (case hd => rfl); (case hg => rfl); (case hr => first | (go_simp; done) | (go_simp; rfl)); intro AE hg w5 hbox hb; have AA := ak (hbox); have Ab := gS HB hg; have AI := gS HB hg; replace HB := kB HB hb; clear hb hbox hg) | ((with_reducible refine gate_callee (f := 33) rfl ?_); refine goesL_ (some 6) rfl rfl Tryz.func33 (by kernel_rfl) rfl #[.slice A0 l0.length c0] rfl gl_ ?_; (with_reducible refine (spec_l00From.calls _ _ l0 AO AS AQ w _ ?side1 ?side2 ?side3 A3.out).mono ?_); (case side1 => repeat (first | (with_reducible first | exact HB.out | apply below_alloc | apply pw_below_drewN | apply below_drew1 | refine below_set ?_ AI.out) | exact HB.out)); (case side2 => exact Ae.out); (case side3 => exact Ad.out); rintro e w6 ⟨AR, rfl, hi, hb, AT⟩; refine ⟨_, rfl, ?_⟩; have AC := ak (hi); have AJ := ak (IsS86.ne_blk hi (blk_below (g := AE) (o := .cells #[.int .i16 AF, .slice AH AB.length AG] 27 (0, 0)) (zK AA.out) AT) (by decide)); have AD := ak (Ne.symm (IsS86.ne_blk hi (blk_below (g := AE) (o := .cells #[.int .i16 AF, .slice AH AB.length AG] 27 (0, 0)) (zK AA.out) AT) (by decide))); replace AA := ak (blk_below (g := AE) (o := .cells #[.int .i16 AF, .slice AH AB.length AG] 27 (0, 0)) (zK AA.out) AT); replace HB := ak (hb); (try clear hb); (try clear AT); (try clear hi)) | ((with_reducible refine gate_callee (f := 34) rfl ?_); refine goesL_ (some 7) rfl rfl Tryz.func34 (by kernel_rfl) rfl #[.pointer (some ⟨AR, 0, none⟩), .pointer (some ⟨AE, 0, none⟩)] rfl gl_ ?_; (with_reducible refine (spec_l03Held.calls k AR AO AS AQ AE AF AH AG AB AV AW AU w _ ?side1 ?side2 ?side3 ?side4 ?side5 ?side6 ?side7 A4.out).mono ?_); (case side1 => repeat (first | (with_reducible first | exact AC.out | apply IsS86.alloc | apply IsS86.drewN | apply IsS86.drew | apply IsS86.set_1 | apply IsS86.set_2 | refine IsS86.far ?_ AJ.out _) | exact AC.out)); (case side2 => repeat (first | (with_reducible first | exact HB.out | apply below_alloc | apply pw_below_drewN | apply below_drew1 | refine below_set ?_ (IsS86.ge AC.out) | refine below_set ?_ AI.out) | exact HB.out)); (case side3 => exact sQ (Kd.C_below AM.out HB.out)); (case side4 => exact AP.out); (case side5 => exact Kd.far_C 0 AM.out (IsS86.ge AC.out)); (case side6 => exact (zK AA.out)); (case side7 => exact AD.out); rintro e w7 ⟨Af, rfl, Ac, hi, hb, hk⟩; refine ⟨_, rfl, ?_⟩; have AN := ak (Kd.R_lower Ac (below_size (by repeat (first | (with_reducible first | exact HB.out | apply below_alloc | apply pw_below_drewN | apply below_drew1 | refine below_set ?_ (IsS86.ge AC.out) | refine below_set ?_ AI.out) | exact HB.out)))); replace AA := ak (KeepBut.blk hk (g' := AE) (o := .cells #[.int .i16 AF, .slice AH AB.length AG] 27 (0, 0)) (zK AA.out) AD.out (by simp)); replace HB := ak (hb); replace AC := ak (hi); (try clear hb); (try clear hk); (try clear hi); (try clear Ac)))
 go_ret
 exact ⟨_, rfl, AN.out, by repeat (first | (with_reducible first | exact HB.out | apply below_alloc | apply pw_below_drewN | apply below_drew1 | refine below_set ?_ (IsS86.ge AC.out) | refine below_set ?_ AI.out) | exact HB.out)⟩
/-! ### impl_within: function 41 -/
def impl_within.f (a0 : Int) (a1 : Int) (a2 : Int) : Option (Bool) := if a1 ≤ a0 then (some (decide (a0 ≤ a2))) else (some false)
set_option maxHeartbeats 8000000 in
set_option maxRecDepth 100000 in
theorem impl_within.calls (a0 : Int) (a1 : Int) (a2 : Int) (r : Bool) (w : World) (h : impl_within.f a0 a1 a2 = some r) :
    Calls Tryz.prog 41 #[.int .i64 a0, .int .i64 a1, .int .i64 a2] w fun e w' => e = .returned (.bool r) ∧ Drawn0 w w' := by
 have H := h
 unfold impl_within.f at H
 clear h
 by_cases c4 : a1 ≤ a0
 {
 rw [if_pos c4] at H
 have AA : decide (a1 ≤ a0) = true := decide_eq_true c4
 clear c4
 obtain rfl := Option.some.inj H
 go_enter Tryz.func41, Tryz.ntmps41
 go_wp2
 go_ret
 exact ⟨by first | rfl | (simp; done) | (simp [*]; done), by repeat (first | exact Drawn0.refl _ | apply Drawn0.step)⟩
 }
 {
 rw [if_neg c4] at H
 have AA : decide (a1 ≤ a0) = false := decide_eq_false c4
 clear c4
 obtain rfl := Option.some.inj H
 go_enter Tryz.func41, Tryz.ntmps41
 go_wp2
 go_ret
 exact ⟨by first | rfl | (simp; done) | (simp [*]; done), by repeat (first | exact Drawn0.refl _ | apply Drawn0.step)⟩
 }
/-! ### impl_size_int16: function 42 -/
def impl_size_int16.f (l0 : List Int) : Option (Int) := some (l0.length : Int)
set_option maxHeartbeats 8000000 in
set_option maxRecDepth 100000 in
theorem impl_size_int16.calls (A0 : Option Addr) (c0 : Nat) (l0 : List Int) (r : Int) (w : World) (AB : Kd.C (Kd.int .i16) w A0 l0.length l0) (AA : l0.length ≤ c0) (h : impl_size_int16.f l0 = some r) :
    Calls Tryz.prog 42 #[.slice A0 l0.length c0] w fun e w' => e = .returned (.int .i64 r) ∧ Drawn0 w w' := by
 have AD := ak AB
 have AC := ak AA
 clear AB AA
 have H := h
 unfold impl_size_int16.f at H
 clear h
 obtain rfl := Option.some.inj H
 go_enter Tryz.func42, Tryz.ntmps42
 go_wp2
 go_ret
 exact ⟨by first | rfl | (simp; done) | (simp [*]; done), by repeat (first | exact Drawn0.refl _ | apply Drawn0.step)⟩
/-! ### impl_ValidRope: function 13 -/
mutual
def impl_ValidRope.j0 : Nat → Bool → Int → List Int → Option (Bool)
  | 0, _, _, _ => none
  | k + 1, AC, AA, AB => if AC = true then (some false) else (impl_ValidRope.l0 k 1 AA AB)
def impl_ValidRope.l0 : Nat → Int → Int → List Int → Option (Bool)
  | 0, _, _, _ => none
  | k + 1, x3, AB, AA => if x3 < (AA.length : Int) then (if 0 ≤ x3 then (if 0 ≤ (wrap64 (x3 - 1)) then (if (wrap64 (x3 - 1)) < (AA.length : Int) then (if (rd AA x3) ≤ (rd AA (wrap64 (x3 - 1))) then (some false) else (impl_ValidRope.l0 k (wrap64 (x3 + 1)) AB AA)) else (none)) else (none)) else (none)) else (if 0 < (AA.length : Int) then (if (rd AA 0) = 0 then (if 0 ≤ (wrap64 ((AA.length : Int) - 1)) then (if (wrap64 ((AA.length : Int) - 1)) < (AA.length : Int) then (some ((rd AA (wrap64 ((AA.length : Int) - 1))) == AB)) else (none)) else (none)) else (some false)) else (none))
end
def impl_ValidRope.f (k : Nat) (AB : Int) (AA : List Int) : Option (Bool) := (impl_within.f (wrap64 (AB)) 1 400).bind fun AC => (if AC = true then ((impl_size_int16.f AA).bind fun AE => ((impl_within.f AE 2 40).bind fun AD => (impl_ValidRope.j0 k (!AD) AB AA))) else (impl_ValidRope.j0 k true AB AA))
set_option maxHeartbeats 8000000 in
set_option maxRecDepth 100000 in
theorem impl_ValidRope.calls (k : Nat) (AE : Int) (AM : Option Addr) (AL : Nat) (AA : List Int) (r : Bool) (w : World) (Ae : Kd.C (Kd.int .i16) w AM AA.length AA) (Af : AA.length ≤ AL) (h : impl_ValidRope.f k AE AA = some r) :
    Calls Tryz.prog 13 #[.agg #[.int .i16 AE, .slice AM AA.length AL]] w fun e w' => e = .returned (.bool r) ∧ Below w.heap.size w w' := by
 have Bq := Tryz.underlying27
 have AJ := ak Ae
 have Ab := ak Af
 clear Ae Af
 have HB := ak (Below.refl w.heap.size w)
 have H := h
 unfold impl_ValidRope.f at H
 clear h
 have BW := ak H
 clear H
 go_enter Tryz.func13, Tryz.ntmps13
 go_upto_region 1 with (first | ((with_reducible refine gate_dst (N := 1) rfl ?_); (try (refine gate_guard (by rfl) ?_; dsimp only)); refine box_event ?hg (N := 1) ?hd (cs := #[.int .i16 AE, .slice AM AA.length AL]) (t := 27) ?hr ?_; (case hd => rfl); (case hg => rfl); (case hr => first | (go_simp; done) | (go_simp; rfl)); intro AD hg w3 hbox hb; have AB := ak (hbox); have Ad := gS HB hg; have AF := gS HB hg; replace HB := kB HB hb; clear hb hbox hg))
 repeat (go_quiet (first | ((with_reducible refine gate_dst (N := 1) rfl ?_); (try (refine gate_guard (by rfl) ?_; dsimp only)); refine box_event ?hg (N := 1) ?hd (cs := #[.int .i16 AE, .slice AM AA.length AL]) (t := 27) ?hr ?_; (case hd => rfl); (case hg => rfl); (case hr => first | (go_simp; done) | (go_simp; rfl)); intro AD hg w3 hbox hb; have BZ := ak (below_step (zB HB.out) hb); have Bc := ak (hbox); have Bd := gS HB hg; have Bj := gS HB hg; clear HB; have HB := BZ; have AB := Bc; have Ad := Bd; have AF := Bj; clear BZ Bc Bd Bj; clear hb hbox hg)); go_upto_region 1 with (first | ((with_reducible refine gate_dst (N := 1) rfl ?_); (try (refine gate_guard (by rfl) ?_; dsimp only)); refine box_event ?hg (N := 1) ?hd (cs := #[.int .i16 AE, .slice AM AA.length AL]) (t := 27) ?hr ?_; (case hd => rfl); (case hg => rfl); (case hr => first | (go_simp; done) | (go_simp; rfl)); intro AD hg w3 hbox hb; have AB := ak (hbox); have Ad := gS HB hg; have AF := gS HB hg; replace HB := kB HB hb; clear hb hbox hg)))
 (try simp only [Act.put, zs, zz, zk])
 go_cut [15] (fun Bp wc => ∃ (kq : Nat) (AV : Bool), Bp = .bool AV ∧ Aside0 (impl_ValidRope.j0 kq AV AE AA = some r) ∧ Aside0 (kq ≤ k) ∧ Aside0 (wc.heap[AD]? = some (.cells #[.int .i16 AE, (.slice AM AA.length AL)] 27 (0, 0))) ∧ Aside0 (Below w.heap.size w wc))
 case first => (
 have H := BW.out
 clear BW
 replace H := Option.bind_eq_some_iff.mp H
 obtain ⟨BM, Bg, H⟩ := H
 have A4 := ak Bg
 clear Bg
 by_cases c5 : BM = true
 {
 subst c5
 rw [if_pos rfl] at H
 replace H := Option.bind_eq_some_iff.mp H
 obtain ⟨AY, Ba, H⟩ := H
 have A6 := ak Ba
 clear Ba
 replace H := Option.bind_eq_some_iff.mp H
 obtain ⟨Ac, Bf, H⟩ := H
 have A7 := ak Bf
 clear Bf
 have H' := ak H
 clear H
 have BP : w3.cell? ⟨AD, 0, none⟩ = some (.int .i16 AE) := (blk_cell AB.out 0).trans rfl
 have BQ : w3.cell? ⟨AD, 1, none⟩ = some (.slice AM AA.length AL) := (blk_cell AB.out 1).trans rfl
 have BO := blk_frozen AB.out 0
 have BU := blk_frozen AB.out 1
 go_wp2_with (first | (go_at_call 41; (with_reducible refine (impl_within.calls (wrap64 (AE)) 1 400 true _ A4.out).mono ?_); rintro e w' ⟨rfl, ⟨nd, rfl⟩⟩) | (go_at_call 42; (with_reducible refine (impl_size_int16.calls _ _ AA AY _ ?side1 ?side2 A6.out).mono ?_); (case side1 => exact sQ (Kd.C_below AJ.out (zBG HB.out AF.out))); (case side2 => exact Ab.out); rintro e w' ⟨rfl, ⟨nd, rfl⟩⟩) | (go_at_call 41; (with_reducible refine (impl_within.calls AY 2 40 Ac _ A7.out).mono ?_); rintro e w' ⟨rfl, ⟨nd, rfl⟩⟩))
 repeat (go_quiet (first | (go_at_call 41; (with_reducible refine (impl_within.calls (wrap64 (AE)) 1 400 true _ A4.out).mono ?_); rintro e w' ⟨rfl, ⟨nd, rfl⟩⟩; (try first | exact ⟨rfl, _, World.drewN_drewN _ _ _⟩ | exact ⟨rfl, _, Eq.trans (World.drewN_drewN _ _ _) (congrArg (World.drewN _) (Nat.add_assoc _ _ _))⟩)) | (go_at_call 42; (with_reducible refine (impl_size_int16.calls _ _ AA AY _ ?side1 ?side2 A6.out).mono ?_); (case side1 => exact sQ (Kd.C_below AJ.out (zBG HB.out AF.out))); (case side2 => exact Ab.out); rintro e w' ⟨rfl, ⟨nd, rfl⟩⟩; (try first | exact ⟨rfl, _, World.drewN_drewN _ _ _⟩ | exact ⟨rfl, _, Eq.trans (World.drewN_drewN _ _ _) (congrArg (World.drewN _) (Nat.add_assoc _ _ _))⟩)) | (go_at_call 41; (with_reducible refine (impl_within.calls AY 2 40 Ac _ A7.out).mono ?_); rintro e w' ⟨rfl, ⟨nd, rfl⟩⟩; (try first | exact ⟨rfl, _, World.drewN_drewN _ _ _⟩ | exact ⟨rfl, _, Eq.trans (World.drewN_drewN _ _ _) (congrArg (World.drewN _) (Nat.add_assoc _ _ _))⟩))); try go_wp2_with (first | (go_at_call 41; (with_reducible refine (impl_within.calls (wrap64 (AE)) 1 400 true _ A4.out).mono ?_); rintro e w' ⟨rfl, ⟨nd, rfl⟩⟩; (try first | exact ⟨rfl, _, World.drewN_drewN _ _ _⟩ | exact ⟨rfl, _, Eq.trans (World.drewN_drewN _ _ _) (congrArg (World.drewN _) (Nat.add_assoc _ _ _))⟩)) | (go_at_call 42; (with_reducible refine (impl_size_int16.calls _ _ AA AY _ ?side1 ?side2 A6.out).mono ?_); (case side1 => exact sQ (Kd.C_below AJ.out (zBG HB.out AF.out))); (case side2 => exact Ab.out); rintro e w' ⟨rfl, ⟨nd, rfl⟩⟩; (try first | exact ⟨rfl, _, World.drewN_drewN _ _ _⟩ | exact ⟨rfl, _, Eq.trans (World.drewN_drewN _ _ _) (congrArg (World.drewN _) (Nat.add_assoc _ _ _))⟩)) | (go_at_call 41; (with_reducible refine (impl_within.calls AY 2 40 Ac _ A7.out).mono ?_); rintro e w' ⟨rfl, ⟨nd, rfl⟩⟩; (try first | exact ⟨rfl, _, World.drewN_drewN _ _ _⟩ | exact ⟨rfl, _, Eq.trans (World.drewN_drewN _ _ _) (congrArg (World.drewN _) (Nat.add_assoc _ _ _))⟩))))
 go_meet
 case rel => exact ⟨_, (!Ac), rfl, H', ⟨by omega⟩, ⟨(zK AB.out)⟩, ⟨zBG HB.out AF.out⟩⟩
 }
 {
 replace c5 := Bool.eq_false_iff.mpr c5
 subst c5
 rw [if_neg (show ¬ (false = true) by decide)] at H
 have H' := ak H
 clear H
 have BV : w3.cell? ⟨AD, 0, none⟩ = some (.int .i16 AE) := (blk_cell AB.out 0).trans rfl
 have BR : w3.cell? ⟨AD, 1, none⟩ = some (.slice AM AA.length AL) := (blk_cell AB.out 1).trans rfl
 have BS := blk_frozen AB.out 0
 have BN := blk_frozen AB.out 1
 go_wp2_with (first | (go_at_call 41; (with_reducible refine (impl_within.calls (wrap64 (AE)) 1 400 false _ A4.out).mono ?_); rintro e w' ⟨rfl, ⟨nd, rfl⟩⟩))
 repeat (go_quiet (first | (go_at_call 41; (with_reducible refine (impl_within.calls (wrap64 (AE)) 1 400 false _ A4.out).mono ?_); rintro e w' ⟨rfl, ⟨nd, rfl⟩⟩; (try first | exact ⟨rfl, _, World.drewN_drewN _ _ _⟩ | exact ⟨rfl, _, Eq.trans (World.drewN_drewN _ _ _) (congrArg (World.drewN _) (Nat.add_assoc _ _ _))⟩))); try go_wp2_with (first | (go_at_call 41; (with_reducible refine (impl_within.calls (wrap64 (AE)) 1 400 false _ A4.out).mono ?_); rintro e w' ⟨rfl, ⟨nd, rfl⟩⟩; (try first | exact ⟨rfl, _, World.drewN_drewN _ _ _⟩ | exact ⟨rfl, _, Eq.trans (World.drewN_drewN _ _ _) (congrArg (World.drewN _) (Nat.add_assoc _ _ _))⟩))))
 go_meet
 case rel => exact ⟨_, (true), rfl, H', ⟨by omega⟩, ⟨(zK AB.out)⟩, ⟨zBG HB.out AF.out⟩⟩
 }
 )
 case rest => (
 clear BW
 obtain ⟨kq, AV, rfl, HA, Bo, AB, HB⟩ := hcut
 cases kq with
 | zero => exact absurd HA.out (by simp [impl_ValidRope.j0])
 | succ Bb => (
 have H := HA.out
 clear HA
 simp only [impl_ValidRope.j0] at H
 by_cases At : AV = true
 {
 subst At
 rw [if_pos rfl] at H
 obtain rfl := Option.some.inj H
 go_wp2
 repeat (go_quiet (fail); try go_wp2)
 go_ret
 exact ⟨rfl, zBG HB.out AF.out⟩
 }
 {
 replace At := Bool.eq_false_iff.mpr At
 subst At
 rw [if_neg (show ¬ (false = true) by decide)] at H
 have H' := ak H
 clear H
 go_wp2
 repeat (go_quiet (fail); try go_wp2)
 go_loopg [3] Bb (fun kq v3 w' => ∃ (AG : Int), v3 = .int .i64 AG ∧ Aside0 (impl_ValidRope.l0 kq AG AE AA = some r) ∧ Aside0 (kq ≤ Bb) ∧ Aside0 (w'.heap[AD]? = some (.cells #[.int .i16 AE, (.slice AM AA.length AL)] 27 (0, 0))) ∧ Aside0 (Below w.heap.size w w'))
 case atStart => exact ⟨(1), rfl, H', ⟨Nat.le_refl _⟩, ⟨(zK AB.out)⟩, ⟨zBG HB.out AF.out⟩⟩
 case round => (
 clear H'
 obtain ⟨AG, rfl, HA, Bn, AB, HB⟩ := hrel
 cases gk with
 | zero => exact absurd HA.out (by simp [impl_ValidRope.l0])
 | succ k2 => (
 have H := HA.out
 clear HA
 simp only [impl_ValidRope.l0] at H
 by_cases An : AG < (AA.length : Int)
 {
 rw [if_pos An] at H
 have Ap : decide (AG < (AA.length : Int)) = true := decide_eq_true An
 clear An
 by_cases Aw : 0 ≤ AG
 {
 rw [if_pos Aw] at H
 have Bl : decide (0 ≤ AG) = true := decide_eq_true Aw
 clear Aw
 obtain ⟨AK, AX⟩ : ∃ j_ : Int, (wrap64 (AG - 1)) = j_ := ⟨_, rfl⟩
 first | rw [AX] at H | simp only [AX] at H
 have BX : (IntKind.i64.wrap (AG - 1)) = AK := (i64_w _).trans AX
 by_cases A0 : 0 ≤ (AK)
 {
 rw [if_pos A0] at H
 have Bh : decide (0 ≤ (AK)) = true := decide_eq_true A0
 clear A0
 by_cases Ax : (AK) < (AA.length : Int)
 {
 rw [if_pos Ax] at H
 have BY : decide ((AK) < (AA.length : Int)) = true := decide_eq_true Ax
 clear Ax
 by_cases Ao : (rd AA AG) ≤ (rd AA (AK))
 {
 rw [if_pos Ao] at H
 have Ar : decide ((rd AA AG) ≤ (rd AA (AK))) = true := decide_eq_true Ao
 clear Ao
 obtain rfl := Option.some.inj H
 have A9 : wr.cell? ⟨AD, 0, none⟩ = some (.int .i16 AE) := (blk_cell AB.out 0).trans rfl
 have BE : wr.cell? ⟨AD, 1, none⟩ = some (.slice AM AA.length AL) := (blk_cell AB.out 1).trans rfl
 have BA := blk_frozen AB.out 0
 have A8 := blk_frozen AB.out 1
 have AR : 0 ≤ (AG : Int) := of_decide_eq_true (by assumption)
 have AT : AG < (AA.length : Int) := of_decide_eq_true (by assumption)
 obtain ⟨Aa, Al, AH⟩ := Kd.at_int AJ.out AG AR AT
 cases Al
 replace AH := (HB.out.cell (World.block_lt_of_cell? w _ AH)).trans AH
 replace AR := eq_true AR
 replace AT := eq_true AT
 have AU : 0 ≤ ((AK) : Int) := of_decide_eq_true (by assumption)
 have AQ : (AK) < (AA.length : Int) := of_decide_eq_true (by assumption)
 obtain ⟨AZ, Ah, AI⟩ := Kd.at_int AJ.out (AK) AU AQ
 obtain rfl : Aa = AZ := (by injection Ah)
 replace AI := (HB.out.cell (World.block_lt_of_cell? w _ AI)).trans AI
 replace AU := eq_true AU
 replace AQ := eq_true AQ
 go_wp2
 repeat (go_quiet (fail); try go_wp2)
 go_ret
 exact ⟨by first | rfl | (simp [errW_none, errW_some] <;> rfl) | (simp only [← AX]; first | rfl | (simp [errW_none, errW_some] <;> rfl)) | (simp [*, errW_none, errW_some] <;> rfl), zBG HB.out AF.out⟩
 }
 {
 rw [if_neg Ao] at H
 have Ar : decide ((rd AA AG) ≤ (rd AA (AK))) = false := decide_eq_false Ao
 clear Ao
 have H' := ak H
 clear H
 have Ay : wr.cell? ⟨AD, 0, none⟩ = some (.int .i16 AE) := (blk_cell AB.out 0).trans rfl
 have BG : wr.cell? ⟨AD, 1, none⟩ = some (.slice AM AA.length AL) := (blk_cell AB.out 1).trans rfl
 have BH := blk_frozen AB.out 0
 have A5 := blk_frozen AB.out 1
 have AR : 0 ≤ (AG : Int) := of_decide_eq_true (by assumption)
 have AT : AG < (AA.length : Int) := of_decide_eq_true (by assumption)
 obtain ⟨Aa, Al, AH⟩ := Kd.at_int AJ.out AG AR AT
 cases Al
 replace AH := (HB.out.cell (World.block_lt_of_cell? w _ AH)).trans AH
 replace AR := eq_true AR
 replace AT := eq_true AT
 have AU : 0 ≤ ((AK) : Int) := of_decide_eq_true (by assumption)
 have AQ : (AK) < (AA.length : Int) := of_decide_eq_true (by assumption)
 obtain ⟨AZ, Ah, AI⟩ := Kd.at_int AJ.out (AK) AU AQ
 obtain rfl : Aa = AZ := (by injection Ah)
 replace AI := (HB.out.cell (World.block_lt_of_cell? w _ AI)).trans AI
 replace AU := eq_true AU
 replace AQ := eq_true AQ
 go_wp2
 repeat (go_quiet (fail); try go_wp2)
 go_roundg k2
 case measure => have := Bo.out; have := Bn.out; omega
 case rel => exact ⟨(wrap64 (AG + 1)), rfl, H', ⟨by have := Bo.out; have := Bn.out; omega⟩, ⟨(zK AB.out)⟩, ⟨zBG HB.out AF.out⟩⟩
 }
 }
 · rw [if_neg Ax] at H; exact absurd H (by simp)
 }
 · rw [if_neg A0] at H; exact absurd H (by simp)
 }
 · rw [if_neg Aw] at H; exact absurd H (by simp)
 }
 {
 rw [if_neg An] at H
 have Ap : decide (AG < (AA.length : Int)) = false := decide_eq_false An
 clear An
 by_cases BB : 0 < (AA.length : Int)
 {
 rw [if_pos BB] at H
 have Bm : decide (0 < (AA.length : Int)) = true := decide_eq_true BB
 have Bi : decide (0 < AA.length) = true := decide_eq_true (by omega)
 clear BB
 by_cases Ai : (rd AA 0) = 0
 {
 rw [if_pos Ai] at H
 have Av : ((rd AA 0) == 0) = true := beq_iff_eq.mpr Ai
 have Aq : ((rd AA 0) != 0) = false := bne_eq_false_iff_eq.mpr Ai
 clear Ai
 obtain ⟨AO, AW⟩ : ∃ j_ : Int, (wrap64 ((AA.length : Int) - 1)) = j_ := ⟨_, rfl⟩
 first | rw [AW] at H | simp only [AW] at H
 have BT : (IntKind.i64.wrap ((AA.length : Int) - 1)) = AO := (i64_w _).trans AW
 by_cases A3 : 0 ≤ (AO)
 {
 rw [if_pos A3] at H
 have Bk : decide (0 ≤ (AO)) = true := decide_eq_true A3
 clear A3
 by_cases A1 : (AO) < (AA.length : Int)
 {
 rw [if_pos A1] at H
 have Be : decide ((AO) < (AA.length : Int)) = true := decide_eq_true A1
 clear A1
 obtain rfl := Option.some.inj H
 have A2 : wr.cell? ⟨AD, 0, none⟩ = some (.int .i16 AE) := (blk_cell AB.out 0).trans rfl
 have BJ : wr.cell? ⟨AD, 1, none⟩ = some (.slice AM AA.length AL) := (blk_cell AB.out 1).trans rfl
 have BC := blk_frozen AB.out 0
 have BK := blk_frozen AB.out 1
 have AS : 0 ≤ (0 : Int) := (by omega)
 have AP : 0 < (AA.length : Int) := of_decide_eq_true (by assumption)
 obtain ⟨Ag, Am, AC⟩ := Kd.at_int AJ.out 0 AS AP
 cases Am
 have Au : (0 < AA.length) = True := eq_true (by omega)
 (try rw [show ((0 : Int)).toNat = 0 from rfl] at AC)
 (try rw [Addr.add_zero'] at AC)
 replace AC := (HB.out.cell (World.block_lt_of_cell? w _ AC)).trans AC
 replace AS := eq_true AS
 replace AP := eq_true AP
 have Aj : 0 ≤ ((AO) : Int) := of_decide_eq_true (by assumption)
 have Ak : (AO) < (AA.length : Int) := of_decide_eq_true (by assumption)
 obtain ⟨As, BL, AN⟩ := Kd.at_int AJ.out (AO) Aj Ak
 obtain rfl : Ag = As := (by injection BL)
 replace AN := (HB.out.cell (World.block_lt_of_cell? w _ AN)).trans AN
 replace Aj := eq_true Aj
 replace Ak := eq_true Ak
 go_wp2
 repeat (go_quiet (fail); try go_wp2)
 go_ret
 exact ⟨by first | rfl | (simp [errW_none, errW_some] <;> rfl) | (simp only [← AW]; first | rfl | (simp [errW_none, errW_some] <;> rfl)) | (simp [*, errW_none, errW_some] <;> rfl), zBG HB.out AF.out⟩
 }
 · rw [if_neg A1] at H; exact absurd H (by simp)
 }
 · rw [if_neg A3] at H; exact absurd H (by simp)
 }
 {
 rw [if_neg Ai] at H
 have Av : ((rd AA 0) == 0) = false := beq_eq_false_iff_ne.mpr Ai
 have Aq : ((rd AA 0) != 0) = true := bne_iff_ne.mpr Ai
 obtain rfl := Option.some.inj H
 have Az : wr.cell? ⟨AD, 0, none⟩ = some (.int .i16 AE) := (blk_cell AB.out 0).trans rfl
 have BF : wr.cell? ⟨AD, 1, none⟩ = some (.slice AM AA.length AL) := (blk_cell AB.out 1).trans rfl
 have BI := blk_frozen AB.out 0
 have BD := blk_frozen AB.out 1
 have AS : 0 ≤ (0 : Int) := (by omega)
 have AP : 0 < (AA.length : Int) := of_decide_eq_true (by assumption)
 obtain ⟨Ag, Am, AC⟩ := Kd.at_int AJ.out 0 AS AP
 cases Am
 have Au : (0 < AA.length) = True := eq_true (by omega)
 (try rw [show ((0 : Int)).toNat = 0 from rfl] at AC)
 (try rw [Addr.add_zero'] at AC)
 replace AC := (HB.out.cell (World.block_lt_of_cell? w _ AC)).trans AC
 replace AS := eq_true AS
 replace AP := eq_true AP
 go_wp2
 repeat (go_quiet (fail); try go_wp2)
 go_ret
 exact ⟨rfl, zBG HB.out AF.out⟩
 }
 }
 · rw [if_neg BB] at H; exact absurd H (by simp)
 }
 )
 )
 }
 )
 )
/-! ### impl_decimal: function 37 -/
def impl_decimal.f (a0 : Int) : Option ByteArray := if -9223372036854775808 ≤ a0 ∧ a0 ≤ 9223372036854775807 then some ⟨(Lib.itoa a0).toArray⟩ else none
theorem impl_decimal.calls (a0 : Int) (r : ByteArray) (w : World) (hgt : Go.Proofs.YtlggjfhoecaelaaGreatDoor.H.Tab10 w) (h : impl_decimal.f a0 = some r) :
    Calls Tryz.prog 37 #[.int .i64 a0] w fun e w' => e = .returned (.string r) ∧ Below w.heap.size w w' := by
 unfold impl_decimal.f at h
 by_cases c : -9223372036854775808 ≤ a0 ∧ a0 ≤ 9223372036854775807
 · rw [if_pos c] at h; obtain rfl := Option.some.inj h; exact Go.Proofs.YtlggjfhoecaelaaGreatDoor.H.decimal_calls a0 c.1 c.2 w hgt
 · rw [if_neg c] at h; exact absurd h (by simp)
/-! ### strings_Join: function 38 -/
def strings_Join.f (l0 : List ByteArray) (a1 : ByteArray) : Option ByteArray := if l0.length ≤ 140737488355328 ∧ (Lib.join (l0.map (·.data.toList)) a1.data.toList).length ≤ 140737488355328 then some ⟨(Lib.join (l0.map (·.data.toList)) a1.data.toList).toArray⟩ else none
theorem strings_Join.calls (A0 : Option Addr) (c0 : Nat) (l0 : List ByteArray) (a1 : ByteArray) (r : ByteArray) (w : World) (AB : Kd.C Kd.string w A0 l0.length l0) (AA : l0.length ≤ c0) (h : strings_Join.f l0 a1 = some r) :
    Calls Tryz.prog 38 #[.slice A0 l0.length c0, .string a1] w fun e w' => e = .returned (.string r) ∧ Below w.heap.size w w' := by
 unfold strings_Join.f at h
 by_cases c : l0.length ≤ 140737488355328 ∧ (Lib.join (l0.map (·.data.toList)) a1.data.toList).length ≤ 140737488355328
 · rw [if_pos c] at h; obtain rfl := Option.some.inj h; exact Go.Proofs.YtlggjfhoecaelaaGreatDoor.H.join_calls A0 c0 l0 a1 w AB AA c.1 c.2
 · rw [if_neg c] at h; exact absurd h (by simp)
/-! ### impl_RopeText: function 8 -/
def impl_RopeText.l0 : Nat → List ByteArray → List Int → Int → Int → Option (ByteArray)
  | 0, _, _, _, _ => none
  | k + 1, x3, AB, AE, AA => if AA < AE then (if 0 ≤ AA then (if AA < (AB.length : Int) then ((impl_decimal.f (wrap64 (rd AB AA))).bind fun AD => (if x3.length < 8796093022208 then (impl_RopeText.l0 k (x3 ++ [AD]) AB AE (wrap64 (AA + 1))) else (none))) else (none)) else (none)) else ((strings_Join.f x3 (⟨#[45]⟩ : ByteArray)).bind fun AC => (some AC))
def impl_RopeText.f (k : Nat) (AB : Int) (AA : List Int)  : Option (ByteArray) := (impl_ValidRope.f k AB AA).bind fun AC => (if AC = true then (impl_RopeText.l0 k (([] : List ByteArray)) AA (AA.length : Int) 0) else (some (⟨#[]⟩ : ByteArray)))
set_option maxHeartbeats 8000000 in
set_option maxRecDepth 100000 in
theorem impl_RopeText.calls (k : Nat) (AE : Int) (AL : Option Addr) (AI : Nat) (AB : List Int)  (r : ByteArray) (w : World) (AT : Kd.C (Kd.int .i16) w AL AB.length AB) (AV : AB.length ≤ AI) (hgt : Go.Proofs.YtlggjfhoecaelaaGreatDoor.H.Tab10 w) (h : impl_RopeText.f k AE AB = some r) :
    Calls Tryz.prog 8 #[.agg #[.int .i16 AE, .slice AL AB.length AI]] w fun e w' => e = .returned (.string r) ∧ Below w.heap.size w w' := by
 have BH := Tryz.underlying27
 have AN := ak AT
 have AW := ak AV
 clear AT AV
 have BI := ak hgt
 clear hgt
 have HB := ak (Below.refl w.heap.size w)
 have H := h
 unfold impl_RopeText.f at H
 clear h
 replace H := Option.bind_eq_some_iff.mp H
 obtain ⟨Az, A6, H⟩ := H
 have A3 := ak A6
 clear A6
 by_cases c4 : Az = true
 {
 subst c4
 rw [if_pos rfl] at H
 obtain ⟨Ah, AH⟩ : ∃ y_ : List ByteArray, y_ = (([] : List ByteArray)) := ⟨_, rfl⟩
 replace H : (impl_RopeText.l0 k Ah AB (AB.length : Int) 0) = some r := by first | (rw [AH]; with_reducible exact H) | (have AZ := (Option.bind_some _ _).symm.trans H; rw [AH]; with_reducible exact AZ) | (have AZ := (Option.bind_some _ _).symm.trans H; with_reducible exact AZ) | with_reducible exact H | (rw [AH]; exact H) | exact H
 have AU := ak AH
 clear AH
 have H' := ak H
 clear H
 go_enter Tryz.func8, Tryz.ntmps8
 go_wp2_with (first | ((with_reducible refine gate_dst (N := 1) rfl ?_); refine box_event ?hg (N := 1) ?hd (cs := #[.int .i16 AE, .slice AL AB.length AI]) (t := 27) ?hr ?_; (case hd => rfl); (case hg => rfl); (case hr => first | (go_simp; done) | (go_simp; rfl)); intro AM hg w5 hbox hb; have AA := ak (hbox); have Ar := gS HB hg; have AD := gS HB hg; replace HB := kB HB hb; clear hb hbox hg; obtain ⟨Ab, AX, AY, Ad⟩ := cz2 w5 AA) | ((with_reducible refine gate_callee (f := 13) rfl ?_); refine goesL_ (some 7) rfl rfl Tryz.func13 (by kernel_rfl) rfl #[.agg #[.int .i16 AE, .slice AL AB.length AI]] rfl gl_ ?_; (with_reducible refine (impl_ValidRope.calls k AE _ _ AB true _ ?side1 ?side2 A3.out).mono ?_); (case side1 => exact sQ (Kd.C_below AN.out HB.out)); (case side2 => exact AW.out); rintro e w7 ⟨rfl, hb⟩; refine ⟨_, rfl, ?_⟩; replace AA := kK AA hb; replace HB := kB1 HB AD hb; (try clear hb)) | ((with_reducible refine gate_dst (N := 9) rfl ?_); refine Kd.R_lit Kd.string _ 9 ?hg (N := 9) ?hd (xs := ([] : List ByteArray)) (inner := []) (ok := fun _ => True) (okp := fun _ => True) ?hr ?hp (fun _ hk => hk) trivial (Below.refl _ _) (Nat.le_refl _) (by simp) ?_; (case hd => rfl); (case hg => rfl); (case hr => first | (go_simp; done) | (go_simp; rfl)); (case hp => exact (Reps.none _ _)); intro BD w8 Aq hb BE Am; clear BE Am; (first | rw [← AU.out] at Aq | (simp only [Int.reduceToNat] at Aq; rw [← AU.out] at Aq)); have Ao := ak (Kd.R_lower Aq (below_size (zBG HB.out AD.out))); replace AA := kK AA hb; replace HB := kB1 HB AD hb; clear hb Aq; obtain ⟨AS, AR, AO, AQ⟩ := cz2 w8 AA))
 go_loopg [3, 13] k (fun kq v3 BG w' => ∃ (AK : List ByteArray) (AC : Int), BG = .int .i64 AC ∧ Aside0 (impl_RopeText.l0 kq AK AB (AB.length : Int) AC = some r) ∧ Aside0 (kq ≤ k) ∧ Aside0 (Kd.R Kd.string 9 w' w.heap.size (fun _ => True) v3 AK) ∧ Aside0 (w'.heap[AM]? = some (.cells #[.int .i16 AE, (.slice AL AB.length AI)] 27 (0, 0))) ∧ Aside0 (Below w.heap.size w w'))
 case atStart => exact ⟨(Ah), (0), rfl, H', ⟨Nat.le_refl _⟩, ⟨(zR Ao.out)⟩, ⟨(zK AA.out)⟩, ⟨zBG HB.out AD.out⟩⟩
 case round => (
 clear H'
 obtain ⟨AK, AC, rfl, HA, A8, AF, AA, HB⟩ := hrel
 cases gk with
 | zero => exact absurd HA.out (by simp [impl_RopeText.l0])
 | succ k1 => (
 have H := HA.out
 clear HA
 simp only [impl_RopeText.l0] at H
 by_cases Ae : AC < (AB.length : Int)
 {
 rw [if_pos Ae] at H
 have Af : decide (AC < (AB.length : Int)) = true := decide_eq_true Ae
 clear Ae
 by_cases At : 0 ≤ AC
 {
 rw [if_pos At] at H
 have A7 : decide (0 ≤ AC) = true := decide_eq_true At
 clear At
 by_cases Ay : AC < (AB.length : Int)
 {
 rw [if_pos Ay] at H
 have A9 : decide (AC < (AB.length : Int)) = true := decide_eq_true Ay
 clear Ay
 replace H := Option.bind_eq_some_iff.mp H
 obtain ⟨AP, Ai, H⟩ := H
 have BB := ak Ai
 clear Ai
 by_cases Aw : AK.length < 8796093022208
 {
 rw [if_pos Aw] at H
 have Ak := ak Aw
 clear Aw
 obtain ⟨Al, AJ⟩ : ∃ y_ : List ByteArray, y_ = (AK ++ [AP]) := ⟨_, rfl⟩
 replace H : (impl_RopeText.l0 k1 Al AB (AB.length : Int) (wrap64 (AC + 1))) = some r := by first | (rw [AJ]; with_reducible exact H) | (have AZ := (Option.bind_some _ _).symm.trans H; rw [AJ]; with_reducible exact AZ) | (have AZ := (Option.bind_some _ _).symm.trans H; with_reducible exact AZ) | with_reducible exact H | (rw [AJ]; exact H) | exact H
 have Ag := ak AJ
 clear AJ
 have H' := ak H
 clear H
 have Ac : 0 ≤ (AC : Int) := of_decide_eq_true (by assumption)
 have Aa : AC < (AB.length : Int) := of_decide_eq_true (by assumption)
 obtain ⟨Ap, A1, AG⟩ := Kd.at_int AN.out AC Ac Aa
 cases A1
 replace AG := (HB.out.cell (World.block_lt_of_cell? w _ AG)).trans AG
 replace Ac := eq_true Ac
 replace Aa := eq_true Aa
 go_wp2_with (first | ((with_reducible refine gate_callee (f := 37) rfl ?_); refine goesL_ (some 20) rfl rfl Tryz.func37 (by kernel_rfl) rfl #[.int .i64 (wrap64 (rd AB AC))] rfl gl_ ?_; (with_reducible refine (impl_decimal.calls (wrap64 (rd AB AC))  AP _ ?side1 BB.out).mono ?_); (case side1 => exact Go.Proofs.YtlggjfhoecaelaaGreatDoor.H.tab10_below BI.out (zBG HB.out AD.out)); rintro e BM ⟨rfl, hb⟩; refine ⟨_, rfl, ?_⟩; replace AF := kR AF hb; replace AA := kK AA hb; replace HB := kB1 HB AD hb; (try clear hb)) | ((with_reducible refine gate_builtin (b := .append) (xs := #[.tmp 17, .tmp 21]) rfl ?_); at_builtin; refine Kd.R_append Kd.string (w0 := w) w.heap.size rfl (.tmp 17) (.tmp 21) 62 9 (.string ⟨#[]⟩) 16 rfl Tryz.underlying62 info9 rfl (by decide) (by omega) u3 AK AP [.string AP] (fun _ => True) (fun _ => False) rfl rfl ?aP (fun _ hk => hk.elim) ?aF ?aO ?aB ?aS ?aL ?_; (case aP => exact rfl); (case aB => exact (zBG HB.out AD.out)); (case aF => exact (fun _ _ => trivial)); (case aO => exact (zR AF.out)); (case aS => exact (below_size (zBG HB.out AD.out))); (case aL => have := Ak.out; omega); intro BF BK ho hb hg hat; rw [← Ag.out] at ho; have An := ak (ho); replace AA := ak (blk_grown (g := AM) (o := .cells #[.int .i16 AE, .slice (some Ap) AB.length AI] 27 (0, 0)) (zK AA.out) hg (Kd.R_ne AF.out AA.out (by decide))); replace HB := ak (hb); clear AF ho hb hg hat))
 go_roundg k1
 case measure => have := A8.out; omega
 case rel => exact ⟨(Al), (wrap64 (AC + 1)), rfl, H', ⟨by have := A8.out; omega⟩, ⟨(zR An.out)⟩, ⟨(zK AA.out)⟩, ⟨zBG HB.out AD.out⟩⟩
 }
 · rw [if_neg Aw] at H; exact absurd H (by simp)
 }
 · rw [if_neg Ay] at H; exact absurd H (by simp)
 }
 · rw [if_neg At] at H; exact absurd H (by simp)
 }
 {
 rw [if_neg Ae] at H
 have Af : decide (AC < (AB.length : Int)) = false := decide_eq_false Ae
 clear Ae
 replace H := Option.bind_eq_some_iff.mp H
 obtain ⟨A4, Aj, H⟩ := H
 have BC := ak Aj
 clear Aj
 obtain rfl := Option.some.inj H
 obtain ⟨A0, A2, A5⟩ := Kd.R_slice AF.out
 subst A5
 go_wp2_with (first | ((with_reducible refine gate_callee (f := 38) rfl ?_); refine goesL_ (some 25) rfl rfl Tryz.func38 (by kernel_rfl) rfl #[.slice A0 AK.length A2, .string (⟨#[45]⟩ : ByteArray)] rfl gl_ ?_; (with_reducible refine (strings_Join.calls _ _ AK (⟨#[45]⟩ : ByteArray) A4 _ ?side1 ?side2 BC.out).mono ?_); (case side1 => exact sC AF); (case side2 => exact sL AF); rintro e BJ ⟨rfl, hb⟩; refine ⟨_, rfl, ?_⟩; replace AF := kR AF hb; replace AA := kK AA hb; replace HB := kB1 HB AD hb; (try clear hb)))
 go_ret
 exact ⟨rfl, zBG HB.out AD.out⟩
 }
 )
 )
 }
 {
 replace c4 := Bool.eq_false_iff.mpr c4
 subst c4
 rw [if_neg (show ¬ (false = true) by decide)] at H
 obtain rfl := Option.some.inj H
 go_enter Tryz.func8, Tryz.ntmps8
 go_wp2_with (first | ((with_reducible refine gate_dst (N := 1) rfl ?_); refine box_event ?hg (N := 1) ?hd (cs := #[.int .i16 AE, .slice AL AB.length AI]) (t := 27) ?hr ?_; (case hd => rfl); (case hg => rfl); (case hr => first | (go_simp; done) | (go_simp; rfl)); intro AM hg BA hbox hb; have AA := ak (hbox); have Ar := gS HB hg; have AD := gS HB hg; replace HB := kB HB hb; clear hb hbox hg; obtain ⟨As, Au, Av, Ax⟩ := cz2 BA AA) | ((with_reducible refine gate_callee (f := 13) rfl ?_); refine goesL_ (some 7) rfl rfl Tryz.func13 (by kernel_rfl) rfl #[.agg #[.int .i16 AE, .slice AL AB.length AI]] rfl gl_ ?_; (with_reducible refine (impl_ValidRope.calls k AE _ _ AB false _ ?side1 ?side2 A3.out).mono ?_); (case side1 => exact sQ (Kd.C_below AN.out HB.out)); (case side2 => exact AW.out); rintro e BL ⟨rfl, hb⟩; refine ⟨_, rfl, ?_⟩; replace AA := kK AA hb; replace HB := kB1 HB AD hb; (try clear hb)))
 go_ret
 exact ⟨rfl, zBG HB.out AD.out⟩
 }
/-! ### strings_Split: function 35 -/
def strings_Split.f (a0 a1 : ByteArray) (AA : Int) : Option (List ByteArray) := if a0.size ≤ 4294967280 ∧ 1 ≤ a1.size then some (Go.Lib.splitB a1 0 (Go.Lib.countB a0 a1) a0) else none
theorem strings_Split.calls (a0 a1 : ByteArray) (AA : Int) (r : List ByteArray) (w : World) (AB : w.heap[0]? = some (.cells #[.int .i64 AA] 3 (0, 0))) (h : strings_Split.f a0 a1 AA = some r) :
    Calls Tryz.prog 35 #[.string a0, .string a1] w fun e w' => ∃ v0_ : Value, e = .returned (v0_) ∧ Kd.R Kd.string 9 w' w.heap.size (fun _ => True) v0_ r ∧ Below w.heap.size w w' := by
 unfold strings_Split.f at h
 by_cases c : a0.size ≤ 4294967280 ∧ 1 ≤ a1.size
 {
 rw [if_pos c] at h
 obtain rfl := Option.some.inj h
 have hm : w.cell? ⟨0, 0, none⟩ = some (.int .i64 AA) := by simp [World.cell?, AB]
 refine (Tryz.strings_Split a0 a1 AA w (by omega) hm c.2).mono ?_
 rintro e w' ⟨rfl, rfl⟩
 have hlen := Go.Proofs.YtlggjfhoecaelaaGreatDoor.H.split_length a0 a1 c.2
 have AC := Go.Proofs.YtlggjfhoecaelaaGreatDoor.H.split_small a0 a1 c.2
 have ho := own_lit_of (enc := Value.string) w w.heap.size 9 (Go.Lib.splitB a1 0 (Go.Lib.countB a0 a1) a0) (Nat.le_refl _) (by rw [hlen]; omega)
 refine ⟨_, rfl, ?_, Below.alloc (Below.refl _ _) (Nat.le_refl _) _⟩
 rw [← hlen]
 exact Kd.R_of_own (ok := fun _ => True) ho (fun _ _ => trivial)
 }
 · rw [if_neg c] at h; exact absurd h (by simp)
/-! ### impl_number: function 36 -/
def impl_number.f (a0 : ByteArray) (a1 : Int) : Option (Int × Bool) := if a0.size ≤ 281474976710656 then some (Go.Proofs.YtlggjfhoecaelaaGreatDoor.H.numV a0 a1) else none
theorem impl_number.calls (a0 : ByteArray) (a1 : Int) (r1 : Int) (r2 : Bool) (w : World) (hgt : Go.Proofs.YtlggjfhoecaelaaGreatDoor.H.Tab10 w) (h : impl_number.f a0 a1 = some (r1, r2)) :
    Calls Tryz.prog 36 #[.string a0, .int .i64 a1] w fun e w' => e = .returned (.tuple #[.int .i64 r1, .bool r2]) ∧ Below w.heap.size w w' := by
 unfold impl_number.f at h
 by_cases c : a0.size ≤ 281474976710656
 · rw [if_pos c] at h; have hn := Go.Proofs.YtlggjfhoecaelaaGreatDoor.H.number_calls a0 a1 w hgt c; rw [Option.some.inj h] at hn; exact hn
 · rw [if_neg c] at h; exact absurd h (by simp)
/-! ### impl_ReadRope: function 7 -/
def impl_ReadRope.l0 : Nat → List ByteArray → Int → Int → Int → List Int → Option (Int × List Int × Int)
  | 0, _, _, _, _, _ => none
  | k + 1, AE, AG, AD, AB, AA => if AD < AG then (if 0 ≤ AD then (if AD < (AE.length : Int) then ((impl_number.f (rdOf ByteArray.empty AE AD) 400).bind fun AC => (if AC.2 = true then (if AA.length < 70368744177664 then (impl_ReadRope.l0 k AE AG (wrap64 (AD + 1)) (IntKind.i16.wrap (AC.1)) (AA ++ [IntKind.i16.wrap (AC.1)])) else (none)) else (some (0, ([] : List Int), 5)))) else (none)) else (none)) else ((impl_ValidRope.f k AB AA).bind fun AF => (if AF = true then (some (AB, AA, 0)) else (some (0, ([] : List Int), 5))))
def impl_ReadRope.f (k : Nat) (a0 : ByteArray) (AA : Int)  : Option (Int × List Int × Int) := (strings_Split.f a0 (⟨#[45]⟩ : ByteArray) AA).bind fun AB => (impl_ReadRope.l0 k AB (AB.length : Int) 0 0 ([] : List Int))
set_option maxHeartbeats 8000000 in
set_option maxRecDepth 100000 in
theorem impl_ReadRope.calls (k : Nat) (a0 : ByteArray) (AU : Int)  (r1 : Int) (r2 : List Int) (r3 : Int) (w : World) (Ae : w.heap[0]? = some (.cells #[.int .i64 AU] 3 (0, 0))) (hgt : Go.Proofs.YtlggjfhoecaelaaGreatDoor.H.Tab10 w) (h : impl_ReadRope.f k a0 AU = some (r1, r2, r3)) :
    Calls Tryz.prog 7 #[.string a0] w fun e w' => ∃ v1_ : Value, e = .returned (.tuple #[.agg #[.int .i16 r1, v1_], .int .i64 r3]) ∧ Kd.R (Kd.int .i16) 24 w' w.heap.size (fun _ => True) v1_ r2 ∧ Below w.heap.size w w' := by
 have CN := Tryz.underlying27
 have AF := ak Ae
 clear Ae
 have B1 := ak hgt
 clear hgt
 have HB := ak (Below.refl w.heap.size w)
 have H := h
 unfold impl_ReadRope.f at H
 clear h
 replace H := Option.bind_eq_some_iff.mp H
 obtain ⟨AP, Bw, H⟩ := H
 have A4 := ak Bw
 clear Bw
 have H' := ak H
 clear H
 go_enter Tryz.func7, Tryz.ntmps7
 go_wp2_with (first | ((with_reducible refine gate_dst (N := 2) rfl ?_); refine box_event ?hg (N := 2) ?hd (cs := #[.int .i16 0, .slice none 0 0]) (t := 27) ?hr ?_; (case hd => rfl); (case hg => rfl); (case hr => first | (go_simp; done) | (go_simp; rfl)); intro AV hg w5 hbox hb; have AE := ak (hbox); have Bt := gS HB hg; have AJ := gS HB hg; have AT := nL AF hg; have AS := nG AF hg; replace AF := kK AF hb; replace HB := kB HB hb; clear hb hbox hg) | ((with_reducible refine gate_dst (N := 4) rfl ?_); refine box_event ?hg (N := 4) ?hd (cs := #[.int .i16 0, .slice none 0 0]) (t := 27) ?hr ?_; (case hd => rfl); (case hg => rfl); (case hr => first | (go_simp; done) | (go_simp; rfl)); intro AQ hg w6 hbox hb; have AC := ak (hbox); have Bi := gS1 HB AJ hg; have AL := gS1 HB AJ hg; have AG := nL AF hg; have AR := nG AF hg; have AH := nL AE hg; have AO := nG AE hg; replace AF := kK AF hb; replace AE := kK AE hb; replace HB := kB1 HB AJ hb; clear hb hbox hg; have CR := AR.out; have CJ := AG.out; have CI := AO.out; have CM := AH.out; obtain ⟨An, Al, Am, Ai⟩ := cz2 w6 AC) | ((with_reducible refine gate_callee (f := 35) rfl ?_); refine goesL_ (some 11) rfl rfl Tryz.func35 (by kernel_rfl) rfl #[.string a0, .string (⟨#[45]⟩ : ByteArray)] rfl gl_ ?_; (with_reducible refine (strings_Split.calls a0 (⟨#[45]⟩ : ByteArray) AU AP _ ?side1 A4.out).mono ?_); (case side1 => exact (by first | exact AF.out | (refine blk_far ?_ AG.out _; refine blk_far ?_ AG.out _; exact AF.out))); rintro e CU ⟨CP, rfl, CA, hb⟩; refine ⟨_, rfl, ?_⟩; have Af := ak (Kd.R_lower CA (below_size (zH2 HB AJ AL))); replace AF := ak (blk_below (g := 0) (o := .cells #[.int .i64 AU] 3 (0, 0)) (by refine blk_far ?_ AG.out _; refine blk_far ?_ AG.out _; exact AF.out) hb); replace AE := ak (blk_below (g := AV) (o := .cells #[.int .i16 0, .slice none 0 0] 27 (0, 0)) (by refine blk_far ?_ AH.out _; refine blk_far ?_ AH.out _; exact AE.out) hb); replace AC := ak (blk_below (g := AQ) (o := .cells #[.int .i16 0, .slice none 0 0] 27 (0, 0)) (by refine blk_put (cs := #[.int .i16 0, .slice none 0 0]) ?_ 1 _ rfl; refine blk_put (cs := #[.int .i16 0, .slice none 0 0]) ?_ 0 _ rfl; exact AC.out) hb); replace HB := kB2 HB AJ AL hb; (try clear hb); (try clear CA); obtain ⟨Bg, Bf, Bd⟩ := Kd.R_slice Af.out; subst Bd))
 go_loopg [13] k (fun kq CT w' => ∃ (AI : Int) (AK : Int) (AB : Int) (AD : List Int) (AM : Value), CT = .int .i64 AI ∧ Aside0 (impl_ReadRope.l0 kq AP (AP.length : Int) AI AB AD = some (r1, r2, r3)) ∧ Aside0 (kq ≤ k) ∧ Aside0 (Kd.R Kd.string 9 w' w.heap.size (fun _ => True) (.slice Bg AP.length Bf) AP) ∧ Aside0 (Kd.R (Kd.int .i16) 24 w' w.heap.size (fun _ => True) AM AD) ∧ Aside0 (w'.heap[0]? = some (.cells #[.int .i64 AU] 3 (0, 0))) ∧ Aside0 (w'.heap[AV]? = some (.cells #[.int .i16 AK, (.slice none 0 0)] 27 (0, 0))) ∧ Aside0 (w'.heap[AQ]? = some (.cells #[.int .i16 AB, AM] 27 (0, 0))) ∧ Aside0 (Below w.heap.size w w'))
 case atStart => exact ⟨(0), (0), (0), (([] : List Int)), (.slice none 0 0), rfl, H', ⟨Nat.le_refl _⟩, ⟨(zR Af.out)⟩, ⟨by first | exact Kd.R_nil _ _ _ _ _ | exact Kd.N_nil _ _ _ _ _ | exact Kd.V_nil _ _ _ _ _ | exact Kd.Q_nil _ _ _ _ _ | exact Kd.S_nil _ _ _ _ _⟩, ⟨(zK AF.out)⟩, ⟨(zK AE.out)⟩, ⟨(zK AC.out)⟩, ⟨zH2 HB AJ AL⟩⟩
 case round => (
 clear H'
 obtain ⟨AI, AK, AB, AD, AM, rfl, HA, Bv, AN, AA, AF, AE, AC, HB⟩ := hrel
 cases gk with
 | zero => exact absurd HA.out (by simp [impl_ReadRope.l0])
 | succ k1 => (
 have H := HA.out
 clear HA
 simp only [impl_ReadRope.l0] at H
 by_cases Ao : AI < (AP.length : Int)
 {
 rw [if_pos Ao] at H
 have Aq : decide (AI < (AP.length : Int)) = true := decide_eq_true Ao
 clear Ao
 by_cases BU : 0 ≤ AI
 {
 rw [if_pos BU] at H
 have Bz : decide (0 ≤ AI) = true := decide_eq_true BU
 clear BU
 by_cases A3 : AI < (AP.length : Int)
 {
 rw [if_pos A3] at H
 have B0 : decide (AI < (AP.length : Int)) = true := decide_eq_true A3
 clear A3
 replace H := Option.bind_eq_some_iff.mp H
 obtain ⟨⟨AW, Bh⟩, As, H⟩ := H
 have Bj := ak As
 clear As
 by_cases BB : Bh = true
 {
 subst BB
 rw [if_pos rfl] at H
 by_cases Ax : AD.length < 70368744177664
 {
 rw [if_pos Ax] at H
 have Ar := ak Ax
 clear Ax
 obtain ⟨Aa, AX⟩ : ∃ y_ : List Int, y_ = (AD ++ [IntKind.i16.wrap (AW)]) := ⟨_, rfl⟩
 replace H : (impl_ReadRope.l0 k1 AP (AP.length : Int) (wrap64 (AI + 1)) (IntKind.i16.wrap (AW)) Aa) = some (r1, r2, r3) := by first | (rw [AX]; with_reducible exact H) | (have BY := (Option.bind_some _ _).symm.trans H; rw [AX]; with_reducible exact BY) | (have BY := (Option.bind_some _ _).symm.trans H; with_reducible exact BY) | with_reducible exact H | (rw [AX]; exact H) | exact H
 have At := ak AX
 clear AX
 have H' := ak H
 clear H
 have AY : 0 ≤ (AI : Int) := of_decide_eq_true (by assumption)
 have AZ : AI < (AP.length : Int) := of_decide_eq_true (by assumption)
 obtain ⟨Ap, Ah, Ac⟩ := Kd.at_string (Kd.R_reads' AN.out).2.2 AI AY AZ
 cases Ah
 replace AY := eq_true AY
 replace AZ := eq_true AZ
 go_wp2_with (first | ((with_reducible refine gate_callee (f := 36) rfl ?_); refine goesL_ (some 19) rfl rfl Tryz.func36 (by kernel_rfl) rfl #[.string (rdOf ByteArray.empty AP AI), .int .i64 400] rfl gl_ ?_; (with_reducible refine (impl_number.calls (rdOf ByteArray.empty AP AI) 400  AW true _ ?side1 Bj.out).mono ?_); (case side1 => exact Go.Proofs.YtlggjfhoecaelaaGreatDoor.H.tab10_below B1.out (zH2 HB AJ AL)); rintro e CK ⟨rfl, hb⟩; refine ⟨_, rfl, ?_⟩; replace AN := kR AN hb; replace AA := kR AA hb; replace AF := kK AF hb; replace AE := kK AE hb; replace AC := kK AC hb; replace HB := kB2 HB AJ AL hb; (try clear hb); have CD := AR.out; have Bk := AG.out; have Bp := AO.out; have Bm := AH.out; obtain ⟨BL, BF, BA, A8⟩ := cz2 CK AC) | ((with_reducible refine gate_builtin (b := .append) (xs := #[.tmp 26, .tmp 29]) rfl ?_); at_builtin; refine Kd.R_append (Kd.int .i16) (w0 := w) w.heap.size rfl (.tmp 26) (.tmp 29) 25 24 (.int .i16 0) 2 rfl Tryz.underlying25 info24 rfl (by decide) (by omega) AM AD (IntKind.i16.wrap (AW)) [.int .i16 (IntKind.i16.wrap (AW))] (fun _ => True) (fun _ => False) rfl rfl ?aP (fun _ hk => hk.elim) ?aF ?aO ?aB ?aS ?aL ?_; (case aP => exact rfl); (case aB => exact (zH2 HB AJ AL)); (case aF => exact (fun _ _ => trivial)); (case aO => exact (zR AA.out)); (case aS => exact (below_size (zH2 HB AJ AL))); (case aL => have := Ar.out; omega); intro CO CS ho hb hg hat; rw [← At.out] at ho; have Ag := ak (ho); replace AN := ak (Kd.R_over' (zR AN.out) (Kd.R_typed (zR AA.out)) (by decide) hg); replace AF := ak (blk_grown (g := 0) (o := .cells #[.int .i64 AU] 3 (0, 0)) (zK AF.out) hg (Kd.R_ne AA.out AF.out (by decide))); replace AE := ak (blk_grown (g := AV) (o := .cells #[.int .i16 AK, .slice none 0 0] 27 (0, 0)) (zK AE.out) hg (Kd.R_ne AA.out AE.out (by decide))); replace AC := ak (blk_grown (g := AQ) (o := .cells #[.int .i16 AB, AM] 27 (0, 0)) (zK AC.out) hg (Kd.R_ne AA.out AC.out (by decide))); replace HB := ak (hb); clear AA ho hb hg hat; obtain ⟨Ad, Ab, Ba⟩ := Kd.R_slice Ag.out; subst Ba; obtain ⟨A6, BT, BE, BW⟩ := cz2 CS AC))
 go_roundg k1
 case measure => have := Bv.out; omega
 case rel => exact ⟨(wrap64 (AI + 1)), (AK), (IntKind.i16.wrap (AW)), (Aa), (.slice Ad Aa.length Ab), rfl, H', ⟨by have := Bv.out; omega⟩, ⟨Kd.R_mono (Kd.R_far (p := ⟨AQ, 0, none⟩) (Kd.R_far (p := ⟨AQ, 1, none⟩) (Kd.R_types AN.out AC.out (by decide)) (fun _ hk => hk.2) (.slice Ad Aa.length Ab)) (fun _ hk => hk.2) (.int .i16 (IntKind.i16.wrap (AW)))) (fun _ hk => trivial)⟩, ⟨Kd.R_mono (Kd.R_far (p := ⟨AQ, 0, none⟩) (Kd.R_far (p := ⟨AQ, 1, none⟩) (Kd.R_types Ag.out AC.out (by decide)) (fun _ hk => hk.2) (.slice Ad Aa.length Ab)) (fun _ hk => hk.2) (.int .i16 (IntKind.i16.wrap (AW)))) (fun _ hk => trivial)⟩, ⟨by refine blk_far ?_ AG.out _; refine blk_far ?_ AG.out _; exact AF.out⟩, ⟨by refine blk_far ?_ AH.out _; refine blk_far ?_ AH.out _; exact AE.out⟩, ⟨by refine blk_put (cs := #[.int .i16 AB, .slice Ad Aa.length Ab]) ?_ 0 _ rfl; refine blk_put (cs := #[.int .i16 AB, AM]) ?_ 1 _ rfl; exact AC.out⟩, ⟨zH2 HB AJ AL⟩⟩
 }
 · rw [if_neg Ax] at H; exact absurd H (by simp)
 }
 {
 replace BB := Bool.eq_false_iff.mpr BB
 subst BB
 rw [if_neg (show ¬ (false = true) by decide)] at H
 simp only [Option.some.injEq, Prod.mk.injEq] at H
 obtain ⟨rfl, rfl, rfl⟩ := H
 have AY : 0 ≤ (AI : Int) := of_decide_eq_true (by assumption)
 have AZ : AI < (AP.length : Int) := of_decide_eq_true (by assumption)
 obtain ⟨Ap, Ah, Ac⟩ := Kd.at_string (Kd.R_reads' AN.out).2.2 AI AY AZ
 cases Ah
 replace AY := eq_true AY
 replace AZ := eq_true AZ
 go_wp2_with (first | ((with_reducible refine gate_callee (f := 36) rfl ?_); refine goesL_ (some 19) rfl rfl Tryz.func36 (by kernel_rfl) rfl #[.string (rdOf ByteArray.empty AP AI), .int .i64 400] rfl gl_ ?_; (with_reducible refine (impl_number.calls (rdOf ByteArray.empty AP AI) 400  AW false _ ?side1 Bj.out).mono ?_); (case side1 => exact Go.Proofs.YtlggjfhoecaelaaGreatDoor.H.tab10_below B1.out (zH2 HB AJ AL)); rintro e CQ ⟨rfl, hb⟩; refine ⟨_, rfl, ?_⟩; replace AN := kR AN hb; replace AA := kR AA hb; replace AF := kK AF hb; replace AE := kK AE hb; replace AC := kK AC hb; replace HB := kB2 HB AJ AL hb; (try clear hb); have Bq := AS.out; have Br := AT.out; have Bx := AH.out; have CC := AO.out; obtain ⟨BM, BP, Az, BD⟩ := cz2 CQ AE))
 refine bodyPost_ret (results_ct rfl _ _ AV 27 #[.int .i16 0, .slice none 0 0] (0, 0) _ rfl (by refine blk_put (cs := #[.int .i16 0, .slice none 0 0]) ?_ 1 _ rfl; refine blk_put (cs := #[.int .i16 AK, .slice none 0 0]) ?_ 0 _ rfl; exact AE.out) Tryz.underlying27 rfl (by kernel_rfl)) rfl ?_
 exact ⟨_, rfl, by first | exact Kd.R_nil _ _ _ _ _ | exact Kd.N_nil _ _ _ _ _ | exact Kd.V_nil _ _ _ _ _ | exact Kd.Q_nil _ _ _ _ _ | exact Kd.S_nil _ _ _ _ _, zH2 HB AJ AL⟩
 }
 }
 · rw [if_neg A3] at H; exact absurd H (by simp)
 }
 · rw [if_neg BU] at H; exact absurd H (by simp)
 }
 {
 rw [if_neg Ao] at H
 have Aq : decide (AI < (AP.length : Int)) = false := decide_eq_false Ao
 clear Ao
 replace H := Option.bind_eq_some_iff.mp H
 obtain ⟨BZ, Au, H⟩ := H
 have CB := ak Au
 clear Au
 by_cases BJ : BZ = true
 {
 subst BJ
 rw [if_pos rfl] at H
 simp only [Option.some.injEq, Prod.mk.injEq] at H
 obtain ⟨rfl, rfl, rfl⟩ := H
 have CG := AR.out
 have CE := AG.out
 have B8 := AO.out
 have Bn := AH.out
 have BS : wr.cell? ⟨AQ, 0, none⟩ = some (.int .i16 AB) := (blk_cell AC.out 0).trans rfl
 have Ay : wr.cell? ⟨AQ, 1, none⟩ = some (AM) := (blk_cell AC.out 1).trans rfl
 have A0 := blk_frozen AC.out 0
 have BK := blk_frozen AC.out 1
 obtain ⟨Aj, Ak, Bc⟩ := Kd.R_slice AA.out
 subst Bc
 go_wp2_with (first | ((with_reducible refine gate_callee (f := 13) rfl ?_); refine goesL_ (some 37) rfl rfl Tryz.func13 (by kernel_rfl) rfl #[.agg #[.int .i16 AB, .slice Aj AD.length Ak]] rfl gl_ ?_; (with_reducible refine (impl_ValidRope.calls k1 AB _ _ AD true _ ?side1 ?side2 CB.out).mono ?_); (case side1 => exact sC AA); (case side2 => exact sL AA); rintro e CF ⟨rfl, hb⟩; refine ⟨_, rfl, ?_⟩; replace AN := kR AN hb; replace AA := kR AA hb; replace AF := kK AF hb; replace AE := kK AE hb; replace AC := kK AC hb; replace HB := kB2 HB AJ AL hb; (try clear hb); obtain ⟨BV, BC, BG, BH⟩ := cz2 CF AC; have Bl := AS.out; have Bu := AT.out; obtain ⟨A7, Av, BQ, A5⟩ := cz2 CF AE))
 refine bodyPost_ret (results_ct rfl _ _ AV 27 #[.int .i16 AB, .slice Aj AD.length Ak] (0, 0) _ rfl (by refine blk_put (cs := #[.int .i16 AB, .slice none 0 0]) ?_ 1 _ rfl; refine blk_put (cs := #[.int .i16 AK, .slice none 0 0]) ?_ 0 _ rfl; exact AE.out) Tryz.underlying27 rfl (by kernel_rfl)) rfl ?_
 exact ⟨_, rfl, Kd.R_mono (Kd.R_far (p := ⟨AV, 1, none⟩) (Kd.R_far (p := ⟨AV, 0, none⟩) (Kd.R_types AA.out AE.out (by decide)) (fun _ hk => hk.2) (.int .i16 AB)) (fun _ hk => hk.2) (.slice Aj AD.length Ak)) (fun _ hk => trivial), zH2 HB AJ AL⟩
 }
 {
 replace BJ := Bool.eq_false_iff.mpr BJ
 subst BJ
 rw [if_neg (show ¬ (false = true) by decide)] at H
 simp only [Option.some.injEq, Prod.mk.injEq] at H
 obtain ⟨rfl, rfl, rfl⟩ := H
 have Bo := AR.out
 have Bs := AG.out
 have B6 := AO.out
 have By := AH.out
 have Aw : wr.cell? ⟨AQ, 0, none⟩ = some (.int .i16 AB) := (blk_cell AC.out 0).trans rfl
 have BO : wr.cell? ⟨AQ, 1, none⟩ = some (AM) := (blk_cell AC.out 1).trans rfl
 have BR := blk_frozen AC.out 0
 have A2 := blk_frozen AC.out 1
 obtain ⟨BX, Be, Bb⟩ := Kd.R_slice AA.out
 subst Bb
 go_wp2_with (first | ((with_reducible refine gate_callee (f := 13) rfl ?_); refine goesL_ (some 37) rfl rfl Tryz.func13 (by kernel_rfl) rfl #[.agg #[.int .i16 AB, .slice BX AD.length Be]] rfl gl_ ?_; (with_reducible refine (impl_ValidRope.calls k1 AB _ _ AD false _ ?side1 ?side2 CB.out).mono ?_); (case side1 => exact sC AA); (case side2 => exact sL AA); rintro e CL ⟨rfl, hb⟩; refine ⟨_, rfl, ?_⟩; replace AN := kR AN hb; replace AA := kR AA hb; replace AF := kK AF hb; replace AE := kK AE hb; replace AC := kK AC hb; replace HB := kB2 HB AJ AL hb; (try clear hb); have CH := AS.out; have B3 := AT.out; obtain ⟨BI, BN, A9, A1⟩ := cz2 CL AE))
 refine bodyPost_ret (results_ct rfl _ _ AV 27 #[.int .i16 0, .slice none 0 0] (0, 0) _ rfl (by refine blk_put (cs := #[.int .i16 0, .slice none 0 0]) ?_ 1 _ rfl; refine blk_put (cs := #[.int .i16 AK, .slice none 0 0]) ?_ 0 _ rfl; exact AE.out) Tryz.underlying27 rfl (by kernel_rfl)) rfl ?_
 exact ⟨_, rfl, by first | exact Kd.R_nil _ _ _ _ _ | exact Kd.N_nil _ _ _ _ _ | exact Kd.V_nil _ _ _ _ _ | exact Kd.Q_nil _ _ _ _ _ | exact Kd.S_nil _ _ _ _ _, zH2 HB AJ AL⟩
 }
 }
 )
 )
end Go.Proofs.YtlggjfhoecaelaaGreatDoor.P
