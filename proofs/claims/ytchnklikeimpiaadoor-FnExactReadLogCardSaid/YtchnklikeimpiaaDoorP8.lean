-- Printed by wip/print (my turned copy of the kit's print) out of the translation; Lean checks it.
import Derived.Test.YtchnklikeimpiaaDoorP0
import Derived.Test.YtchnklikeimpiaaDoorP1
import Derived.Test.YtchnklikeimpiaaDoorP2
namespace Go.Proofs.YtchnklikeimpiaaDoor.P
open Go.RowKit Go.Proofs.YtchnklikeimpiaaDoorW.PrintWords Go.Proofs.YtchnklikeimpiaaDoorW.PrintLast Go.Proofs.YtchnklikeimpiaaDoorW.PrintMore
attribute [local go_sem] max2_int min2_int max_two min_two max_three min_three max_four min_four   -- for this text's walks alone
set_option linter.unusedVariables false
set_option linter.unusedSimpArgs false

/-! ### spec_l05Person: function 49 -/
def spec_l05Person.f (a0 : Int) : Option (Bool) := (spec_l00In.f a0 0 13).bind fun t253 => (some t253)
set_option maxHeartbeats 8000000 in
set_option maxRecDepth 100000 in
theorem spec_l05Person.calls (a0 : Int) (r : Bool) (w : World) (h : spec_l05Person.f a0 = some r) :
    Calls Tryd.prog 49 #[.int .i64 a0] w fun e w' => e = .returned (.bool r) ∧ Drawn0 w w' := by
 have H : ((spec_l00In.f a0 0 13).bind fun t253 => (some t253)) = some r := h
 clear h
 replace H := Option.bind_eq_some_iff.mp H
 obtain ⟨t253, A20, H⟩ := H
 replace H : (some t253) = some r := H
 have A2 := ak A20
 clear A20
 obtain rfl := Option.some.inj H
 go_enter Tryd.func49, Tryd.ntmps49
 go_wp2_with (first | ((with_reducible refine gate_callee (f := 44) rfl ?_); refine goesL_ (some 4) rfl rfl Tryd.func44 (by kernel_rfl) rfl #[.int .i64 a0, .int .i64 0, .int .i64 13] rfl (by (try simp only [List.map_toArray, List.map_cons, List.map_nil]); first | done | rfl | (simp only [List.length_drop, List.length_take]; rfl)) ?_; (with_reducible refine (spec_l00In.calls a0 0 13 t253 _ A2.out).mono ?_); rintro e w' ⟨rfl, ⟨nd, rfl⟩⟩; refine ⟨_, rfl, ?_⟩))
 go_ret
 exact ⟨by first | rfl | (simp; done) | (simp [*]; done), by repeat (first | exact Drawn0.refl _ | apply Drawn0.step)⟩
/-! ### spec_l05Read: function 33 -/
mutual
def spec_l05Read.j0 : Nat → List ByteArray → Int → Bool → Option (Int × Int × Bool)
  | 0, _, _, _ => none
  | k + 1, x5, x6, x31 => if x31 = true then (some (0, 0, false)) else (if 1 < (x5.length : Int) then (if (rdOf ByteArray.empty x5 1).toList = ([] : List UInt8) then (some (x6, 0, true)) else ((spec_l01Split.f k (rdOf ByteArray.empty x5 1) 44).bind fun t262 => (spec_l05Read.l0 k x6 0 (-1) t262 0))) else (none))
def spec_l05Read.l0 : Nat → Int → Int → Int → List ByteArray → Int → Option (Int × Int × Bool)
  | 0, _, _, _, _, _ => none
  | k + 1, x6, x8, x9, x10, x11 => if x11 < (x10.length : Int) then (if 0 ≤ x11 then ((spec_l01Number.f k (rdOf ByteArray.empty x10 x11)).bind fun bt266 => (if bt266.2 = true then (if bt266.1 ≤ x9 then (some (0, 0, false)) else ((spec_l05Person.f bt266.1).bind fun t268 => (if t268 = true then (if 0 ≤ (IntKind.u64.wrap (bt266.1)) then (spec_l05Read.l0 k x6 (Go.bits .or .u16 x8 (shl .u16 1 (IntKind.u64.wrap (bt266.1)))) bt266.1 x10 (wrap64 (x11 + 1))) else (none)) else (some (0, 0, false))))) else (some (0, 0, false)))) else (none)) else (some (x6, x8, true))
end
def spec_l05Read.f (k : Nat) (a0 : ByteArray) : Option (Int × Int × Bool) := (spec_l01Split.f k a0 47).bind fun t254 => (if (t254.length : Int) = 2 then (if 0 < (t254.length : Int) then ((spec_l01Number.f k (rdOf ByteArray.empty t254 0)).bind fun bt258 => (if bt258.2 = true then (spec_l05Read.j0 k t254 bt258.1 (decide (bt258.1 > 100))) else (spec_l05Read.j0 k t254 bt258.1 true))) else (none)) else (some (0, 0, false)))
theorem spec_l05Read.mono_l : ∀ k, (∀ y0 y1 y2, LeO (spec_l05Read.j0 k y0 y1 y2) (spec_l05Read.j0 (k + 1) y0 y1 y2)) ∧ (∀ y0 y1 y2 y3 y4, LeO (spec_l05Read.l0 k y0 y1 y2 y3 y4) (spec_l05Read.l0 (k + 1) y0 y1 y2 y3 y4))
  | 0 => ⟨fun _ _ _ r h => by simp [spec_l05Read.j0] at h, fun _ _ _ _ _ r h => by simp [spec_l05Read.l0] at h⟩
  | k + 1 => by
    obtain ⟨ih0, ih1⟩ := spec_l05Read.mono_l k
    refine ⟨?_, ?_⟩
    · intro y0 y1 y2
      unfold spec_l05Read.j0
      repeat' first
      | (with_reducible exact ih0 _ _ _)
      | (with_reducible exact ih1 _ _ _ _ _)
      | (with_reducible exact spec_l01Number.mono _ _)
      | (with_reducible exact spec_l01Split.mono _ _ _)
      | (with_reducible exact LeO.refl _)
      | (with_reducible exact LeO.none _)
      | (with_reducible refine LeO.ite ?_ ?_)
      | (with_reducible refine LeO.bind ?_ (fun _ => ?_))
      | exact ih0 _ _ _
      | exact ih1 _ _ _ _ _
      | exact spec_l01Number.mono _ _
      | exact spec_l01Split.mono _ _ _
      | exact LeO.none _
      | refine LeO.ite ?_ ?_
      | refine LeO.bind ?_ (fun _ => ?_)
    · intro y0 y1 y2 y3 y4
      unfold spec_l05Read.l0
      repeat' first
      | (with_reducible exact ih0 _ _ _)
      | (with_reducible exact ih1 _ _ _ _ _)
      | (with_reducible exact spec_l01Number.mono _ _)
      | (with_reducible exact spec_l01Split.mono _ _ _)
      | (with_reducible exact LeO.refl _)
      | (with_reducible exact LeO.none _)
      | (with_reducible refine LeO.ite ?_ ?_)
      | (with_reducible refine LeO.bind ?_ (fun _ => ?_))
      | exact ih0 _ _ _
      | exact ih1 _ _ _ _ _
      | exact spec_l01Number.mono _ _
      | exact spec_l01Split.mono _ _ _
      | exact LeO.none _
      | refine LeO.ite ?_ ?_
      | refine LeO.bind ?_ (fun _ => ?_)
theorem spec_l05Read.mono : ∀ a0 k, LeO (spec_l05Read.f k a0) (spec_l05Read.f (k + 1) a0) := by
  intro a0 k
  obtain ⟨ih0, ih1⟩ := spec_l05Read.mono_l k
  unfold spec_l05Read.f
  repeat' first
      | (with_reducible exact ih0 _ _ _)
      | (with_reducible exact ih1 _ _ _ _ _)
      | (with_reducible exact spec_l01Number.mono _ _)
      | (with_reducible exact spec_l01Split.mono _ _ _)
      | (with_reducible exact LeO.refl _)
      | (with_reducible exact LeO.none _)
      | (with_reducible refine LeO.ite ?_ ?_)
      | (with_reducible refine LeO.bind ?_ (fun _ => ?_))
      | exact ih0 _ _ _
      | exact ih1 _ _ _ _ _
      | exact spec_l01Number.mono _ _
      | exact spec_l01Split.mono _ _ _
      | exact LeO.none _
      | refine LeO.ite ?_ ?_
      | refine LeO.bind ?_ (fun _ => ?_)
set_option maxHeartbeats 8000000 in
set_option maxRecDepth 100000 in
theorem spec_l05Read.calls (k : Nat) (a0 : ByteArray) (r1 : Int) (r2 : Int) (r3 : Bool) (w : World) (h : spec_l05Read.f k a0 = some (r1, r2, r3)) :
    Calls Tryd.prog 33 #[.string a0] w fun e w' => e = .returned (.tuple #[.int .i64 r1, .int .u16 r2, .bool r3]) ∧ Below w.heap.size w w' := by
 have HB := ak (Below.refl w.heap.size w)
 have H : ((spec_l01Split.f k a0 47).bind fun t254 => (if (t254.length : Int) = 2 then (if 0 < (t254.length : Int) then ((spec_l01Number.f k (rdOf ByteArray.empty t254 0)).bind fun bt258 => (if bt258.2 = true then (spec_l05Read.j0 k t254 bt258.1 (decide (bt258.1 > 100))) else (spec_l05Read.j0 k t254 bt258.1 true))) else (none)) else (some (0, 0, false)))) = some (r1, r2, r3) := h
 clear h
 replace H := Option.bind_eq_some_iff.mp H
 obtain ⟨t254, A20, H⟩ := H
 replace H : (if (t254.length : Int) = 2 then (if 0 < (t254.length : Int) then ((spec_l01Number.f k (rdOf ByteArray.empty t254 0)).bind fun bt258 => (if bt258.2 = true then (spec_l05Read.j0 k t254 bt258.1 (decide (bt258.1 > 100))) else (spec_l05Read.j0 k t254 bt258.1 true))) else (none)) else (some (0, 0, false))) = some (r1, r2, r3) := H
 have A2 := ak A20
 clear A20
 by_cases c3 : (t254.length : Int) = 2
 {
 rw [if_pos c3] at H
 have c3b0 : ((t254.length : Int) == 2) = true := beq_iff_eq.mpr c3
 have c3b1 : ((t254.length : Int) != 2) = false := bne_eq_false_iff_eq.mpr c3
 clear c3
 by_cases c4 : 0 < (t254.length : Int)
 {
 rw [if_pos c4] at H
 have c4b0 : decide (0 < (t254.length : Int)) = true := decide_eq_true c4
 have c4b1 : decide (0 < t254.length) = true := decide_eq_true (by omega)
 clear c4
 replace H := Option.bind_eq_some_iff.mp H
 obtain ⟨⟨t258, t259⟩, A50, H⟩ := H
 replace H : (if t259 = true then (spec_l05Read.j0 k t254 t258 (decide (t258 > 100))) else (spec_l05Read.j0 k t254 t258 true)) = some (r1, r2, r3) := H
 have A5 := ak A50
 clear A50
 have HC6 := ak H
 clear H
 go_enter Tryd.func33, Tryd.ntmps33
 go_upto_region 5 with (first | ((with_reducible refine gate_callee (f := 19) rfl ?_); refine goesL_ (some 15) rfl rfl Tryd.func19 (by kernel_rfl) rfl #[.string a0, .int .u8 47] rfl (by (try simp only [List.map_toArray, List.map_cons, List.map_nil]); first | done | rfl | (simp only [List.length_drop, List.length_take]; rfl)) ?_; (with_reducible refine (spec_l01Split.calls k a0 47 t254 _ A2.out).mono ?_); rintro e w7 ⟨v255, rfl, ho0, hb⟩; refine ⟨_, rfl, ?_⟩; have n0_ := ak (Kd.R_lower ho0 (below_size (zB HB.out))); have n1_ := ak (below_step (zB HB.out) hb); clear HB; have HO256 := n0_; have HB := n1_; clear n0_ n1_; (try clear hb); (try clear hb2); (try clear hk); (try clear hi); (try clear ho0); obtain ⟨Ao8, co8, eo8⟩ := Kd.R_slice HO256.out; subst eo8; have p257 : 0 ≤ (0 : Int) := (by omega); have q257 : 0 < (t254.length : Int) := of_decide_eq_true (by first | (with_reducible assumption) | assumption); obtain ⟨ad257, e257, hx257_0⟩ := Kd.at_string (Kd.R_reads' HO256.out).2.2 0 p257 q257; cases e257; have qi257 : (0 < t254.length) = True := eq_true (by omega); (try rw [show ((0 : Int)).toNat = 0 from rfl] at hx257_0); (try rw [Addr.add_zero'] at hx257_0); replace p257 := eq_true p257; replace q257 := eq_true q257) | ((with_reducible refine gate_callee (f := 26) rfl ?_); refine goesL_ (some 23) rfl rfl Tryd.func26 (by kernel_rfl) rfl #[.string (rdOf ByteArray.empty t254 0)] rfl (by (try simp only [List.map_toArray, List.map_cons, List.map_nil]); first | done | rfl | (simp only [List.length_drop, List.length_take]; rfl)) ?_; (with_reducible refine (spec_l01Number.calls k (rdOf ByteArray.empty t254 0) t258 t259 _ A5.out).mono ?_); rintro e w' ⟨rfl, ⟨nd, rfl⟩⟩; refine ⟨_, rfl, ?_⟩))
 (try simp only [Act.put, zs, zz, zk])
 go_cut [31] (fun v31 wc => ∃ (kq : Nat) (x31_5 : Bool), v31 = .bool x31_5 ∧ Aside0 (spec_l05Read.j0 kq t254 t258 x31_5 = some (r1, r2, r3)) ∧ Aside0 (kq ≤ k) ∧ Aside0 (Kd.R Kd.string 9 wc w.heap.size (fun _ => True) (.slice (some ad257) t254.length co8) t254) ∧ Aside0 (Below w.heap.size w wc))
 case first => (
 have H := HC6.out
 clear HC6
 by_cases c9 : t259 = true
 {
 subst c9
 have H1 : (spec_l05Read.j0 k t254 t258 (decide (t258 > 100))) = some (r1, r2, r3) := by rw [if_pos rfl] at H; exact H
 clear H
 have H := H1
 clear H1
 have H' := ak H
 clear H
 go_wp2
 go_meet
 case rel => exact ⟨_, (decide (t258 > 100)), (by first | rfl | (simp; done) | (simp [*]; done)), H', ⟨by first | omega | exact Nat.le_refl _⟩, ⟨by (with_reducible repeat (first | apply Kd.R_alloc | apply Kd.R_drewN | apply Kd.R_drew)); exact HO256.out⟩, ⟨by repeat (first | (with_reducible first | exact HB.out | apply below_alloc | apply pw_below_drewN | apply below_drew1) | exact HB.out)⟩⟩
 }
 {
 replace c9 := Bool.eq_false_iff.mpr c9
 subst c9
 have H1 : (spec_l05Read.j0 k t254 t258 true) = some (r1, r2, r3) := by rw [if_neg (show ¬ (false = true) by decide)] at H; exact H
 clear H
 have H := H1
 clear H1
 have H' := ak H
 clear H
 go_wp2
 go_meet
 case rel => exact ⟨_, (true), (by first | rfl | (simp; done) | (simp [*]; done)), H', ⟨by first | omega | exact Nat.le_refl _⟩, ⟨by (with_reducible repeat (first | apply Kd.R_alloc | apply Kd.R_drewN | apply Kd.R_drew)); exact HO256.out⟩, ⟨by repeat (first | (with_reducible first | exact HB.out | apply below_alloc | apply pw_below_drewN | apply below_drew1) | exact HB.out)⟩⟩
 }
 )
 case rest => (
 clear HC6
 try clear c1
 try clear c2
 try clear p2
 try clear q2
 try clear hx2
 try clear qi2
 try clear c3
 try clear c3b0
 try clear c3b1
 try clear c4
 try clear c4b0
 try clear c4b1
 try clear c9
 try clear hx257_0
 try clear p257
 try clear q257
 obtain ⟨kq, x31_5, rfl, HA, HJ5, HO_5, HB⟩ := hcut
 cases kq with
 | zero => exact absurd HA.out (by simp [spec_l05Read.j0])
 | succ kj5 => (
 have H := HA.out
 clear HA
 simp only [spec_l05Read.j0] at H
 by_cases c10 : x31_5 = true
 {
 subst c10
 have H1 : (some (0, 0, false)) = some (r1, r2, r3) := by rw [if_pos rfl] at H; exact H
 clear H
 have H := H1
 clear H1
 simp only [Option.some.injEq, Prod.mk.injEq] at H
 obtain ⟨rfl, rfl, rfl⟩ := H
 go_wp2
 go_ret3
 exact ⟨by first | rfl | (simp [errW_none, errW_some] <;> rfl) | (simp [*, errW_none, errW_some] <;> rfl), by repeat (first | (with_reducible first | exact HB.out | apply below_alloc | apply pw_below_drewN | apply below_drew1) | exact HB.out)⟩
 }
 {
 replace c10 := Bool.eq_false_iff.mpr c10
 subst c10
 have H1 : (if 1 < (t254.length : Int) then (if (rdOf ByteArray.empty t254 1).toList = ([] : List UInt8) then (some (t258, 0, true)) else ((spec_l01Split.f kj5 (rdOf ByteArray.empty t254 1) 44).bind fun t262 => (spec_l05Read.l0 kj5 t258 0 (-1) t262 0))) else (none)) = some (r1, r2, r3) := by rw [if_neg (show ¬ (false = true) by decide)] at H; exact H
 clear H
 have H := H1
 clear H1
 by_cases c11 : 1 < (t254.length : Int)
 {
 rw [if_pos c11] at H
 have c11b0 : decide (1 < (t254.length : Int)) = true := decide_eq_true c11
 have c11b1 : decide (1 < t254.length) = true := decide_eq_true (by omega)
 clear c11
 by_cases c12 : (rdOf ByteArray.empty t254 1).toList = ([] : List UInt8)
 {
 rw [if_pos c12] at H
 have c12b0 : ((rdOf ByteArray.empty t254 1).toList == ([] : List UInt8)) = true := beq_iff_eq.mpr c12
 have c12b1 : ((rdOf ByteArray.empty t254 1).toList != ([] : List UInt8)) = false := bne_eq_false_iff_eq.mpr c12
 clear c12
 simp only [Option.some.injEq, Prod.mk.injEq] at H
 obtain ⟨rfl, rfl, rfl⟩ := H
 have p260 : 0 ≤ (1 : Int) := (by omega)
 have q260 : 1 < (t254.length : Int) := of_decide_eq_true (by first | (with_reducible assumption) | assumption)
 obtain ⟨ad260, e260, hx260_0⟩ := Kd.at_string (Kd.R_reads' HO_5.out).2.2 1 p260 q260
 obtain rfl : ad257 = ad260 := (by injection e260)
 (try simp only [show (1 : Int).toNat = 1 from rfl, Nat.reduceMul, Nat.reduceEqDiff, Go.Addr.add, ↓reduceIte] at hx260_0)
 have qi260 : (1 < t254.length) = True := eq_true (by omega)
 (try rw [show ((1 : Int)).toNat = 1 from rfl] at hx260_0)
 replace p260 := eq_true p260
 replace q260 := eq_true q260
 go_wp2
 go_ret3
 exact ⟨by first | rfl | (simp [errW_none, errW_some] <;> rfl) | (simp [*, errW_none, errW_some] <;> rfl), by repeat (first | (with_reducible first | exact HB.out | apply below_alloc | apply pw_below_drewN | apply below_drew1) | exact HB.out)⟩
 }
 {
 rw [if_neg c12] at H
 have c12b0 : ((rdOf ByteArray.empty t254 1).toList == ([] : List UInt8)) = false := beq_eq_false_iff_ne.mpr c12
 have c12b1 : ((rdOf ByteArray.empty t254 1).toList != ([] : List UInt8)) = true := bne_iff_ne.mpr c12
 replace H := Option.bind_eq_some_iff.mp H
 obtain ⟨t262, A130, H⟩ := H
 replace H : (spec_l05Read.l0 kj5 t258 0 (-1) t262 0) = some (r1, r2, r3) := H
 have A13 := ak A130
 clear A130
 have H' := ak H
 clear H
 have p260 : 0 ≤ (1 : Int) := (by omega)
 have q260 : 1 < (t254.length : Int) := of_decide_eq_true (by first | (with_reducible assumption) | assumption)
 obtain ⟨ad260, e260, hx260_0⟩ := Kd.at_string (Kd.R_reads' HO_5.out).2.2 1 p260 q260
 obtain rfl : ad257 = ad260 := (by injection e260)
 (try simp only [show (1 : Int).toNat = 1 from rfl, Nat.reduceMul, Nat.reduceEqDiff, Go.Addr.add, ↓reduceIte] at hx260_0)
 have qi260 : (1 < t254.length) = True := eq_true (by omega)
 (try rw [show ((1 : Int)).toNat = 1 from rfl] at hx260_0)
 replace p260 := eq_true p260
 replace q260 := eq_true q260
 have p261 : 0 ≤ (1 : Int) := (by omega)
 have q261 : 1 < (t254.length : Int) := of_decide_eq_true (by first | (with_reducible assumption) | assumption)
 obtain ⟨ad261, e261, hx261_0⟩ := Kd.at_string (Kd.R_reads' HO_5.out).2.2 1 p261 q261
 obtain rfl : ad257 = ad261 := (by injection e261)
 (try simp only [show (1 : Int).toNat = 1 from rfl, Nat.reduceMul, Nat.reduceEqDiff, Go.Addr.add, ↓reduceIte] at hx261_0)
 have qi261 : (1 < t254.length) = True := eq_true (by omega)
 (try rw [show ((1 : Int)).toNat = 1 from rfl] at hx261_0)
 replace p261 := eq_true p261
 replace q261 := eq_true q261
 go_wp2_with (first | ((with_reducible refine gate_callee (f := 19) rfl ?_); refine goesL_ (some 41) rfl rfl Tryd.func19 (by kernel_rfl) rfl #[.string (rdOf ByteArray.empty t254 1), .int .u8 44] rfl (by (try simp only [List.map_toArray, List.map_cons, List.map_nil]); first | done | rfl | (simp only [List.length_drop, List.length_take]; rfl)) ?_; (with_reducible refine (spec_l01Split.calls kj5 (rdOf ByteArray.empty t254 1) 44 t262 _ A13.out).mono ?_); rintro e w14 ⟨v263, rfl, ho0, hb⟩; refine ⟨_, rfl, ?_⟩; have n0_ := ak (Kd.R_elder' (zR HO_5.out) (Kd.R_base ho0) hb); have n1_ := ak (Kd.R_lower (Kd.R_new' ho0 (Kd.R_lt (zR HO_5.out))) (below_size (zB HB.out))); have n2_ := ak (below_step (zB HB.out) hb); clear HO_5 HB; have HO_5 := n0_; have HO264 := n1_; have HB := n2_; clear n0_ n1_ n2_; (try clear hb); (try clear hb2); (try clear hk); (try clear hi); (try clear ho0)))
 go_loopg [8, 9, 11] kj5 (fun kq v8 v9 v11 w' => ∃ (x8_2 : Int) (x9_2 : Int) (x11_2 : Int), v8 = .int .u16 x8_2 ∧ v9 = .int .i64 x9_2 ∧ v11 = .int .i64 x11_2 ∧ Aside0 (spec_l05Read.l0 kq t258 x8_2 x9_2 t262 x11_2 = some (r1, r2, r3)) ∧ Aside0 (kq ≤ kj5) ∧ Aside0 (Kd.R Kd.string 9 w' w.heap.size (fun _ => True) v263 t262) ∧ Aside0 (Below w.heap.size w w'))
 case atStart => exact ⟨(0), ((-1)), (0), (by first | rfl | (simp; done) | (simp [*]; done)), (by first | rfl | (simp; done) | (simp [*]; done)), (by first | rfl | (simp; done) | (simp [*]; done)), H', ⟨Nat.le_refl _⟩, ⟨by (with_reducible repeat (first | apply Kd.R_alloc | apply Kd.R_drewN | apply Kd.R_drew)); exact Kd.R_mono HO264.out (fun _ hk => trivial)⟩, ⟨by repeat (first | (with_reducible first | exact HB.out | apply below_alloc | apply pw_below_drewN | apply below_drew1) | exact HB.out)⟩⟩
 case round => (
 clear H'
 try clear c1
 try clear c2
 try clear p2
 try clear q2
 try clear hx2
 try clear qi2
 try clear c3
 try clear c3b0
 try clear c3b1
 try clear c4
 try clear c4b0
 try clear c4b1
 try clear c9
 try clear c10
 try clear c11
 try clear c11b0
 try clear c11b1
 try clear c12
 try clear c12b0
 try clear c12b1
 try clear hx257_0
 try clear hx260_0
 try clear hx261_0
 try clear p2
 try clear p257
 try clear p260
 try clear p261
 try clear q2
 try clear q257
 try clear q260
 try clear q261
 obtain ⟨x8_2, x9_2, x11_2, rfl, rfl, rfl, HA, HK2, HO_10, HB⟩ := hrel
 cases gk with
 | zero => exact absurd HA.out (by simp [spec_l05Read.l0])
 | succ k2 => (
 have H := HA.out
 clear HA
 simp only [spec_l05Read.l0] at H
 by_cases c15 : x11_2 < (t262.length : Int)
 {
 rw [if_pos c15] at H
 have c15b0 : decide (x11_2 < (t262.length : Int)) = true := decide_eq_true c15
 clear c15
 by_cases c16 : 0 ≤ x11_2
 {
 rw [if_pos c16] at H
 have c16b0 : decide (0 ≤ x11_2) = true := decide_eq_true c16
 clear c16
 replace H := Option.bind_eq_some_iff.mp H
 obtain ⟨⟨t266, t267⟩, A170, H⟩ := H
 replace H : (if t267 = true then (if t266 ≤ x9_2 then (some (0, 0, false)) else ((spec_l05Person.f t266).bind fun t268 => (if t268 = true then (if 0 ≤ (IntKind.u64.wrap (t266)) then (spec_l05Read.l0 k2 t258 (Go.bits .or .u16 x8_2 (shl .u16 1 (IntKind.u64.wrap (t266)))) t266 t262 (wrap64 (x11_2 + 1))) else (none)) else (some (0, 0, false))))) else (some (0, 0, false))) = some (r1, r2, r3) := H
 have A17 := ak A170
 clear A170
 by_cases c18 : t267 = true
 {
 subst c18
 have H1 : (if t266 ≤ x9_2 then (some (0, 0, false)) else ((spec_l05Person.f t266).bind fun t268 => (if t268 = true then (if 0 ≤ (IntKind.u64.wrap (t266)) then (spec_l05Read.l0 k2 t258 (Go.bits .or .u16 x8_2 (shl .u16 1 (IntKind.u64.wrap (t266)))) t266 t262 (wrap64 (x11_2 + 1))) else (none)) else (some (0, 0, false))))) = some (r1, r2, r3) := by rw [if_pos rfl] at H; exact H
 clear H
 have H := H1
 clear H1
 by_cases c19 : t266 ≤ x9_2
 {
 rw [if_pos c19] at H
 have c19b0 : decide (t266 ≤ x9_2) = true := decide_eq_true c19
 clear c19
 simp only [Option.some.injEq, Prod.mk.injEq] at H
 obtain ⟨rfl, rfl, rfl⟩ := H
 obtain ⟨Ao20, co20, eo20⟩ := Kd.R_slice HO_10.out
 subst eo20
 have p265 : 0 ≤ (x11_2 : Int) := of_decide_eq_true (by first | (with_reducible assumption) | assumption)
 have q265 : x11_2 < (t262.length : Int) := of_decide_eq_true (by first | (with_reducible assumption) | assumption)
 obtain ⟨ad265, e265, hx265_0⟩ := Kd.at_string (Kd.R_reads' HO_10.out).2.2 x11_2 p265 q265
 cases e265
 replace p265 := eq_true p265
 replace q265 := eq_true q265
 go_wp2_with (first | ((with_reducible refine gate_callee (f := 26) rfl ?_); refine goesL_ (some 53) rfl rfl Tryd.func26 (by kernel_rfl) rfl #[.string (rdOf ByteArray.empty t262 x11_2)] rfl (by (try simp only [List.map_toArray, List.map_cons, List.map_nil]); first | done | rfl | (simp only [List.length_drop, List.length_take]; rfl)) ?_; (with_reducible refine (spec_l01Number.calls k2 (rdOf ByteArray.empty t262 x11_2) t266 true _ A17.out).mono ?_); rintro e w' ⟨rfl, ⟨nd, rfl⟩⟩; refine ⟨_, rfl, ?_⟩))
 go_ret3
 exact ⟨by first | rfl | (simp [errW_none, errW_some] <;> rfl) | (simp [*, errW_none, errW_some] <;> rfl), by repeat (first | (with_reducible first | exact HB.out | apply below_alloc | apply pw_below_drewN | apply below_drew1) | exact HB.out)⟩
 }
 {
 rw [if_neg c19] at H
 have c19b0 : decide (t266 ≤ x9_2) = false := decide_eq_false c19
 clear c19
 replace H := Option.bind_eq_some_iff.mp H
 obtain ⟨t268, A210, H⟩ := H
 replace H : (if t268 = true then (if 0 ≤ (IntKind.u64.wrap (t266)) then (spec_l05Read.l0 k2 t258 (Go.bits .or .u16 x8_2 (shl .u16 1 (IntKind.u64.wrap (t266)))) t266 t262 (wrap64 (x11_2 + 1))) else (none)) else (some (0, 0, false))) = some (r1, r2, r3) := H
 have A21 := ak A210
 clear A210
 by_cases c22 : t268 = true
 {
 subst c22
 have H1 : (if 0 ≤ (IntKind.u64.wrap (t266)) then (spec_l05Read.l0 k2 t258 (Go.bits .or .u16 x8_2 (shl .u16 1 (IntKind.u64.wrap (t266)))) t266 t262 (wrap64 (x11_2 + 1))) else (none)) = some (r1, r2, r3) := by rw [if_pos rfl] at H; exact H
 clear H
 have H := H1
 clear H1
 obtain ⟨ji23, hji23⟩ : ∃ j_ : Int, (IntKind.u64.wrap (t266)) = j_ := ⟨_, rfl⟩
 replace H : (if 0 ≤ (ji23) then (spec_l05Read.l0 k2 t258 (Go.bits .or .u16 x8_2 (shl .u16 1 (ji23))) t266 t262 (wrap64 (x11_2 + 1))) else (none)) = some (r1, r2, r3) := by first | (rw [hji23] at H; exact H) | (simp only [hji23] at H ⊢; exact H)
 (try rw [hji23] at A17)
 (try rw [hji23] at A21)
 by_cases c24 : 0 ≤ (ji23)
 {
 rw [if_pos c24] at H
 have c24b0 := eq_true c24
 have c24b1 : decide (0 ≤ (ji23)) = true := decide_eq_true c24
 clear c24
 obtain ⟨ji25, hji25⟩ : ∃ j_ : Int, (shl .u16 1 (ji23)) = j_ := ⟨_, rfl⟩
 replace H : (spec_l05Read.l0 k2 t258 (Go.bits .or .u16 x8_2 (ji25)) t266 t262 (wrap64 (x11_2 + 1))) = some (r1, r2, r3) := by first | (rw [hji25] at H; exact H) | (simp only [hji25] at H ⊢; exact H)
 (try rw [hji25] at A17)
 (try rw [hji25] at A21)
 have hji25_ : (IntKind.u16.wrap (1 * 2 ^ min (ji23).toNat 16)) = ji25 := hji25
 have hji25z : (ji23) ≤ 16 → (IntKind.u16.wrap (1 * 2 ^ (ji23).toNat)) = ji25 := shl_small hji25
 have hji25u : (IntKind.u16.wrap (2 ^ min (ji23).toNat 16)) = ji25 := by have h_ := hji25_; rw [Int.one_mul] at h_; exact h_
 have hji25v : (ji23) ≤ 16 → (IntKind.u16.wrap (2 ^ (ji23).toNat)) = ji25 := fun hle_ => by have h_ := hji25z hle_; rw [Int.one_mul] at h_; exact h_
 have H' := ak H
 clear H
 obtain ⟨Ao26, co26, eo26⟩ := Kd.R_slice HO_10.out
 subst eo26
 have p265 : 0 ≤ (x11_2 : Int) := of_decide_eq_true (by first | (with_reducible assumption) | assumption)
 have q265 : x11_2 < (t262.length : Int) := of_decide_eq_true (by first | (with_reducible assumption) | assumption)
 obtain ⟨ad265, e265, hx265_0⟩ := Kd.at_string (Kd.R_reads' HO_10.out).2.2 x11_2 p265 q265
 cases e265
 replace p265 := eq_true p265
 replace q265 := eq_true q265
 go_wp2_with (first | ((with_reducible refine gate_callee (f := 26) rfl ?_); refine goesL_ (some 53) rfl rfl Tryd.func26 (by kernel_rfl) rfl #[.string (rdOf ByteArray.empty t262 x11_2)] rfl (by (try simp only [List.map_toArray, List.map_cons, List.map_nil]); first | done | rfl | (simp only [List.length_drop, List.length_take]; rfl)) ?_; (with_reducible refine (spec_l01Number.calls k2 (rdOf ByteArray.empty t262 x11_2) t266 true _ A17.out).mono ?_); rintro e w' ⟨rfl, ⟨nd, rfl⟩⟩; refine ⟨_, rfl, ?_⟩) | (go_at_call 49; (with_reducible refine (spec_l05Person.calls t266 true _ A21.out).mono ?_); rintro e w' ⟨rfl, ⟨nd, rfl⟩⟩))
 go_roundg k2
 case measure => have := HJ5.out; have := HK2.out; omega
 case rel => exact ⟨(Go.bits .or .u16 x8_2 (ji25)), (t266), (wrap64 (x11_2 + 1)), (by first | rfl | (simp; done) | (simp only [← hji25] <;> (first | rfl | simp)) | (simp [*]; done)), (by first | rfl | (simp; done) | (simp [*]; done)), (by first | rfl | (simp; done) | (simp [*]; done)), H', ⟨by have := HJ5.out; have := HK2.out; omega⟩, ⟨by (with_reducible repeat (first | apply Kd.R_alloc | apply Kd.R_drewN | apply Kd.R_drew)); exact HO_10.out⟩, ⟨by repeat (first | (with_reducible first | exact HB.out | apply below_alloc | apply pw_below_drewN | apply below_drew1) | exact HB.out)⟩⟩
 }
 · rw [if_neg c24] at H; exact absurd H (by simp)
 }
 {
 replace c22 := Bool.eq_false_iff.mpr c22
 subst c22
 have H1 : (some (0, 0, false)) = some (r1, r2, r3) := by rw [if_neg (show ¬ (false = true) by decide)] at H; exact H
 clear H
 have H := H1
 clear H1
 simp only [Option.some.injEq, Prod.mk.injEq] at H
 obtain ⟨rfl, rfl, rfl⟩ := H
 obtain ⟨Ao27, co27, eo27⟩ := Kd.R_slice HO_10.out
 subst eo27
 have p265 : 0 ≤ (x11_2 : Int) := of_decide_eq_true (by first | (with_reducible assumption) | assumption)
 have q265 : x11_2 < (t262.length : Int) := of_decide_eq_true (by first | (with_reducible assumption) | assumption)
 obtain ⟨ad265, e265, hx265_0⟩ := Kd.at_string (Kd.R_reads' HO_10.out).2.2 x11_2 p265 q265
 cases e265
 replace p265 := eq_true p265
 replace q265 := eq_true q265
 go_wp2_with (first | ((with_reducible refine gate_callee (f := 26) rfl ?_); refine goesL_ (some 53) rfl rfl Tryd.func26 (by kernel_rfl) rfl #[.string (rdOf ByteArray.empty t262 x11_2)] rfl (by (try simp only [List.map_toArray, List.map_cons, List.map_nil]); first | done | rfl | (simp only [List.length_drop, List.length_take]; rfl)) ?_; (with_reducible refine (spec_l01Number.calls k2 (rdOf ByteArray.empty t262 x11_2) t266 true _ A17.out).mono ?_); rintro e w' ⟨rfl, ⟨nd, rfl⟩⟩; refine ⟨_, rfl, ?_⟩) | (go_at_call 49; (with_reducible refine (spec_l05Person.calls t266 false _ A21.out).mono ?_); rintro e w' ⟨rfl, ⟨nd, rfl⟩⟩))
 go_ret3
 exact ⟨by first | rfl | (simp [errW_none, errW_some] <;> rfl) | (simp [*, errW_none, errW_some] <;> rfl), by repeat (first | (with_reducible first | exact HB.out | apply below_alloc | apply pw_below_drewN | apply below_drew1) | exact HB.out)⟩
 }
 }
 }
 {
 replace c18 := Bool.eq_false_iff.mpr c18
 subst c18
 have H1 : (some (0, 0, false)) = some (r1, r2, r3) := by rw [if_neg (show ¬ (false = true) by decide)] at H; exact H
 clear H
 have H := H1
 clear H1
 simp only [Option.some.injEq, Prod.mk.injEq] at H
 obtain ⟨rfl, rfl, rfl⟩ := H
 obtain ⟨Ao28, co28, eo28⟩ := Kd.R_slice HO_10.out
 subst eo28
 have p265 : 0 ≤ (x11_2 : Int) := of_decide_eq_true (by first | (with_reducible assumption) | assumption)
 have q265 : x11_2 < (t262.length : Int) := of_decide_eq_true (by first | (with_reducible assumption) | assumption)
 obtain ⟨ad265, e265, hx265_0⟩ := Kd.at_string (Kd.R_reads' HO_10.out).2.2 x11_2 p265 q265
 cases e265
 replace p265 := eq_true p265
 replace q265 := eq_true q265
 go_wp2_with (first | ((with_reducible refine gate_callee (f := 26) rfl ?_); refine goesL_ (some 53) rfl rfl Tryd.func26 (by kernel_rfl) rfl #[.string (rdOf ByteArray.empty t262 x11_2)] rfl (by (try simp only [List.map_toArray, List.map_cons, List.map_nil]); first | done | rfl | (simp only [List.length_drop, List.length_take]; rfl)) ?_; (with_reducible refine (spec_l01Number.calls k2 (rdOf ByteArray.empty t262 x11_2) t266 false _ A17.out).mono ?_); rintro e w' ⟨rfl, ⟨nd, rfl⟩⟩; refine ⟨_, rfl, ?_⟩))
 go_ret3
 exact ⟨by first | rfl | (simp [errW_none, errW_some] <;> rfl) | (simp [*, errW_none, errW_some] <;> rfl), by repeat (first | (with_reducible first | exact HB.out | apply below_alloc | apply pw_below_drewN | apply below_drew1) | exact HB.out)⟩
 }
 }
 · rw [if_neg c16] at H; exact absurd H (by simp)
 }
 {
 rw [if_neg c15] at H
 have c15b0 : decide (x11_2 < (t262.length : Int)) = false := decide_eq_false c15
 clear c15
 simp only [Option.some.injEq, Prod.mk.injEq] at H
 obtain ⟨rfl, rfl, rfl⟩ := H
 obtain ⟨Ao29, co29, eo29⟩ := Kd.R_slice HO_10.out
 subst eo29
 go_wp2
 go_ret3
 exact ⟨by first | rfl | (simp [errW_none, errW_some] <;> rfl) | (simp [*, errW_none, errW_some] <;> rfl), by repeat (first | (with_reducible first | exact HB.out | apply below_alloc | apply pw_below_drewN | apply below_drew1) | exact HB.out)⟩
 }
 )
 )
 }
 }
 · rw [if_neg c11] at H; exact absurd H (by simp)
 }
 )
 )
 }
 · rw [if_neg c4] at H; exact absurd H (by simp)
 }
 {
 rw [if_neg c3] at H
 have c3b0 : ((t254.length : Int) == 2) = false := beq_eq_false_iff_ne.mpr c3
 have c3b1 : ((t254.length : Int) != 2) = true := bne_iff_ne.mpr c3
 simp only [Option.some.injEq, Prod.mk.injEq] at H
 obtain ⟨rfl, rfl, rfl⟩ := H
 go_enter Tryd.func33, Tryd.ntmps33
 go_wp2_with (first | ((with_reducible refine gate_callee (f := 19) rfl ?_); refine goesL_ (some 15) rfl rfl Tryd.func19 (by kernel_rfl) rfl #[.string a0, .int .u8 47] rfl (by (try simp only [List.map_toArray, List.map_cons, List.map_nil]); first | done | rfl | (simp only [List.length_drop, List.length_take]; rfl)) ?_; (with_reducible refine (spec_l01Split.calls k a0 47 t254 _ A2.out).mono ?_); rintro e w30 ⟨v255, rfl, ho0, hb⟩; refine ⟨_, rfl, ?_⟩; have n0_ := ak (Kd.R_lower ho0 (below_size (zB HB.out))); have n1_ := ak (below_step (zB HB.out) hb); clear HB; have HO256 := n0_; have HB := n1_; clear n0_ n1_; (try clear hb); (try clear hb2); (try clear hk); (try clear hi); (try clear ho0); obtain ⟨Ao31, co31, eo31⟩ := Kd.R_slice HO256.out; subst eo31))
 go_ret3
 exact ⟨by first | rfl | (simp [errW_none, errW_some] <;> rfl) | (simp [*, errW_none, errW_some] <;> rfl), by repeat (first | (with_reducible first | exact HB.out | apply below_alloc | apply pw_below_drewN | apply below_drew1) | exact HB.out)⟩
 }
/-! ### spec_l05All: function 50 -/
def spec_l05All.f (a0 : Int) : Option (Int) := if 0 ≤ (IntKind.u64.wrap (a0)) then (some (IntKind.u16.wrap ((shl .u16 1 (IntKind.u64.wrap (a0))) - 1))) else (none)
set_option maxHeartbeats 8000000 in
set_option maxRecDepth 100000 in
theorem spec_l05All.calls (a0 : Int) (r : Int) (w : World) (h : spec_l05All.f a0 = some r) :
    Calls Tryd.prog 50 #[.int .i64 a0] w fun e w' => e = .returned (.int .u16 r) ∧ Drawn0 w w' := by
 have H : (if 0 ≤ (IntKind.u64.wrap (a0)) then (some (IntKind.u16.wrap ((shl .u16 1 (IntKind.u64.wrap (a0))) - 1))) else (none)) = some r := h
 clear h
 obtain ⟨ji2, hji2⟩ : ∃ j_ : Int, (IntKind.u64.wrap (a0)) = j_ := ⟨_, rfl⟩
 replace H : (if 0 ≤ (ji2) then (some (IntKind.u16.wrap ((shl .u16 1 (ji2)) - 1))) else (none)) = some r := by first | (rw [hji2] at H; exact H) | (simp only [hji2] at H ⊢; exact H)
 by_cases c3 : 0 ≤ (ji2)
 {
 rw [if_pos c3] at H
 have c3b0 := eq_true c3
 have c3b1 : decide (0 ≤ (ji2)) = true := decide_eq_true c3
 clear c3
 obtain ⟨ji4, hji4⟩ : ∃ j_ : Int, (shl .u16 1 (ji2)) = j_ := ⟨_, rfl⟩
 replace H : (some (IntKind.u16.wrap ((ji4) - 1))) = some r := by first | (rw [hji4] at H; exact H) | (simp only [hji4] at H ⊢; exact H)
 have hji4_ : (IntKind.u16.wrap (1 * 2 ^ min (ji2).toNat 16)) = ji4 := hji4
 have hji4z : (ji2) ≤ 16 → (IntKind.u16.wrap (1 * 2 ^ (ji2).toNat)) = ji4 := shl_small hji4
 have hji4u : (IntKind.u16.wrap (2 ^ min (ji2).toNat 16)) = ji4 := by have h_ := hji4_; rw [Int.one_mul] at h_; exact h_
 have hji4v : (ji2) ≤ 16 → (IntKind.u16.wrap (2 ^ (ji2).toNat)) = ji4 := fun hle_ => by have h_ := hji4z hle_; rw [Int.one_mul] at h_; exact h_
 obtain rfl := Option.some.inj H
 go_enter Tryd.func50, Tryd.ntmps50
 go_wp2
 go_ret
 exact ⟨by first | rfl | (simp; done) | (simp only [← hji2, ← hji4] <;> (first | rfl | simp)) | (simp [*]; done), by repeat (first | exact Drawn0.refl _ | apply Drawn0.step)⟩
 }
 · rw [if_neg c3] at H; exact absurd H (by simp)
/-! ### spec_l05Ok: function 34 -/
mutual
def spec_l05Ok.j0 : Nat → Bool → Int → List Int → List Int → Option (Bool)
  | 0, _, _, _, _ => none
  | k + 1, x32, x1000, x1001, x1002 => if x32 = true then (some false) else ((spec_l05All.f x1000).bind fun t271 => (spec_l05Ok.l0 k t271 0 x1000 x1001 x1002))
def spec_l05Ok.l0 : Nat → Int → Int → Int → List Int → List Int → Option (Bool)
  | 0, _, _, _, _, _ => none
  | k + 1, x3, x4, x1000, x1001, x1002 => if x4 < (x1001.length : Int) then (if 0 ≤ x4 then (if (Go.bits .andNot .u16 (rd x1001 x4) x3) = 0 then (if x4 < (x1002.length : Int) then ((spec_l00In.f (wrap64 (rd x1002 x4)) 0 100).bind fun t274 => (if t274 = true then (spec_l05Ok.l0 k (rd x1001 x4) (wrap64 (x4 + 1)) x1000 x1001 x1002) else (some false))) else (none)) else (some false)) else (none)) else (some true)
end
def spec_l05Ok.f (k : Nat) (a0_0 : Int) (l0_1 : List Int) (l0_2 : List Int) : Option (Bool) := (spec_l00In.f a0_0 1 14).bind fun t269 => (if t269 = true then ((spec_l00In.f (l0_1.length : Int) 1 12).bind fun t270 => (if t270 = true then (spec_l05Ok.j0 k ((l0_1.length : Int) != (l0_2.length : Int)) a0_0 l0_1 l0_2) else (spec_l05Ok.j0 k true a0_0 l0_1 l0_2))) else (spec_l05Ok.j0 k true a0_0 l0_1 l0_2))
theorem spec_l05Ok.mono_l : ∀ k, (∀ y0 y1 y2 y3, LeO (spec_l05Ok.j0 k y0 y1 y2 y3) (spec_l05Ok.j0 (k + 1) y0 y1 y2 y3)) ∧ (∀ y0 y1 y2 y3 y4, LeO (spec_l05Ok.l0 k y0 y1 y2 y3 y4) (spec_l05Ok.l0 (k + 1) y0 y1 y2 y3 y4))
  | 0 => ⟨fun _ _ _ _ r h => by simp [spec_l05Ok.j0] at h, fun _ _ _ _ _ r h => by simp [spec_l05Ok.l0] at h⟩
  | k + 1 => by
    obtain ⟨ih0, ih1⟩ := spec_l05Ok.mono_l k
    refine ⟨?_, ?_⟩
    · intro y0 y1 y2 y3
      unfold spec_l05Ok.j0
      repeat' first
      | (with_reducible exact ih0 _ _ _ _)
      | (with_reducible exact ih1 _ _ _ _ _)
      | (with_reducible exact LeO.refl _)
      | (with_reducible exact LeO.none _)
      | (with_reducible refine LeO.ite ?_ ?_)
      | (with_reducible refine LeO.bind ?_ (fun _ => ?_))
      | exact ih0 _ _ _ _
      | exact ih1 _ _ _ _ _
      | exact LeO.none _
      | refine LeO.ite ?_ ?_
      | refine LeO.bind ?_ (fun _ => ?_)
    · intro y0 y1 y2 y3 y4
      unfold spec_l05Ok.l0
      repeat' first
      | (with_reducible exact ih0 _ _ _ _)
      | (with_reducible exact ih1 _ _ _ _ _)
      | (with_reducible exact LeO.refl _)
      | (with_reducible exact LeO.none _)
      | (with_reducible refine LeO.ite ?_ ?_)
      | (with_reducible refine LeO.bind ?_ (fun _ => ?_))
      | exact ih0 _ _ _ _
      | exact ih1 _ _ _ _ _
      | exact LeO.none _
      | refine LeO.ite ?_ ?_
      | refine LeO.bind ?_ (fun _ => ?_)
theorem spec_l05Ok.mono : ∀ a0 a1 a2 k, LeO (spec_l05Ok.f k a0 a1 a2) (spec_l05Ok.f (k + 1) a0 a1 a2) := by
  intro a0 a1 a2 k
  obtain ⟨ih0, ih1⟩ := spec_l05Ok.mono_l k
  unfold spec_l05Ok.f
  repeat' first
      | (with_reducible exact ih0 _ _ _ _)
      | (with_reducible exact ih1 _ _ _ _ _)
      | (with_reducible exact LeO.refl _)
      | (with_reducible exact LeO.none _)
      | (with_reducible refine LeO.ite ?_ ?_)
      | (with_reducible refine LeO.bind ?_ (fun _ => ?_))
      | exact ih0 _ _ _ _
      | exact ih1 _ _ _ _ _
      | exact LeO.none _
      | refine LeO.ite ?_ ?_
      | refine LeO.bind ?_ (fun _ => ?_)
set_option maxHeartbeats 8000000 in
set_option maxRecDepth 100000 in
theorem spec_l05Ok.calls (k : Nat) (b0 : Nat) (a0_0 : Int) (A0_1 : Option Addr) (c0_1 : Nat) (l0_1 : List Int) (A0_2 : Option Addr) (c0_2 : Nat) (l0_2 : List Int) (r : Bool) (w : World) (hr0_1 : Kd.C (Kd.int .u16) w A0_1 l0_1.length l0_1) (hc0_1 : l0_1.length ≤ c0_1) (hr0_2 : Kd.C (Kd.int .i16) w A0_2 l0_2.length l0_2) (hc0_2 : l0_2.length ≤ c0_2) (hx0 : w.heap[b0]? = some (.cells #[.int .i64 a0_0, .slice A0_1 l0_1.length c0_1, .slice A0_2 l0_2.length c0_2] 39 (0, 0))) (h : spec_l05Ok.f k a0_0 l0_1 l0_2 = some r) :
    Calls Tryd.prog 34 #[.pointer (some ⟨b0, 0, none⟩)] w fun e w' => e = .returned (.bool r) ∧ Drawn0 w w' := by
 have HR0_1 := ak hr0_1
 have HC0_1 := ak hc0_1
 clear hr0_1 hc0_1
 have HR0_2 := ak hr0_2
 have HC0_2 := ak hc0_2
 clear hr0_2 hc0_2
 have BK0 := ak hx0
 clear hx0
 have H : ((spec_l00In.f a0_0 1 14).bind fun t269 => (if t269 = true then ((spec_l00In.f (l0_1.length : Int) 1 12).bind fun t270 => (if t270 = true then (spec_l05Ok.j0 k ((l0_1.length : Int) != (l0_2.length : Int)) a0_0 l0_1 l0_2) else (spec_l05Ok.j0 k true a0_0 l0_1 l0_2))) else (spec_l05Ok.j0 k true a0_0 l0_1 l0_2))) = some r := h
 clear h
 have HC2 := ak H
 clear H
 go_enter Tryd.func34, Tryd.ntmps34
 go_upto_region 1 with (fail)
 repeat (go_quiet (fail); go_upto_region 1 with (fail))
 go_cut [32] (fun v32 wc => ∃ (kq : Nat) (x32_1 : Bool), v32 = .bool x32_1 ∧ Aside0 (spec_l05Ok.j0 kq x32_1 a0_0 l0_1 l0_2 = some r) ∧ Aside0 (kq ≤ k) ∧ Aside0 (wc.heap[b0]? = some (.cells #[.int .i64 a0_0, (.slice A0_1 l0_1.length c0_1), (.slice A0_2 l0_2.length c0_2)] 39 (0, 0))) ∧ Drawn0 w wc)
 case first => (
 have H := HC2.out
 clear HC2
 replace H := Option.bind_eq_some_iff.mp H
 obtain ⟨t269, A30, H⟩ := H
 replace H : (if t269 = true then ((spec_l00In.f (l0_1.length : Int) 1 12).bind fun t270 => (if t270 = true then (spec_l05Ok.j0 k ((l0_1.length : Int) != (l0_2.length : Int)) a0_0 l0_1 l0_2) else (spec_l05Ok.j0 k true a0_0 l0_1 l0_2))) else (spec_l05Ok.j0 k true a0_0 l0_1 l0_2)) = some r := H
 have A3 := ak A30
 clear A30
 by_cases c4 : t269 = true
 {
 subst c4
 have H1 : ((spec_l00In.f (l0_1.length : Int) 1 12).bind fun t270 => (if t270 = true then (spec_l05Ok.j0 k ((l0_1.length : Int) != (l0_2.length : Int)) a0_0 l0_1 l0_2) else (spec_l05Ok.j0 k true a0_0 l0_1 l0_2))) = some r := by rw [if_pos rfl] at H; exact H
 clear H
 have H := H1
 clear H1
 replace H := Option.bind_eq_some_iff.mp H
 obtain ⟨t270, A50, H⟩ := H
 replace H : (if t270 = true then (spec_l05Ok.j0 k ((l0_1.length : Int) != (l0_2.length : Int)) a0_0 l0_1 l0_2) else (spec_l05Ok.j0 k true a0_0 l0_1 l0_2)) = some r := H
 have A5 := ak A50
 clear A50
 by_cases c6 : t270 = true
 {
 subst c6
 have H1 : (spec_l05Ok.j0 k ((l0_1.length : Int) != (l0_2.length : Int)) a0_0 l0_1 l0_2) = some r := by rw [if_pos rfl] at H; exact H
 clear H
 have H := H1
 clear H1
 have H' := ak H
 clear H
 have hcz7_0 : w.cell? ⟨b0, 0, none⟩ = some (.int .i64 a0_0) := (blk_cell BK0.out 0).trans rfl
 have hcz7_1 : w.cell? ⟨b0, 1, none⟩ = some (.slice A0_1 l0_1.length c0_1) := (blk_cell BK0.out 1).trans rfl
 have hcz7_2 : w.cell? ⟨b0, 2, none⟩ = some (.slice A0_2 l0_2.length c0_2) := (blk_cell BK0.out 2).trans rfl
 have hfz7_0 := blk_frozen BK0.out 0
 have hfz7_1 := blk_frozen BK0.out 1
 have hfz7_2 := blk_frozen BK0.out 2
 go_wp2_with (first | (go_at_call 44; (with_reducible refine (spec_l00In.calls a0_0 1 14 true _ A3.out).mono ?_); rintro e w' ⟨rfl, ⟨nd, rfl⟩⟩; (try first | exact ⟨rfl, _, World.drewN_drewN _ _ _⟩ | exact ⟨rfl, _, Eq.trans (World.drewN_drewN _ _ _) (congrArg (World.drewN _) (Nat.add_assoc _ _ _))⟩)) | (go_at_call 44; (with_reducible refine (spec_l00In.calls (l0_1.length : Int) 1 12 true _ A5.out).mono ?_); rintro e w' ⟨rfl, ⟨nd, rfl⟩⟩; (try first | exact ⟨rfl, _, World.drewN_drewN _ _ _⟩ | exact ⟨rfl, _, Eq.trans (World.drewN_drewN _ _ _) (congrArg (World.drewN _) (Nat.add_assoc _ _ _))⟩)))
 repeat (go_quiet (first | (go_at_call 44; (with_reducible refine (spec_l00In.calls a0_0 1 14 true _ A3.out).mono ?_); rintro e w' ⟨rfl, ⟨nd, rfl⟩⟩; (try first | exact ⟨rfl, _, World.drewN_drewN _ _ _⟩ | exact ⟨rfl, _, Eq.trans (World.drewN_drewN _ _ _) (congrArg (World.drewN _) (Nat.add_assoc _ _ _))⟩)) | (go_at_call 44; (with_reducible refine (spec_l00In.calls (l0_1.length : Int) 1 12 true _ A5.out).mono ?_); rintro e w' ⟨rfl, ⟨nd, rfl⟩⟩; (try first | exact ⟨rfl, _, World.drewN_drewN _ _ _⟩ | exact ⟨rfl, _, Eq.trans (World.drewN_drewN _ _ _) (congrArg (World.drewN _) (Nat.add_assoc _ _ _))⟩))); try go_wp2_with (first | (go_at_call 44; (with_reducible refine (spec_l00In.calls a0_0 1 14 true _ A3.out).mono ?_); rintro e w' ⟨rfl, ⟨nd, rfl⟩⟩; (try first | exact ⟨rfl, _, World.drewN_drewN _ _ _⟩ | exact ⟨rfl, _, Eq.trans (World.drewN_drewN _ _ _) (congrArg (World.drewN _) (Nat.add_assoc _ _ _))⟩)) | (go_at_call 44; (with_reducible refine (spec_l00In.calls (l0_1.length : Int) 1 12 true _ A5.out).mono ?_); rintro e w' ⟨rfl, ⟨nd, rfl⟩⟩; (try first | exact ⟨rfl, _, World.drewN_drewN _ _ _⟩ | exact ⟨rfl, _, Eq.trans (World.drewN_drewN _ _ _) (congrArg (World.drewN _) (Nat.add_assoc _ _ _))⟩))))
 go_meet
 case rel => exact ⟨_, (((l0_1.length : Int) != (l0_2.length : Int))), (by first | rfl | (simp; done) | (simp [*]; done)), H', ⟨by first | omega | exact Nat.le_refl _⟩, ⟨by (with_reducible repeat (first | refine blk_drewN ?_ _ | refine blk_drew ?_ | refine blk_alloc ?_ _)); exact BK0.out⟩, by repeat (first | exact Drawn0.refl _ | apply Drawn0.step)⟩
 }
 {
 replace c6 := Bool.eq_false_iff.mpr c6
 subst c6
 have H1 : (spec_l05Ok.j0 k true a0_0 l0_1 l0_2) = some r := by rw [if_neg (show ¬ (false = true) by decide)] at H; exact H
 clear H
 have H := H1
 clear H1
 have H' := ak H
 clear H
 have hcz8_0 : w.cell? ⟨b0, 0, none⟩ = some (.int .i64 a0_0) := (blk_cell BK0.out 0).trans rfl
 have hcz8_1 : w.cell? ⟨b0, 1, none⟩ = some (.slice A0_1 l0_1.length c0_1) := (blk_cell BK0.out 1).trans rfl
 have hcz8_2 : w.cell? ⟨b0, 2, none⟩ = some (.slice A0_2 l0_2.length c0_2) := (blk_cell BK0.out 2).trans rfl
 have hfz8_0 := blk_frozen BK0.out 0
 have hfz8_1 := blk_frozen BK0.out 1
 have hfz8_2 := blk_frozen BK0.out 2
 go_wp2_with (first | (go_at_call 44; (with_reducible refine (spec_l00In.calls a0_0 1 14 true _ A3.out).mono ?_); rintro e w' ⟨rfl, ⟨nd, rfl⟩⟩; (try first | exact ⟨rfl, _, World.drewN_drewN _ _ _⟩ | exact ⟨rfl, _, Eq.trans (World.drewN_drewN _ _ _) (congrArg (World.drewN _) (Nat.add_assoc _ _ _))⟩)) | (go_at_call 44; (with_reducible refine (spec_l00In.calls (l0_1.length : Int) 1 12 false _ A5.out).mono ?_); rintro e w' ⟨rfl, ⟨nd, rfl⟩⟩; (try first | exact ⟨rfl, _, World.drewN_drewN _ _ _⟩ | exact ⟨rfl, _, Eq.trans (World.drewN_drewN _ _ _) (congrArg (World.drewN _) (Nat.add_assoc _ _ _))⟩)))
 repeat (go_quiet (first | (go_at_call 44; (with_reducible refine (spec_l00In.calls a0_0 1 14 true _ A3.out).mono ?_); rintro e w' ⟨rfl, ⟨nd, rfl⟩⟩; (try first | exact ⟨rfl, _, World.drewN_drewN _ _ _⟩ | exact ⟨rfl, _, Eq.trans (World.drewN_drewN _ _ _) (congrArg (World.drewN _) (Nat.add_assoc _ _ _))⟩)) | (go_at_call 44; (with_reducible refine (spec_l00In.calls (l0_1.length : Int) 1 12 false _ A5.out).mono ?_); rintro e w' ⟨rfl, ⟨nd, rfl⟩⟩; (try first | exact ⟨rfl, _, World.drewN_drewN _ _ _⟩ | exact ⟨rfl, _, Eq.trans (World.drewN_drewN _ _ _) (congrArg (World.drewN _) (Nat.add_assoc _ _ _))⟩))); try go_wp2_with (first | (go_at_call 44; (with_reducible refine (spec_l00In.calls a0_0 1 14 true _ A3.out).mono ?_); rintro e w' ⟨rfl, ⟨nd, rfl⟩⟩; (try first | exact ⟨rfl, _, World.drewN_drewN _ _ _⟩ | exact ⟨rfl, _, Eq.trans (World.drewN_drewN _ _ _) (congrArg (World.drewN _) (Nat.add_assoc _ _ _))⟩)) | (go_at_call 44; (with_reducible refine (spec_l00In.calls (l0_1.length : Int) 1 12 false _ A5.out).mono ?_); rintro e w' ⟨rfl, ⟨nd, rfl⟩⟩; (try first | exact ⟨rfl, _, World.drewN_drewN _ _ _⟩ | exact ⟨rfl, _, Eq.trans (World.drewN_drewN _ _ _) (congrArg (World.drewN _) (Nat.add_assoc _ _ _))⟩))))
 go_meet
 case rel => exact ⟨_, (true), (by first | rfl | (simp; done) | (simp [*]; done)), H', ⟨by first | omega | exact Nat.le_refl _⟩, ⟨by (with_reducible repeat (first | refine blk_drewN ?_ _ | refine blk_drew ?_ | refine blk_alloc ?_ _)); exact BK0.out⟩, by repeat (first | exact Drawn0.refl _ | apply Drawn0.step)⟩
 }
 }
 {
 replace c4 := Bool.eq_false_iff.mpr c4
 subst c4
 have H1 : (spec_l05Ok.j0 k true a0_0 l0_1 l0_2) = some r := by rw [if_neg (show ¬ (false = true) by decide)] at H; exact H
 clear H
 have H := H1
 clear H1
 have H' := ak H
 clear H
 have hcz9_0 : w.cell? ⟨b0, 0, none⟩ = some (.int .i64 a0_0) := (blk_cell BK0.out 0).trans rfl
 have hcz9_1 : w.cell? ⟨b0, 1, none⟩ = some (.slice A0_1 l0_1.length c0_1) := (blk_cell BK0.out 1).trans rfl
 have hcz9_2 : w.cell? ⟨b0, 2, none⟩ = some (.slice A0_2 l0_2.length c0_2) := (blk_cell BK0.out 2).trans rfl
 have hfz9_0 := blk_frozen BK0.out 0
 have hfz9_1 := blk_frozen BK0.out 1
 have hfz9_2 := blk_frozen BK0.out 2
 go_wp2_with (first | (go_at_call 44; (with_reducible refine (spec_l00In.calls a0_0 1 14 false _ A3.out).mono ?_); rintro e w' ⟨rfl, ⟨nd, rfl⟩⟩; (try first | exact ⟨rfl, _, World.drewN_drewN _ _ _⟩ | exact ⟨rfl, _, Eq.trans (World.drewN_drewN _ _ _) (congrArg (World.drewN _) (Nat.add_assoc _ _ _))⟩)))
 repeat (go_quiet (first | (go_at_call 44; (with_reducible refine (spec_l00In.calls a0_0 1 14 false _ A3.out).mono ?_); rintro e w' ⟨rfl, ⟨nd, rfl⟩⟩; (try first | exact ⟨rfl, _, World.drewN_drewN _ _ _⟩ | exact ⟨rfl, _, Eq.trans (World.drewN_drewN _ _ _) (congrArg (World.drewN _) (Nat.add_assoc _ _ _))⟩))); try go_wp2_with (first | (go_at_call 44; (with_reducible refine (spec_l00In.calls a0_0 1 14 false _ A3.out).mono ?_); rintro e w' ⟨rfl, ⟨nd, rfl⟩⟩; (try first | exact ⟨rfl, _, World.drewN_drewN _ _ _⟩ | exact ⟨rfl, _, Eq.trans (World.drewN_drewN _ _ _) (congrArg (World.drewN _) (Nat.add_assoc _ _ _))⟩))))
 go_meet
 case rel => exact ⟨_, (true), (by first | rfl | (simp; done) | (simp [*]; done)), H', ⟨by first | omega | exact Nat.le_refl _⟩, ⟨by (with_reducible repeat (first | refine blk_drewN ?_ _ | refine blk_drew ?_ | refine blk_alloc ?_ _)); exact BK0.out⟩, by repeat (first | exact Drawn0.refl _ | apply Drawn0.step)⟩
 }
 )
 case rest => (
 clear HC2
 try clear p2
 try clear c3
 try clear c4
 try clear c6
 try clear hcz7_0
 try clear hcz7_1
 try clear hcz7_2
 try clear hcz8_0
 try clear hcz8_1
 try clear hcz8_2
 try clear hcz9_0
 try clear hcz9_1
 try clear hcz9_2
 try clear hfz7_0
 try clear hfz7_1
 try clear hfz7_2
 try clear hfz8_0
 try clear hfz8_1
 try clear hfz8_2
 try clear hfz9_0
 try clear hfz9_1
 try clear hfz9_2
 obtain ⟨kq, x32_1, rfl, HA, HJ1, BK0, ⟨mc1, rfl⟩⟩ := hcut
 cases kq with
 | zero => exact absurd HA.out (by simp [spec_l05Ok.j0])
 | succ kj1 => (
 have H := HA.out
 clear HA
 simp only [spec_l05Ok.j0] at H
 by_cases c10 : x32_1 = true
 {
 subst c10
 have H1 : (some false) = some r := by rw [if_pos rfl] at H; exact H
 clear H
 have H := H1
 clear H1
 obtain rfl := Option.some.inj H
 go_wp2
 repeat (go_quiet (fail); try go_wp2)
 go_ret
 exact ⟨by first | rfl | (simp; done) | (simp [*]; done), by repeat (first | exact Drawn0.refl _ | apply Drawn0.step)⟩
 }
 {
 replace c10 := Bool.eq_false_iff.mpr c10
 subst c10
 have H1 : ((spec_l05All.f a0_0).bind fun t271 => (spec_l05Ok.l0 kj1 t271 0 a0_0 l0_1 l0_2)) = some r := by rw [if_neg (show ¬ (false = true) by decide)] at H; exact H
 clear H
 have H := H1
 clear H1
 replace H := Option.bind_eq_some_iff.mp H
 obtain ⟨t271, A110, H⟩ := H
 replace H : (spec_l05Ok.l0 kj1 t271 0 a0_0 l0_1 l0_2) = some r := H
 have A11 := ak A110
 clear A110
 have H' := ak H
 clear H
 have hcz12_0 : w.cell? ⟨b0, 0, none⟩ = some (.int .i64 a0_0) := (blk_cell BK0.out 0).trans rfl
 have hcz12_1 : w.cell? ⟨b0, 1, none⟩ = some (.slice A0_1 l0_1.length c0_1) := (blk_cell BK0.out 1).trans rfl
 have hcz12_2 : w.cell? ⟨b0, 2, none⟩ = some (.slice A0_2 l0_2.length c0_2) := (blk_cell BK0.out 2).trans rfl
 have hfz12_0 := blk_frozen BK0.out 0
 have hfz12_1 := blk_frozen BK0.out 1
 have hfz12_2 := blk_frozen BK0.out 2
 go_wp2_with (first | (go_at_call 50; (with_reducible refine (spec_l05All.calls a0_0 t271 _ A11.out).mono ?_); rintro e w' ⟨rfl, ⟨nd, rfl⟩⟩; (try first | exact ⟨rfl, _, World.drewN_drewN _ _ _⟩ | exact ⟨rfl, _, Eq.trans (World.drewN_drewN _ _ _) (congrArg (World.drewN _) (Nat.add_assoc _ _ _))⟩)))
 repeat (go_quiet (first | (go_at_call 50; (with_reducible refine (spec_l05All.calls a0_0 t271 _ A11.out).mono ?_); rintro e w' ⟨rfl, ⟨nd, rfl⟩⟩; (try first | exact ⟨rfl, _, World.drewN_drewN _ _ _⟩ | exact ⟨rfl, _, Eq.trans (World.drewN_drewN _ _ _) (congrArg (World.drewN _) (Nat.add_assoc _ _ _))⟩))); try go_wp2_with (first | (go_at_call 50; (with_reducible refine (spec_l05All.calls a0_0 t271 _ A11.out).mono ?_); rintro e w' ⟨rfl, ⟨nd, rfl⟩⟩; (try first | exact ⟨rfl, _, World.drewN_drewN _ _ _⟩ | exact ⟨rfl, _, Eq.trans (World.drewN_drewN _ _ _) (congrArg (World.drewN _) (Nat.add_assoc _ _ _))⟩))))
 go_loopg [3, 4] kj1 (fun kq v3 v4 w' => ∃ (x3_2 : Int) (x4_2 : Int), v3 = .int .u16 x3_2 ∧ v4 = .int .i64 x4_2 ∧ Aside0 (spec_l05Ok.l0 kq x3_2 x4_2 a0_0 l0_1 l0_2 = some r) ∧ Aside0 (kq ≤ kj1) ∧ Aside0 (w'.heap[b0]? = some (.cells #[.int .i64 a0_0, (.slice A0_1 l0_1.length c0_1), (.slice A0_2 l0_2.length c0_2)] 39 (0, 0))) ∧ Drawn0 w w')
 case atStart => exact ⟨(t271), (0), (by first | rfl | (simp; done) | (simp [*]; done)), (by first | rfl | (simp; done) | (simp [*]; done)), H', ⟨Nat.le_refl _⟩, ⟨by (with_reducible repeat (first | refine blk_drewN ?_ _ | refine blk_drew ?_ | refine blk_alloc ?_ _)); exact BK0.out⟩, by repeat (first | exact Drawn0.refl _ | apply Drawn0.step)⟩
 case round => (
 clear H'
 try clear c1
 try clear p2
 try clear c3
 try clear c4
 try clear c6
 try clear c10
 try clear hcz12_0
 try clear hcz12_1
 try clear hcz12_2
 try clear hcz7_0
 try clear hcz7_1
 try clear hcz7_2
 try clear hcz8_0
 try clear hcz8_1
 try clear hcz8_2
 try clear hcz9_0
 try clear hcz9_1
 try clear hcz9_2
 try clear hfz12_0
 try clear hfz12_1
 try clear hfz12_2
 try clear hfz7_0
 try clear hfz7_1
 try clear hfz7_2
 try clear hfz8_0
 try clear hfz8_1
 try clear hfz8_2
 try clear hfz9_0
 try clear hfz9_1
 try clear hfz9_2
 try clear p2
 obtain ⟨x3_2, x4_2, rfl, rfl, HA, HK2, BK0, ⟨m2, rfl⟩⟩ := hrel
 cases gk with
 | zero => exact absurd HA.out (by simp [spec_l05Ok.l0])
 | succ k2 => (
 have H := HA.out
 clear HA
 simp only [spec_l05Ok.l0] at H
 by_cases c13 : x4_2 < (l0_1.length : Int)
 {
 rw [if_pos c13] at H
 have c13b0 : decide (x4_2 < (l0_1.length : Int)) = true := decide_eq_true c13
 clear c13
 by_cases c14 : 0 ≤ x4_2
 {
 rw [if_pos c14] at H
 have c14b0 : decide (0 ≤ x4_2) = true := decide_eq_true c14
 clear c14
 by_cases c15 : (Go.bits .andNot .u16 (rd l0_1 x4_2) x3_2) = 0
 {
 rw [if_pos c15] at H
 have c15b0 : ((Go.bits .andNot .u16 (rd l0_1 x4_2) x3_2) == 0) = true := beq_iff_eq.mpr c15
 have c15b1 : ((Go.bits .andNot .u16 (rd l0_1 x4_2) x3_2) != 0) = false := bne_eq_false_iff_eq.mpr c15
 clear c15
 by_cases c16 : x4_2 < (l0_2.length : Int)
 {
 rw [if_pos c16] at H
 have c16b0 : decide (x4_2 < (l0_2.length : Int)) = true := decide_eq_true c16
 clear c16
 replace H := Option.bind_eq_some_iff.mp H
 obtain ⟨t274, A170, H⟩ := H
 replace H : (if t274 = true then (spec_l05Ok.l0 k2 (rd l0_1 x4_2) (wrap64 (x4_2 + 1)) a0_0 l0_1 l0_2) else (some false)) = some r := H
 have A17 := ak A170
 clear A170
 by_cases c18 : t274 = true
 {
 subst c18
 have H1 : (spec_l05Ok.l0 k2 (rd l0_1 x4_2) (wrap64 (x4_2 + 1)) a0_0 l0_1 l0_2) = some r := by rw [if_pos rfl] at H; exact H
 clear H
 have H := H1
 clear H1
 have H' := ak H
 clear H
 have hcz19_0 : w.cell? ⟨b0, 0, none⟩ = some (.int .i64 a0_0) := (blk_cell BK0.out 0).trans rfl
 have hcz19_1 : w.cell? ⟨b0, 1, none⟩ = some (.slice A0_1 l0_1.length c0_1) := (blk_cell BK0.out 1).trans rfl
 have hcz19_2 : w.cell? ⟨b0, 2, none⟩ = some (.slice A0_2 l0_2.length c0_2) := (blk_cell BK0.out 2).trans rfl
 have hfz19_0 := blk_frozen BK0.out 0
 have hfz19_1 := blk_frozen BK0.out 1
 have hfz19_2 := blk_frozen BK0.out 2
 have p272 : 0 ≤ (x4_2 : Int) := of_decide_eq_true (by first | (with_reducible assumption) | assumption)
 have q272 : x4_2 < (l0_1.length : Int) := of_decide_eq_true (by first | (with_reducible assumption) | assumption)
 obtain ⟨ad272, e272, hx272_0⟩ := Kd.at_int HR0_1.out x4_2 p272 q272
 cases e272
 replace p272 := eq_true p272
 replace q272 := eq_true q272
 have p273 : 0 ≤ (x4_2 : Int) := of_decide_eq_true (by first | (with_reducible assumption) | assumption)
 have q273 : x4_2 < (l0_2.length : Int) := of_decide_eq_true (by first | (with_reducible assumption) | assumption)
 obtain ⟨ad273, e273, hx273_0⟩ := Kd.at_int HR0_2.out x4_2 p273 q273
 cases e273
 replace p273 := eq_true p273
 replace q273 := eq_true q273
 go_wp2_with (first | (go_at_call 44; (with_reducible refine (spec_l00In.calls (wrap64 (rd l0_2 x4_2)) 0 100 true _ A17.out).mono ?_); rintro e w' ⟨rfl, ⟨nd, rfl⟩⟩; (try first | exact ⟨rfl, _, World.drewN_drewN _ _ _⟩ | exact ⟨rfl, _, Eq.trans (World.drewN_drewN _ _ _) (congrArg (World.drewN _) (Nat.add_assoc _ _ _))⟩); have p275 : 0 ≤ (x4_2 : Int) := of_decide_eq_true (by first | (with_reducible assumption) | assumption); have q275 : x4_2 < (l0_1.length : Int) := of_decide_eq_true (by first | (with_reducible assumption) | assumption); obtain ⟨ad275, e275, hx275_0⟩ := Kd.at_int HR0_1.out x4_2 p275 q275; obtain rfl : ad272 = ad275 := (by injection e275); replace p275 := eq_true p275; replace q275 := eq_true q275))
 try (have p275 : 0 ≤ (x4_2 : Int) := of_decide_eq_true (by first | (with_reducible assumption) | assumption); have q275 : x4_2 < (l0_1.length : Int) := of_decide_eq_true (by first | (with_reducible assumption) | assumption); obtain ⟨ad275, e275, hx275_0⟩ := Kd.at_int HR0_1.out x4_2 p275 q275; obtain rfl : ad272 = ad275 := (by injection e275); replace p275 := eq_true p275; replace q275 := eq_true q275)
 repeat (go_quiet (first | (go_at_call 44; (with_reducible refine (spec_l00In.calls (wrap64 (rd l0_2 x4_2)) 0 100 true _ A17.out).mono ?_); rintro e w' ⟨rfl, ⟨nd, rfl⟩⟩; (try first | exact ⟨rfl, _, World.drewN_drewN _ _ _⟩ | exact ⟨rfl, _, Eq.trans (World.drewN_drewN _ _ _) (congrArg (World.drewN _) (Nat.add_assoc _ _ _))⟩); try (have p275 : 0 ≤ (x4_2 : Int) := of_decide_eq_true (by first | (with_reducible assumption) | assumption); have q275 : x4_2 < (l0_1.length : Int) := of_decide_eq_true (by first | (with_reducible assumption) | assumption); obtain ⟨ad275, e275, hx275_0⟩ := Kd.at_int HR0_1.out x4_2 p275 q275; obtain rfl : ad272 = ad275 := (by injection e275); replace p275 := eq_true p275; replace q275 := eq_true q275))); try go_wp2_with (first | (go_at_call 44; (with_reducible refine (spec_l00In.calls (wrap64 (rd l0_2 x4_2)) 0 100 true _ A17.out).mono ?_); rintro e w' ⟨rfl, ⟨nd, rfl⟩⟩; (try first | exact ⟨rfl, _, World.drewN_drewN _ _ _⟩ | exact ⟨rfl, _, Eq.trans (World.drewN_drewN _ _ _) (congrArg (World.drewN _) (Nat.add_assoc _ _ _))⟩); try (have p275 : 0 ≤ (x4_2 : Int) := of_decide_eq_true (by first | (with_reducible assumption) | assumption); have q275 : x4_2 < (l0_1.length : Int) := of_decide_eq_true (by first | (with_reducible assumption) | assumption); obtain ⟨ad275, e275, hx275_0⟩ := Kd.at_int HR0_1.out x4_2 p275 q275; obtain rfl : ad272 = ad275 := (by injection e275); replace p275 := eq_true p275; replace q275 := eq_true q275))))
 go_roundg k2
 case measure => have := HJ1.out; have := HK2.out; omega
 case rel => exact ⟨(rd l0_1 x4_2), (wrap64 (x4_2 + 1)), (by first | rfl | (simp; done) | (simp [*]; done)), (by first | rfl | (simp; done) | (simp [*]; done)), H', ⟨by have := HJ1.out; have := HK2.out; omega⟩, ⟨by (with_reducible repeat (first | refine blk_drewN ?_ _ | refine blk_drew ?_ | refine blk_alloc ?_ _)); exact BK0.out⟩, by repeat (first | exact Drawn0.refl _ | apply Drawn0.step)⟩
 }
 {
 replace c18 := Bool.eq_false_iff.mpr c18
 subst c18
 have H1 : (some false) = some r := by rw [if_neg (show ¬ (false = true) by decide)] at H; exact H
 clear H
 have H := H1
 clear H1
 obtain rfl := Option.some.inj H
 have hcz20_0 : w.cell? ⟨b0, 0, none⟩ = some (.int .i64 a0_0) := (blk_cell BK0.out 0).trans rfl
 have hcz20_1 : w.cell? ⟨b0, 1, none⟩ = some (.slice A0_1 l0_1.length c0_1) := (blk_cell BK0.out 1).trans rfl
 have hcz20_2 : w.cell? ⟨b0, 2, none⟩ = some (.slice A0_2 l0_2.length c0_2) := (blk_cell BK0.out 2).trans rfl
 have hfz20_0 := blk_frozen BK0.out 0
 have hfz20_1 := blk_frozen BK0.out 1
 have hfz20_2 := blk_frozen BK0.out 2
 have p272 : 0 ≤ (x4_2 : Int) := of_decide_eq_true (by first | (with_reducible assumption) | assumption)
 have q272 : x4_2 < (l0_1.length : Int) := of_decide_eq_true (by first | (with_reducible assumption) | assumption)
 obtain ⟨ad272, e272, hx272_0⟩ := Kd.at_int HR0_1.out x4_2 p272 q272
 cases e272
 replace p272 := eq_true p272
 replace q272 := eq_true q272
 have p273 : 0 ≤ (x4_2 : Int) := of_decide_eq_true (by first | (with_reducible assumption) | assumption)
 have q273 : x4_2 < (l0_2.length : Int) := of_decide_eq_true (by first | (with_reducible assumption) | assumption)
 obtain ⟨ad273, e273, hx273_0⟩ := Kd.at_int HR0_2.out x4_2 p273 q273
 cases e273
 replace p273 := eq_true p273
 replace q273 := eq_true q273
 go_wp2_with (first | (go_at_call 44; (with_reducible refine (spec_l00In.calls (wrap64 (rd l0_2 x4_2)) 0 100 false _ A17.out).mono ?_); rintro e w' ⟨rfl, ⟨nd, rfl⟩⟩; (try first | exact ⟨rfl, _, World.drewN_drewN _ _ _⟩ | exact ⟨rfl, _, Eq.trans (World.drewN_drewN _ _ _) (congrArg (World.drewN _) (Nat.add_assoc _ _ _))⟩)))
 repeat (go_quiet (first | (go_at_call 44; (with_reducible refine (spec_l00In.calls (wrap64 (rd l0_2 x4_2)) 0 100 false _ A17.out).mono ?_); rintro e w' ⟨rfl, ⟨nd, rfl⟩⟩; (try first | exact ⟨rfl, _, World.drewN_drewN _ _ _⟩ | exact ⟨rfl, _, Eq.trans (World.drewN_drewN _ _ _) (congrArg (World.drewN _) (Nat.add_assoc _ _ _))⟩))); try go_wp2_with (first | (go_at_call 44; (with_reducible refine (spec_l00In.calls (wrap64 (rd l0_2 x4_2)) 0 100 false _ A17.out).mono ?_); rintro e w' ⟨rfl, ⟨nd, rfl⟩⟩; (try first | exact ⟨rfl, _, World.drewN_drewN _ _ _⟩ | exact ⟨rfl, _, Eq.trans (World.drewN_drewN _ _ _) (congrArg (World.drewN _) (Nat.add_assoc _ _ _))⟩))))
 go_ret
 exact ⟨by first | rfl | (simp; done) | (simp [*]; done), by repeat (first | exact Drawn0.refl _ | apply Drawn0.step)⟩
 }
 }
 · rw [if_neg c16] at H; exact absurd H (by simp)
 }
 {
 rw [if_neg c15] at H
 have c15b0 : ((Go.bits .andNot .u16 (rd l0_1 x4_2) x3_2) == 0) = false := beq_eq_false_iff_ne.mpr c15
 have c15b1 : ((Go.bits .andNot .u16 (rd l0_1 x4_2) x3_2) != 0) = true := bne_iff_ne.mpr c15
 obtain rfl := Option.some.inj H
 have hcz21_0 : w.cell? ⟨b0, 0, none⟩ = some (.int .i64 a0_0) := (blk_cell BK0.out 0).trans rfl
 have hcz21_1 : w.cell? ⟨b0, 1, none⟩ = some (.slice A0_1 l0_1.length c0_1) := (blk_cell BK0.out 1).trans rfl
 have hcz21_2 : w.cell? ⟨b0, 2, none⟩ = some (.slice A0_2 l0_2.length c0_2) := (blk_cell BK0.out 2).trans rfl
 have hfz21_0 := blk_frozen BK0.out 0
 have hfz21_1 := blk_frozen BK0.out 1
 have hfz21_2 := blk_frozen BK0.out 2
 have p272 : 0 ≤ (x4_2 : Int) := of_decide_eq_true (by first | (with_reducible assumption) | assumption)
 have q272 : x4_2 < (l0_1.length : Int) := of_decide_eq_true (by first | (with_reducible assumption) | assumption)
 obtain ⟨ad272, e272, hx272_0⟩ := Kd.at_int HR0_1.out x4_2 p272 q272
 cases e272
 replace p272 := eq_true p272
 replace q272 := eq_true q272
 go_wp2
 repeat (go_quiet (fail); try go_wp2)
 go_ret
 exact ⟨by first | rfl | (simp; done) | (simp [*]; done), by repeat (first | exact Drawn0.refl _ | apply Drawn0.step)⟩
 }
 }
 · rw [if_neg c14] at H; exact absurd H (by simp)
 }
 {
 rw [if_neg c13] at H
 have c13b0 : decide (x4_2 < (l0_1.length : Int)) = false := decide_eq_false c13
 clear c13
 obtain rfl := Option.some.inj H
 have hcz22_0 : w.cell? ⟨b0, 0, none⟩ = some (.int .i64 a0_0) := (blk_cell BK0.out 0).trans rfl
 have hcz22_1 : w.cell? ⟨b0, 1, none⟩ = some (.slice A0_1 l0_1.length c0_1) := (blk_cell BK0.out 1).trans rfl
 have hcz22_2 : w.cell? ⟨b0, 2, none⟩ = some (.slice A0_2 l0_2.length c0_2) := (blk_cell BK0.out 2).trans rfl
 have hfz22_0 := blk_frozen BK0.out 0
 have hfz22_1 := blk_frozen BK0.out 1
 have hfz22_2 := blk_frozen BK0.out 2
 go_wp2
 repeat (go_quiet (fail); try go_wp2)
 go_ret
 exact ⟨by first | rfl | (simp; done) | (simp [*]; done), by repeat (first | exact Drawn0.refl _ | apply Drawn0.step)⟩
 }
 )
 )
 }
 )
 )
end Go.Proofs.YtchnklikeimpiaaDoor.P
