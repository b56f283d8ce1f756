-- Printed by wip/print (my turned copy of the kit's print) out of the translation; Lean checks it.
import Derived.Test.YtfmjfnnkkoekbaaP0
import Derived.Test.YtfmjfnnkkoekbaaP11
import Derived.Test.YtfmjfnnkkoekbaaP25
import Derived.Test.YtfmjfnnkkoekbaaP35
import Derived.Test.YtfmjfnnkkoekbaaP47
namespace Go.Proofs.Ytfmjfnnkkoekbaa.P
open Go.RowKit Go.Proofs.YtfmjfnnkkoekbaaW.PrintWords Go.Proofs.YtfmjfnnkkoekbaaW.PrintLast Go.Proofs.YtfmjfnnkkoekbaaW.PrintMore
attribute [local go_sem] max2_int min2_int max_two min_two max_three min_three max_four min_four   -- for this text's walks alone
set_option linter.unusedVariables false
set_option linter.unusedSimpArgs false

/-! ### laws_FnExactRepairCounts: function 6 -/
mutual
def laws_FnExactRepairCounts.j0 : Nat → Int → Int → Int → Int → Bool → Int → List Int → List Int → Int → List Int → List Int → Int → List Int → List Int → Int → List Int → List Int → Option (Bool)
  | 0, _, _, _, _, _, _, _, _, _, _, _, _, _, _, _, _, _ => none
  | k + 1, x5, x6, x9, x10, x50, x439000, x439001, x439002, x457000, x457001, x457002, x465000, x465001, x465002, x475000, x475001, x475002 => if x50 = true then (some false) else ((laws_toLog.f k x439000 x439001 x439002).bind fun bt476 => ((laws_eqLog.f k x465000 x465001 x465002 bt476.1 bt476.2.1 bt476.2.2).bind fun t483 => (if t483 = true then ((laws_markLog.f k x465000 x465001 x465002 1).bind fun bt484 => (if bt484.1 < 0 then (laws_FnExactRepairCounts.j1 k x5 x6 true x439000 x439001 x439002 x457000 x457001 x457002 x475000 x475001 x475002) else ((laws_eqLog.f k x475000 x475001 x475002 x457000 x457001 x457002).bind fun t487 => (if t487 = true then (if x9 = x5 then (laws_FnExactRepairCounts.j1 k x5 x6 (x10 != x6) x439000 x439001 x439002 x457000 x457001 x457002 x475000 x475001 x475002) else (laws_FnExactRepairCounts.j1 k x5 x6 true x439000 x439001 x439002 x457000 x457001 x457002 x475000 x475001 x475002)) else (laws_FnExactRepairCounts.j1 k x5 x6 true x439000 x439001 x439002 x457000 x457001 x457002 x475000 x475001 x475002))))) else (some false))))
def laws_FnExactRepairCounts.j1 : Nat → Int → Int → Bool → Int → List Int → List Int → Int → List Int → List Int → Int → List Int → List Int → Option (Bool)
  | 0, _, _, _, _, _, _, _, _, _, _, _, _ => none
  | k + 1, x5, x6, x76, x439000, x439001, x439002, x457000, x457001, x457002, x475000, x475001, x475002 => if x76 = true then (some false) else ((laws_markLog.f k x475000 x475001 x475002 1).bind fun bt488 => ((laws_heldLog.f k x475000 bt488.2.1 bt488.2.2 1).bind fun t491 => (if t491 < 0 then (some false) else (if t491 = bt488.1 then ((laws_toLog.f k x439000 x439001 x439002).bind fun bt492 => ((impl_RepairCounts.f k bt492.1 bt492.2.1 bt492.2.2).bind fun bt499 => ((laws_eqLog.f k bt499.1 bt499.2.1 bt499.2.2.1 x457000 x457001 x457002).bind fun t509 => (if t509 = true then (if bt499.2.2.2.1 = x5 then (laws_FnExactRepairCounts.j2 k bt488.1 (bt499.2.2.2.2 != x6) x475000 bt488.2.1 bt488.2.2) else (laws_FnExactRepairCounts.j2 k bt488.1 true x475000 bt488.2.1 bt488.2.2)) else (laws_FnExactRepairCounts.j2 k bt488.1 true x475000 bt488.2.1 bt488.2.2))))) else (some false)))))
def laws_FnExactRepairCounts.j2 : Nat → Int → Bool → Int → List Int → List Int → Option (Bool)
  | 0, _, _, _, _, _ => none
  | k + 1, x12, x108, x475000, x475001, x475002 => if x108 = true then (some false) else ((laws_heldLog.f k x475000 x475001 x475002 1).bind fun t510 => (if t510 < 0 then (some false) else (if t510 = x12 then (some true) else (some false))))
end
def laws_FnExactRepairCounts.f (k : Nat) (a0_0 : Int) (l0_1 : List Int) (l0_2 : List Int) : Option (Bool) := (laws_szLog.f a0_0 l0_1 l0_2 1048576).bind fun t439 => (if t439 < 0 then (some true) else ((laws_toLog.f k a0_0 l0_1 l0_2).bind fun bt440 => ((spec_RepairCounts.f k bt440.1 bt440.2.1 bt440.2.2).bind fun bt447 => ((laws_toLog.f k a0_0 l0_1 l0_2).bind fun bt457 => ((impl_RepairCounts.f k bt457.1 bt457.2.1 bt457.2.2).bind fun bt465 => ((laws_eqLog.f k bt465.1 bt465.2.1 bt465.2.2.1 bt447.1 bt447.2.1 bt447.2.2.1).bind fun t475 => (if t475 = true then (if bt465.2.2.2.1 = bt447.2.2.2.1 then (laws_FnExactRepairCounts.j0 k bt447.2.2.2.1 bt447.2.2.2.2 bt465.2.2.2.1 bt465.2.2.2.2 (bt465.2.2.2.2 != bt447.2.2.2.2) a0_0 l0_1 l0_2 bt447.1 bt447.2.1 bt447.2.2.1 bt457.1 bt457.2.1 bt457.2.2 bt465.1 bt465.2.1 bt465.2.2.1) else (laws_FnExactRepairCounts.j0 k bt447.2.2.2.1 bt447.2.2.2.2 bt465.2.2.2.1 bt465.2.2.2.2 true a0_0 l0_1 l0_2 bt447.1 bt447.2.1 bt447.2.2.1 bt457.1 bt457.2.1 bt457.2.2 bt465.1 bt465.2.1 bt465.2.2.1)) else (laws_FnExactRepairCounts.j0 k bt447.2.2.2.1 bt447.2.2.2.2 bt465.2.2.2.1 bt465.2.2.2.2 true a0_0 l0_1 l0_2 bt447.1 bt447.2.1 bt447.2.2.1 bt457.1 bt457.2.1 bt457.2.2 bt465.1 bt465.2.1 bt465.2.2.1))))))))
theorem laws_FnExactRepairCounts.mono_l : ∀ k, (∀ y0 y1 y2 y3 y4 y5 y6 y7 y8 y9 y10 y11 y12 y13 y14 y15 y16, LeO (laws_FnExactRepairCounts.j0 k y0 y1 y2 y3 y4 y5 y6 y7 y8 y9 y10 y11 y12 y13 y14 y15 y16) (laws_FnExactRepairCounts.j0 (k + 1) y0 y1 y2 y3 y4 y5 y6 y7 y8 y9 y10 y11 y12 y13 y14 y15 y16)) ∧ (∀ y0 y1 y2 y3 y4 y5 y6 y7 y8 y9 y10 y11, LeO (laws_FnExactRepairCounts.j1 k y0 y1 y2 y3 y4 y5 y6 y7 y8 y9 y10 y11) (laws_FnExactRepairCounts.j1 (k + 1) y0 y1 y2 y3 y4 y5 y6 y7 y8 y9 y10 y11)) ∧ (∀ y0 y1 y2 y3 y4, LeO (laws_FnExactRepairCounts.j2 k y0 y1 y2 y3 y4) (laws_FnExactRepairCounts.j2 (k + 1) y0 y1 y2 y3 y4))
  | 0 => ⟨fun _ _ _ _ _ _ _ _ _ _ _ _ _ _ _ _ _ r h => by simp [laws_FnExactRepairCounts.j0] at h, fun _ _ _ _ _ _ _ _ _ _ _ _ r h => by simp [laws_FnExactRepairCounts.j1] at h, fun _ _ _ _ _ r h => by simp [laws_FnExactRepairCounts.j2] at h⟩
  | k + 1 => by
    obtain ⟨ih0, ih1, ih2⟩ := laws_FnExactRepairCounts.mono_l k
    refine ⟨?_, ?_, ?_⟩
    · intro y0 y1 y2 y3 y4 y5 y6 y7 y8 y9 y10 y11 y12 y13 y14 y15 y16
      unfold laws_FnExactRepairCounts.j0
      repeat' first
      | (with_reducible exact ih0 _ _ _ _ _ _ _ _ _ _ _ _ _ _ _ _ _)
      | (with_reducible exact ih1 _ _ _ _ _ _ _ _ _ _ _ _)
      | (with_reducible exact ih2 _ _ _ _ _)
      | (with_reducible exact impl_RepairCounts.mono _ _ _ _)
      | (with_reducible exact laws_eqLog.mono _ _ _ _ _ _ _)
      | (with_reducible exact laws_heldLog.mono _ _ _ _ _)
      | (with_reducible exact laws_markLog.mono _ _ _ _ _)
      | (with_reducible exact laws_toLog.mono _ _ _ _)
      | (with_reducible exact spec_RepairCounts.mono _ _ _ _)
      | (with_reducible exact LeO.refl _)
      | (with_reducible exact LeO.none _)
      | (with_reducible refine LeO.ite ?_ ?_)
      | (with_reducible refine LeO.bind ?_ (fun _ => ?_))
      | exact ih0 _ _ _ _ _ _ _ _ _ _ _ _ _ _ _ _ _
      | exact ih1 _ _ _ _ _ _ _ _ _ _ _ _
      | exact ih2 _ _ _ _ _
      | exact impl_RepairCounts.mono _ _ _ _
      | exact laws_eqLog.mono _ _ _ _ _ _ _
      | exact laws_heldLog.mono _ _ _ _ _
      | exact laws_markLog.mono _ _ _ _ _
      | exact laws_toLog.mono _ _ _ _
      | exact spec_RepairCounts.mono _ _ _ _
      | exact LeO.none _
      | refine LeO.ite ?_ ?_
      | refine LeO.bind ?_ (fun _ => ?_)
    · intro y0 y1 y2 y3 y4 y5 y6 y7 y8 y9 y10 y11
      unfold laws_FnExactRepairCounts.j1
      repeat' first
      | (with_reducible exact ih0 _ _ _ _ _ _ _ _ _ _ _ _ _ _ _ _ _)
      | (with_reducible exact ih1 _ _ _ _ _ _ _ _ _ _ _ _)
      | (with_reducible exact ih2 _ _ _ _ _)
      | (with_reducible exact impl_RepairCounts.mono _ _ _ _)
      | (with_reducible exact laws_eqLog.mono _ _ _ _ _ _ _)
      | (with_reducible exact laws_heldLog.mono _ _ _ _ _)
      | (with_reducible exact laws_markLog.mono _ _ _ _ _)
      | (with_reducible exact laws_toLog.mono _ _ _ _)
      | (with_reducible exact spec_RepairCounts.mono _ _ _ _)
      | (with_reducible exact LeO.refl _)
      | (with_reducible exact LeO.none _)
      | (with_reducible refine LeO.ite ?_ ?_)
      | (with_reducible refine LeO.bind ?_ (fun _ => ?_))
      | exact ih0 _ _ _ _ _ _ _ _ _ _ _ _ _ _ _ _ _
      | exact ih1 _ _ _ _ _ _ _ _ _ _ _ _
      | exact ih2 _ _ _ _ _
      | exact impl_RepairCounts.mono _ _ _ _
      | exact laws_eqLog.mono _ _ _ _ _ _ _
      | exact laws_heldLog.mono _ _ _ _ _
      | exact laws_markLog.mono _ _ _ _ _
      | exact laws_toLog.mono _ _ _ _
      | exact spec_RepairCounts.mono _ _ _ _
      | exact LeO.none _
      | refine LeO.ite ?_ ?_
      | refine LeO.bind ?_ (fun _ => ?_)
    · intro y0 y1 y2 y3 y4
      unfold laws_FnExactRepairCounts.j2
      repeat' first
      | (with_reducible exact ih0 _ _ _ _ _ _ _ _ _ _ _ _ _ _ _ _ _)
      | (with_reducible exact ih1 _ _ _ _ _ _ _ _ _ _ _ _)
      | (with_reducible exact ih2 _ _ _ _ _)
      | (with_reducible exact impl_RepairCounts.mono _ _ _ _)
      | (with_reducible exact laws_eqLog.mono _ _ _ _ _ _ _)
      | (with_reducible exact laws_heldLog.mono _ _ _ _ _)
      | (with_reducible exact laws_markLog.mono _ _ _ _ _)
      | (with_reducible exact laws_toLog.mono _ _ _ _)
      | (with_reducible exact spec_RepairCounts.mono _ _ _ _)
      | (with_reducible exact LeO.refl _)
      | (with_reducible exact LeO.none _)
      | (with_reducible refine LeO.ite ?_ ?_)
      | (with_reducible refine LeO.bind ?_ (fun _ => ?_))
      | exact ih0 _ _ _ _ _ _ _ _ _ _ _ _ _ _ _ _ _
      | exact ih1 _ _ _ _ _ _ _ _ _ _ _ _
      | exact ih2 _ _ _ _ _
      | exact impl_RepairCounts.mono _ _ _ _
      | exact laws_eqLog.mono _ _ _ _ _ _ _
      | exact laws_heldLog.mono _ _ _ _ _
      | exact laws_markLog.mono _ _ _ _ _
      | exact laws_toLog.mono _ _ _ _
      | exact spec_RepairCounts.mono _ _ _ _
      | exact LeO.none _
      | refine LeO.ite ?_ ?_
      | refine LeO.bind ?_ (fun _ => ?_)
theorem laws_FnExactRepairCounts.mono : ∀ a0 a1 a2 k, LeO (laws_FnExactRepairCounts.f k a0 a1 a2) (laws_FnExactRepairCounts.f (k + 1) a0 a1 a2) := by
  intro a0 a1 a2 k
  obtain ⟨ih0, ih1, ih2⟩ := laws_FnExactRepairCounts.mono_l k
  unfold laws_FnExactRepairCounts.f
  repeat' first
      | (with_reducible exact ih0 _ _ _ _ _ _ _ _ _ _ _ _ _ _ _ _ _)
      | (with_reducible exact ih1 _ _ _ _ _ _ _ _ _ _ _ _)
      | (with_reducible exact ih2 _ _ _ _ _)
      | (with_reducible exact impl_RepairCounts.mono _ _ _ _)
      | (with_reducible exact laws_eqLog.mono _ _ _ _ _ _ _)
      | (with_reducible exact laws_heldLog.mono _ _ _ _ _)
      | (with_reducible exact laws_markLog.mono _ _ _ _ _)
      | (with_reducible exact laws_toLog.mono _ _ _ _)
      | (with_reducible exact spec_RepairCounts.mono _ _ _ _)
      | (with_reducible exact LeO.refl _)
      | (with_reducible exact LeO.none _)
      | (with_reducible refine LeO.ite ?_ ?_)
      | (with_reducible refine LeO.bind ?_ (fun _ => ?_))
      | exact ih0 _ _ _ _ _ _ _ _ _ _ _ _ _ _ _ _ _
      | exact ih1 _ _ _ _ _ _ _ _ _ _ _ _
      | exact ih2 _ _ _ _ _
      | exact impl_RepairCounts.mono _ _ _ _
      | exact laws_eqLog.mono _ _ _ _ _ _ _
      | exact laws_heldLog.mono _ _ _ _ _
      | exact laws_markLog.mono _ _ _ _ _
      | exact laws_toLog.mono _ _ _ _
      | exact spec_RepairCounts.mono _ _ _ _
      | exact LeO.none _
      | refine LeO.ite ?_ ?_
      | refine LeO.bind ?_ (fun _ => ?_)
set_option maxHeartbeats 8000000 in
set_option maxRecDepth 100000 in
theorem laws_FnExactRepairCounts.calls (k : Nat) (a0_0 : Int) (A0_1 : Option Addr) (c0_1 : Nat) (l0_1 : List Int) (A0_2 : Option Addr) (c0_2 : Nat) (l0_2 : List Int) (r : Bool) (w : World) (hr0_1 : Kd.C (Kd.int .u16) w A0_1 l0_1.length l0_1) (hc0_1 : l0_1.length ≤ c0_1) (hr0_2 : Kd.C (Kd.int .i16) w A0_2 l0_2.length l0_2) (hc0_2 : l0_2.length ≤ c0_2) (hT : r = true) (h : laws_FnExactRepairCounts.f k a0_0 l0_1 l0_2 = some r) :
    Calls Try.prog 6 #[.agg #[.int .i64 a0_0, .slice A0_1 l0_1.length c0_1, .slice A0_2 l0_2.length c0_2]] w fun e w' => e = .returned (.bool r) ∧ Below w.heap.size w w' := by
  have hu25 := Try.underlying25
  have hu31 := Try.underlying31
  have HR0_1 := Aside0.mk hr0_1
  have HC0_1 := Aside0.mk hc0_1
  clear hr0_1 hc0_1
  have HR0_2 := Aside0.mk hr0_2
  have HC0_2 := Aside0.mk hc0_2
  clear hr0_2 hc0_2
  have HT := Aside0.mk hT
  clear hT
  have HB := Aside0.mk (Below.refl w.heap.size w)
  have H : ((laws_szLog.f a0_0 l0_1 l0_2 1048576).bind fun t439 => (if t439 < 0 then (some true) else ((laws_toLog.f k a0_0 l0_1 l0_2).bind fun bt440 => ((spec_RepairCounts.f k bt440.1 bt440.2.1 bt440.2.2).bind fun bt447 => ((laws_toLog.f k a0_0 l0_1 l0_2).bind fun bt457 => ((impl_RepairCounts.f k bt457.1 bt457.2.1 bt457.2.2).bind fun bt465 => ((laws_eqLog.f k bt465.1 bt465.2.1 bt465.2.2.1 bt447.1 bt447.2.1 bt447.2.2.1).bind fun t475 => (if t475 = true then (if bt465.2.2.2.1 = bt447.2.2.2.1 then (laws_FnExactRepairCounts.j0 k bt447.2.2.2.1 bt447.2.2.2.2 bt465.2.2.2.1 bt465.2.2.2.2 (bt465.2.2.2.2 != bt447.2.2.2.2) a0_0 l0_1 l0_2 bt447.1 bt447.2.1 bt447.2.2.1 bt457.1 bt457.2.1 bt457.2.2 bt465.1 bt465.2.1 bt465.2.2.1) else (laws_FnExactRepairCounts.j0 k bt447.2.2.2.1 bt447.2.2.2.2 bt465.2.2.2.1 bt465.2.2.2.2 true a0_0 l0_1 l0_2 bt447.1 bt447.2.1 bt447.2.2.1 bt457.1 bt457.2.1 bt457.2.2 bt465.1 bt465.2.1 bt465.2.2.1)) else (laws_FnExactRepairCounts.j0 k bt447.2.2.2.1 bt447.2.2.2.2 bt465.2.2.2.1 bt465.2.2.2.2 true a0_0 l0_1 l0_2 bt447.1 bt447.2.1 bt447.2.2.1 bt457.1 bt457.2.1 bt457.2.2 bt465.1 bt465.2.1 bt465.2.2.1))))))))) = some r := h
  clear h
  replace H := Option.bind_eq_some_iff.mp H
  obtain ⟨t439, A20, H⟩ := H
  replace H : (if t439 < 0 then (some true) else ((laws_toLog.f k a0_0 l0_1 l0_2).bind fun bt440 => ((spec_RepairCounts.f k bt440.1 bt440.2.1 bt440.2.2).bind fun bt447 => ((laws_toLog.f k a0_0 l0_1 l0_2).bind fun bt457 => ((impl_RepairCounts.f k bt457.1 bt457.2.1 bt457.2.2).bind fun bt465 => ((laws_eqLog.f k bt465.1 bt465.2.1 bt465.2.2.1 bt447.1 bt447.2.1 bt447.2.2.1).bind fun t475 => (if t475 = true then (if bt465.2.2.2.1 = bt447.2.2.2.1 then (laws_FnExactRepairCounts.j0 k bt447.2.2.2.1 bt447.2.2.2.2 bt465.2.2.2.1 bt465.2.2.2.2 (bt465.2.2.2.2 != bt447.2.2.2.2) a0_0 l0_1 l0_2 bt447.1 bt447.2.1 bt447.2.2.1 bt457.1 bt457.2.1 bt457.2.2 bt465.1 bt465.2.1 bt465.2.2.1) else (laws_FnExactRepairCounts.j0 k bt447.2.2.2.1 bt447.2.2.2.2 bt465.2.2.2.1 bt465.2.2.2.2 true a0_0 l0_1 l0_2 bt447.1 bt447.2.1 bt447.2.2.1 bt457.1 bt457.2.1 bt457.2.2 bt465.1 bt465.2.1 bt465.2.2.1)) else (laws_FnExactRepairCounts.j0 k bt447.2.2.2.1 bt447.2.2.2.2 bt465.2.2.2.1 bt465.2.2.2.2 true a0_0 l0_1 l0_2 bt447.1 bt447.2.1 bt447.2.2.1 bt457.1 bt457.2.1 bt457.2.2 bt465.1 bt465.2.1 bt465.2.2.1)))))))) = some r := H
  have A2 := Aside0.mk A20
  clear A20
  by_cases c3 : t439 < 0
  · rw [if_pos c3] at H
    have c3b0 : decide (t439 < 0) = true := decide_eq_true c3
    clear c3
    obtain rfl := Option.some.inj H
    go_enter Try.func6, Try.ntmps6
    go_wp2_with (first | ((with_reducible refine gate_dst (N := 1) rfl ?_); refine box_event ?hg (N := 1) ?hd (cs := #[.int .i64 a0_0, .slice A0_1 l0_1.length c0_1, .slice A0_2 l0_2.length c0_2]) (t := 25) ?hr ?_; (case hd => rfl); (case hg => rfl); (case hr => first | (go_simp; done) | (go_simp; rfl)); intro gb438 hg w4 hbox hb; have n0_ := Aside0.mk (below_step (by repeat (first | (with_reducible first | exact HB.out | apply below_alloc | apply pw_below_drewN | apply below_drew1) | exact HB.out)) hb); have n1_ := Aside0.mk (hbox); have n2_ := Aside0.mk ((by rw [hg]; exact (below_size (by repeat (first | (with_reducible first | exact HB.out | apply below_alloc | apply pw_below_drewN | apply below_drew1) | exact HB.out))) : w.heap.size ≤ gb438)); have n3_ := Aside0.mk ((by rw [hg]; exact (below_size (by repeat (first | (with_reducible first | exact HB.out | apply below_alloc | apply pw_below_drewN | apply below_drew1) | exact HB.out))) : w.heap.size ≤ gb438)); clear HB; have HB := n0_; have BK438 := n1_; have GW438 := n2_; have GE438 := n3_; clear n0_ n1_ n2_ n3_; clear hb hbox hg; have hcz5_0 : w4.cell? ⟨gb438, 0, none⟩ = some (.int .i64 a0_0) := (blk_cell BK438.out 0).trans rfl; have hcz5_1 : w4.cell? ⟨gb438, 1, none⟩ = some (.slice A0_1 l0_1.length c0_1) := (blk_cell BK438.out 1).trans rfl; have hcz5_2 : w4.cell? ⟨gb438, 2, none⟩ = some (.slice A0_2 l0_2.length c0_2) := (blk_cell BK438.out 2).trans rfl; have hfz5_0 := blk_frozen BK438.out 0; have hfz5_1 := blk_frozen BK438.out 1; have hfz5_2 := blk_frozen BK438.out 2) | ((with_reducible refine gate_callee (f := 13) rfl ?_); refine goesL_ (some 19) rfl rfl Try.func13 (by kernel_rfl) rfl #[.agg #[.int .i64 a0_0, .slice A0_1 l0_1.length c0_1, .slice A0_2 l0_2.length c0_2], .int .i64 1048576] rfl (by (try simp only [List.map_toArray, List.map_cons, List.map_nil]); first | done | rfl | (simp only [List.length_drop, List.length_take]; rfl)) ?_; (with_reducible refine (laws_szLog.calls a0_0 _ _ l0_1 _ _ l0_2 1048576 t439 _ ?side1 ?side2 ?side3 ?side4 A2.out).mono ?_); (case side1 => repeat (first | exact (Kd.C_below HR0_1.out HB.out) | (with_reducible refine Kd.C_alloc ?_ _) | (with_reducible refine Kd.C_drewN ?_ _) | (with_reducible refine Kd.C_drew ?_))); (case side2 => exact HC0_1.out); (case side3 => repeat (first | exact (Kd.C_below HR0_2.out HB.out) | (with_reducible refine Kd.C_alloc ?_ _) | (with_reducible refine Kd.C_drewN ?_ _) | (with_reducible refine Kd.C_drew ?_))); (case side4 => exact HC0_2.out); rintro e w6 ⟨rfl, hb⟩; refine ⟨_, rfl, ?_⟩; have n0_ := Aside0.mk (blk_below (g := gb438) (o := .cells #[.int .i64 a0_0, .slice A0_1 l0_1.length c0_1, .slice A0_2 l0_2.length c0_2] 25 (0, 0)) (by (with_reducible repeat (first | refine qe ?_ _ | refine qf ?_ | refine qd ?_ _)); exact BK438.out) hb); have n1_ := Aside0.mk (below_step (by repeat (first | (with_reducible first | exact HB.out | apply below_alloc | apply pw_below_drewN | apply below_drew1 | refine below_set ?_ GE438.out) | exact HB.out)) hb); clear BK438; clear HB; have BK438 := n0_; have HB := n1_; clear n0_ n1_; (try clear hb); (try clear hb2); (try clear hk); (try clear hi)))
    go_ret
    exact ⟨by first | rfl | (simp [errW_none, errW_some] <;> rfl) | (simp [*, errW_none, errW_some] <;> rfl), by repeat (first | (with_reducible first | exact HB.out | apply below_alloc | apply pw_below_drewN | apply below_drew1 | refine below_set ?_ GE438.out) | exact HB.out)⟩
  · rw [if_neg c3] at H
    have c3b0 : decide (t439 < 0) = false := decide_eq_false c3
    clear c3
    replace H := Option.bind_eq_some_iff.mp H
    obtain ⟨⟨t440, t441, t444⟩, A70, H⟩ := H
    replace H : ((spec_RepairCounts.f k t440 t441 t444).bind fun bt447 => ((laws_toLog.f k a0_0 l0_1 l0_2).bind fun bt457 => ((impl_RepairCounts.f k bt457.1 bt457.2.1 bt457.2.2).bind fun bt465 => ((laws_eqLog.f k bt465.1 bt465.2.1 bt465.2.2.1 bt447.1 bt447.2.1 bt447.2.2.1).bind fun t475 => (if t475 = true then (if bt465.2.2.2.1 = bt447.2.2.2.1 then (laws_FnExactRepairCounts.j0 k bt447.2.2.2.1 bt447.2.2.2.2 bt465.2.2.2.1 bt465.2.2.2.2 (bt465.2.2.2.2 != bt447.2.2.2.2) a0_0 l0_1 l0_2 bt447.1 bt447.2.1 bt447.2.2.1 bt457.1 bt457.2.1 bt457.2.2 bt465.1 bt465.2.1 bt465.2.2.1) else (laws_FnExactRepairCounts.j0 k bt447.2.2.2.1 bt447.2.2.2.2 bt465.2.2.2.1 bt465.2.2.2.2 true a0_0 l0_1 l0_2 bt447.1 bt447.2.1 bt447.2.2.1 bt457.1 bt457.2.1 bt457.2.2 bt465.1 bt465.2.1 bt465.2.2.1)) else (laws_FnExactRepairCounts.j0 k bt447.2.2.2.1 bt447.2.2.2.2 bt465.2.2.2.1 bt465.2.2.2.2 true a0_0 l0_1 l0_2 bt447.1 bt447.2.1 bt447.2.2.1 bt457.1 bt457.2.1 bt457.2.2 bt465.1 bt465.2.1 bt465.2.2.1)))))) = some r := H
    have A7 := Aside0.mk A70
    clear A70
    replace H := Option.bind_eq_some_iff.mp H
    obtain ⟨⟨t447, t448, t451, t454, t455⟩, A80, H⟩ := H
    replace H : ((laws_toLog.f k a0_0 l0_1 l0_2).bind fun bt457 => ((impl_RepairCounts.f k bt457.1 bt457.2.1 bt457.2.2).bind fun bt465 => ((laws_eqLog.f k bt465.1 bt465.2.1 bt465.2.2.1 t447 t448 t451).bind fun t475 => (if t475 = true then (if bt465.2.2.2.1 = t454 then (laws_FnExactRepairCounts.j0 k t454 t455 bt465.2.2.2.1 bt465.2.2.2.2 (bt465.2.2.2.2 != t455) a0_0 l0_1 l0_2 t447 t448 t451 bt457.1 bt457.2.1 bt457.2.2 bt465.1 bt465.2.1 bt465.2.2.1) else (laws_FnExactRepairCounts.j0 k t454 t455 bt465.2.2.2.1 bt465.2.2.2.2 true a0_0 l0_1 l0_2 t447 t448 t451 bt457.1 bt457.2.1 bt457.2.2 bt465.1 bt465.2.1 bt465.2.2.1)) else (laws_FnExactRepairCounts.j0 k t454 t455 bt465.2.2.2.1 bt465.2.2.2.2 true a0_0 l0_1 l0_2 t447 t448 t451 bt457.1 bt457.2.1 bt457.2.2 bt465.1 bt465.2.1 bt465.2.2.1))))) = some r := H
    have A8 := Aside0.mk A80
    clear A80
    replace H := Option.bind_eq_some_iff.mp H
    obtain ⟨⟨t457, t458, t461⟩, A90, H⟩ := H
    replace H : ((impl_RepairCounts.f k t457 t458 t461).bind fun bt465 => ((laws_eqLog.f k bt465.1 bt465.2.1 bt465.2.2.1 t447 t448 t451).bind fun t475 => (if t475 = true then (if bt465.2.2.2.1 = t454 then (laws_FnExactRepairCounts.j0 k t454 t455 bt465.2.2.2.1 bt465.2.2.2.2 (bt465.2.2.2.2 != t455) a0_0 l0_1 l0_2 t447 t448 t451 t457 t458 t461 bt465.1 bt465.2.1 bt465.2.2.1) else (laws_FnExactRepairCounts.j0 k t454 t455 bt465.2.2.2.1 bt465.2.2.2.2 true a0_0 l0_1 l0_2 t447 t448 t451 t457 t458 t461 bt465.1 bt465.2.1 bt465.2.2.1)) else (laws_FnExactRepairCounts.j0 k t454 t455 bt465.2.2.2.1 bt465.2.2.2.2 true a0_0 l0_1 l0_2 t447 t448 t451 t457 t458 t461 bt465.1 bt465.2.1 bt465.2.2.1)))) = some r := H
    have A9 := Aside0.mk A90
    clear A90
    replace H := Option.bind_eq_some_iff.mp H
    obtain ⟨⟨t465, t466, t469, t472, t473⟩, A100, H⟩ := H
    replace H : ((laws_eqLog.f k t465 t466 t469 t447 t448 t451).bind fun t475 => (if t475 = true then (if t472 = t454 then (laws_FnExactRepairCounts.j0 k t454 t455 t472 t473 (t473 != t455) a0_0 l0_1 l0_2 t447 t448 t451 t457 t458 t461 t465 t466 t469) else (laws_FnExactRepairCounts.j0 k t454 t455 t472 t473 true a0_0 l0_1 l0_2 t447 t448 t451 t457 t458 t461 t465 t466 t469)) else (laws_FnExactRepairCounts.j0 k t454 t455 t472 t473 true a0_0 l0_1 l0_2 t447 t448 t451 t457 t458 t461 t465 t466 t469))) = some r := H
    have A10 := Aside0.mk A100
    clear A100
    have HC11 := Aside0.mk H
    clear H
    go_enter Try.func6, Try.ntmps6
    go_upto_region 8 with (first | ((with_reducible refine gate_dst (N := 1) rfl ?_); refine box_event ?hg (N := 1) ?hd (cs := #[.int .i64 a0_0, .slice A0_1 l0_1.length c0_1, .slice A0_2 l0_2.length c0_2]) (t := 25) ?hr ?_; (case hd => rfl); (case hg => rfl); (case hr => first | (go_simp; done) | (go_simp; rfl)); intro gb438 hg w12 hbox hb; have n0_ := Aside0.mk (below_step (by repeat (first | (with_reducible first | exact HB.out | apply below_alloc | apply pw_below_drewN | apply below_drew1) | exact HB.out)) hb); have n1_ := Aside0.mk (hbox); have n2_ := Aside0.mk ((by rw [hg]; exact (below_size (by repeat (first | (with_reducible first | exact HB.out | apply below_alloc | apply pw_below_drewN | apply below_drew1) | exact HB.out))) : w.heap.size ≤ gb438)); have n3_ := Aside0.mk ((by rw [hg]; exact (below_size (by repeat (first | (with_reducible first | exact HB.out | apply below_alloc | apply pw_below_drewN | apply below_drew1) | exact HB.out))) : w.heap.size ≤ gb438)); clear HB; have HB := n0_; have BK438 := n1_; have GW438 := n2_; have GE438 := n3_; clear n0_ n1_ n2_ n3_; clear hb hbox hg; have hcz13_0 : w12.cell? ⟨gb438, 0, none⟩ = some (.int .i64 a0_0) := (blk_cell BK438.out 0).trans rfl; have hcz13_1 : w12.cell? ⟨gb438, 1, none⟩ = some (.slice A0_1 l0_1.length c0_1) := (blk_cell BK438.out 1).trans rfl; have hcz13_2 : w12.cell? ⟨gb438, 2, none⟩ = some (.slice A0_2 l0_2.length c0_2) := (blk_cell BK438.out 2).trans rfl; have hfz13_0 := blk_frozen BK438.out 0; have hfz13_1 := blk_frozen BK438.out 1; have hfz13_2 := blk_frozen BK438.out 2) | ((with_reducible refine gate_callee (f := 13) rfl ?_); refine goesL_ (some 19) rfl rfl Try.func13 (by kernel_rfl) rfl #[.agg #[.int .i64 a0_0, .slice A0_1 l0_1.length c0_1, .slice A0_2 l0_2.length c0_2], .int .i64 1048576] rfl (by (try simp only [List.map_toArray, List.map_cons, List.map_nil]); first | done | rfl | (simp only [List.length_drop, List.length_take]; rfl)) ?_; (with_reducible refine (laws_szLog.calls a0_0 _ _ l0_1 _ _ l0_2 1048576 t439 _ ?side1 ?side2 ?side3 ?side4 A2.out).mono ?_); (case side1 => repeat (first | exact (Kd.C_below HR0_1.out HB.out) | (with_reducible refine Kd.C_alloc ?_ _) | (with_reducible refine Kd.C_drewN ?_ _) | (with_reducible refine Kd.C_drew ?_))); (case side2 => exact HC0_1.out); (case side3 => repeat (first | exact (Kd.C_below HR0_2.out HB.out) | (with_reducible refine Kd.C_alloc ?_ _) | (with_reducible refine Kd.C_drewN ?_ _) | (with_reducible refine Kd.C_drew ?_))); (case side4 => exact HC0_2.out); rintro e w14 ⟨rfl, hb⟩; refine ⟨_, rfl, ?_⟩; have n0_ := Aside0.mk (blk_below (g := gb438) (o := .cells #[.int .i64 a0_0, .slice A0_1 l0_1.length c0_1, .slice A0_2 l0_2.length c0_2] 25 (0, 0)) (by (with_reducible repeat (first | refine qe ?_ _ | refine qf ?_ | refine qd ?_ _)); exact BK438.out) hb); have n1_ := Aside0.mk (below_step (by repeat (first | (with_reducible first | exact HB.out | apply below_alloc | apply pw_below_drewN | apply below_drew1 | refine below_set ?_ GE438.out) | exact HB.out)) hb); clear BK438; clear HB; have BK438 := n0_; have HB := n1_; clear n0_ n1_; (try clear hb); (try clear hb2); (try clear hk); (try clear hi); have hcz15_0 : w14.cell? ⟨gb438, 0, none⟩ = some (.int .i64 a0_0) := (blk_cell BK438.out 0).trans rfl; have hcz15_1 : w14.cell? ⟨gb438, 1, none⟩ = some (.slice A0_1 l0_1.length c0_1) := (blk_cell BK438.out 1).trans rfl; have hcz15_2 : w14.cell? ⟨gb438, 2, none⟩ = some (.slice A0_2 l0_2.length c0_2) := (blk_cell BK438.out 2).trans rfl; have hfz15_0 := blk_frozen BK438.out 0; have hfz15_1 := blk_frozen BK438.out 1; have hfz15_2 := blk_frozen BK438.out 2) | ((with_reducible refine gate_callee (f := 15) rfl ?_); refine goesL_ (some 24) rfl rfl Try.func15 (by kernel_rfl) rfl #[.agg #[.int .i64 a0_0, .slice A0_1 l0_1.length c0_1, .slice A0_2 l0_2.length c0_2]] rfl (by (try simp only [List.map_toArray, List.map_cons, List.map_nil]); first | done | rfl | (simp only [List.length_drop, List.length_take]; rfl)) ?_; (with_reducible refine (laws_toLog.calls k a0_0 _ _ l0_1 _ _ l0_2 t440 t441 t444 _ ?side1 ?side2 ?side3 ?side4 A7.out).mono ?_); (case side1 => repeat (first | exact (Kd.C_below HR0_1.out HB.out) | (with_reducible refine Kd.C_alloc ?_ _) | (with_reducible refine Kd.C_drewN ?_ _) | (with_reducible refine Kd.C_drew ?_))); (case side2 => exact HC0_1.out); (case side3 => repeat (first | exact (Kd.C_below HR0_2.out HB.out) | (with_reducible refine Kd.C_alloc ?_ _) | (with_reducible refine Kd.C_drewN ?_ _) | (with_reducible refine Kd.C_drew ?_))); (case side4 => exact HC0_2.out); rintro e w16 ⟨v442, v445, rfl, ho0, ho1, hb⟩; refine ⟨_, rfl, ?_⟩; have n0_ := Aside0.mk (Kd.R_lower ho0 (below_size (by repeat (first | (with_reducible first | exact HB.out | apply below_alloc | apply pw_below_drewN | apply below_drew1 | refine below_set ?_ GE438.out) | exact HB.out)))); have n1_ := Aside0.mk (Kd.R_lower ho1 (below_size (by repeat (first | (with_reducible first | exact HB.out | apply below_alloc | apply pw_below_drewN | apply below_drew1 | refine below_set ?_ GE438.out) | exact HB.out)))); have n2_ := Aside0.mk (blk_below (g := gb438) (o := .cells #[.int .i64 a0_0, .slice A0_1 l0_1.length c0_1, .slice A0_2 l0_2.length c0_2] 25 (0, 0)) (by (with_reducible repeat (first | refine qe ?_ _ | refine qf ?_ | refine qd ?_ _)); exact BK438.out) hb); have n3_ := Aside0.mk (below_step (by repeat (first | (with_reducible first | exact HB.out | apply below_alloc | apply pw_below_drewN | apply below_drew1 | refine below_set ?_ GE438.out) | exact HB.out)) hb); clear BK438; clear HB; have HO443 := n0_; have HO446 := n1_; have BK438 := n2_; have HB := n3_; clear n0_ n1_ n2_ n3_; (try clear hb); (try clear hb2); (try clear hk); (try clear hi); (try clear ho0); (try clear ho1); obtain ⟨Ao17, co17, eo17⟩ := Kd.R_slice HO443.out; subst eo17; obtain ⟨Ao18, co18, eo18⟩ := Kd.R_slice HO446.out; subst eo18) | ((with_reducible refine gate_callee (f := 28) rfl ?_); refine goesL_ (some 25) rfl rfl Try.func28 (by kernel_rfl) rfl #[.agg #[.int .i64 t440, .slice Ao17 t441.length co17, .slice Ao18 t444.length co18]] rfl (by (try simp only [List.map_toArray, List.map_cons, List.map_nil]); first | done | rfl | (simp only [List.length_drop, List.length_take]; rfl)) ?_; (with_reducible refine (spec_RepairCounts.calls k t440 _ _ t441 _ _ t444 t447 t448 t451 t454 t455 _ ?side1 ?side2 ?side3 ?side4 A8.out).mono ?_); (case side1 => repeat (first | exact (Kd.R_reads' HO443.out).2.2 | (with_reducible refine Kd.C_alloc ?_ _) | (with_reducible refine Kd.C_drewN ?_ _) | (with_reducible refine Kd.C_drew ?_))); (case side2 => exact (Kd.R_reads' HO443.out).2.1); (case side3 => repeat (first | exact (Kd.R_reads' HO446.out).2.2 | (with_reducible refine Kd.C_alloc ?_ _) | (with_reducible refine Kd.C_drewN ?_ _) | (with_reducible refine Kd.C_drew ?_))); (case side4 => exact (Kd.R_reads' HO446.out).2.1); rintro e w19 ⟨v449, v452, rfl, ho0, ho1, hb⟩; refine ⟨_, rfl, ?_⟩; have n0_ := Aside0.mk (Kd.R_elder' (by (with_reducible repeat (first | apply qa | apply qb | apply qc)); exact HO443.out) (Kd.R_base ho0) hb); have n1_ := Aside0.mk (Kd.R_elder' (by (with_reducible repeat (first | apply qa | apply qb | apply qc)); exact HO446.out) (Kd.R_base ho1) hb); have n2_ := Aside0.mk (Kd.R_lower (Kd.R_new' ho0 (Kd.R_lt (by (with_reducible repeat (first | apply qa | apply qb | apply qc)); exact HO443.out))) (below_size (by repeat (first | (with_reducible first | exact HB.out | apply below_alloc | apply pw_below_drewN | apply below_drew1 | refine below_set ?_ GE438.out) | exact HB.out)))); have n3_ := Aside0.mk (Kd.R_lower (Kd.R_new' ho1 (Kd.R_lt (by (with_reducible repeat (first | apply qa | apply qb | apply qc)); exact HO446.out))) (below_size (by repeat (first | (with_reducible first | exact HB.out | apply below_alloc | apply pw_below_drewN | apply below_drew1 | refine below_set ?_ GE438.out) | exact HB.out)))); have n4_ := Aside0.mk (blk_below (g := gb438) (o := .cells #[.int .i64 a0_0, .slice A0_1 l0_1.length c0_1, .slice A0_2 l0_2.length c0_2] 25 (0, 0)) (by (with_reducible repeat (first | refine qe ?_ _ | refine qf ?_ | refine qd ?_ _)); exact BK438.out) hb); have n5_ := Aside0.mk (below_step (by repeat (first | (with_reducible first | exact HB.out | apply below_alloc | apply pw_below_drewN | apply below_drew1 | refine below_set ?_ GE438.out) | exact HB.out)) hb); clear HO443; clear HO446; clear BK438; clear HB; have HO443 := n0_; have HO446 := n1_; have HO450 := n2_; have HO453 := n3_; have BK438 := n4_; have HB := n5_; clear n0_ n1_ n2_ n3_ n4_ n5_; (try clear hb); (try clear hb2); (try clear hk); (try clear hi); (try clear ho0); (try clear ho1)) | ((with_reducible refine gate_dst (N := 4) rfl ?_); refine box_event ?hg (N := 4) ?hd (cs := #[.int .i64 0, .slice none 0 0, .slice none 0 0]) (t := 31) ?hr ?_; (case hd => rfl); (case hg => rfl); (case hr => first | (go_simp; done) | (go_simp; rfl)); intro gb456 hg w20 hbox hb; have n0_ := Aside0.mk (Kd.R_below (by (with_reducible repeat (first | apply qa | apply qb | apply qc)); exact HO443.out) hb); have n1_ := Aside0.mk (Kd.R_below (by (with_reducible repeat (first | apply qa | apply qb | apply qc)); exact HO446.out) hb); have n2_ := Aside0.mk (Kd.R_below (by (with_reducible repeat (first | apply qa | apply qb | apply qc)); exact HO450.out) hb); have n3_ := Aside0.mk (Kd.R_below (by (with_reducible repeat (first | apply qa | apply qb | apply qc)); exact HO453.out) hb); have n4_ := Aside0.mk (blk_below (g := gb438) (o := .cells #[.int .i64 a0_0, .slice A0_1 l0_1.length c0_1, .slice A0_2 l0_2.length c0_2] 25 (0, 0)) (by (with_reducible repeat (first | refine qe ?_ _ | refine qf ?_ | refine qd ?_ _)); exact BK438.out) hb); have n5_ := Aside0.mk (below_step (by repeat (first | (with_reducible first | exact HB.out | apply below_alloc | apply pw_below_drewN | apply below_drew1 | refine below_set ?_ GE438.out) | exact HB.out)) hb); have n6_ := Aside0.mk (hbox); have n7_ := Aside0.mk ((by rw [hg]; exact (below_size (by repeat (first | (with_reducible first | exact HB.out | apply below_alloc | apply pw_below_drewN | apply below_drew1 | refine below_set ?_ GE438.out) | exact HB.out))) : w.heap.size ≤ gb456)); have n8_ := Aside0.mk ((by rw [hg]; exact (below_size (by repeat (first | (with_reducible first | exact HB.out | apply below_alloc | apply pw_below_drewN | apply below_drew1 | refine below_set ?_ GE438.out) | exact HB.out))) : w.heap.size ≤ gb456)); have n9_ := Aside0.mk ((by rw [hg]; exact Nat.ne_of_lt (blk_lt (g := gb438) (o := .cells #[.int .i64 a0_0, .slice A0_1 l0_1.length c0_1, .slice A0_2 l0_2.length c0_2] 25 (0, 0)) (by (with_reducible repeat (first | refine qe ?_ _ | refine qf ?_ | refine qd ?_ _)); exact BK438.out)) : gb438 ≠ gb456)); have n10_ := Aside0.mk ((by rw [hg]; exact Nat.ne_of_gt (blk_lt (g := gb438) (o := .cells #[.int .i64 a0_0, .slice A0_1 l0_1.length c0_1, .slice A0_2 l0_2.length c0_2] 25 (0, 0)) (by (with_reducible repeat (first | refine qe ?_ _ | refine qf ?_ | refine qd ?_ _)); exact BK438.out)) : gb456 ≠ gb438)); clear HO443; clear HO446; clear HO450; clear HO453; clear BK438; clear HB; have HO443 := n0_; have HO446 := n1_; have HO450 := n2_; have HO453 := n3_; have BK438 := n4_; have HB := n5_; have BK456 := n6_; have GW456 := n7_; have GE456 := n8_; have NB438_456 := n9_; have NB456_438 := n10_; clear n0_ n1_ n2_ n3_ n4_ n5_ n6_ n7_ n8_ n9_ n10_; clear hb hbox hg; have hnb21 := NB456_438.out; have hnc21 := NB438_456.out; have hcz22_0 : w20.cell? ⟨gb456, 0, none⟩ = some (.int .i64 0) := (blk_cell BK456.out 0).trans rfl; have hcz22_1 : w20.cell? ⟨gb456, 1, none⟩ = some (.slice none 0 0) := (blk_cell BK456.out 1).trans rfl; have hcz22_2 : w20.cell? ⟨gb456, 2, none⟩ = some (.slice none 0 0) := (blk_cell BK456.out 2).trans rfl; have hfz22_0 := blk_frozen BK456.out 0; have hfz22_1 := blk_frozen BK456.out 1; have hfz22_2 := blk_frozen BK456.out 2; obtain ⟨Ao23, co23, eo23⟩ := Kd.R_slice HO450.out; subst eo23; obtain ⟨Ao24, co24, eo24⟩ := Kd.R_slice HO453.out; subst eo24; have hcz25_0 : w20.cell? ⟨gb438, 0, none⟩ = some (.int .i64 a0_0) := (blk_cell BK438.out 0).trans rfl; have hcz25_1 : w20.cell? ⟨gb438, 1, none⟩ = some (.slice A0_1 l0_1.length c0_1) := (blk_cell BK438.out 1).trans rfl; have hcz25_2 : w20.cell? ⟨gb438, 2, none⟩ = some (.slice A0_2 l0_2.length c0_2) := (blk_cell BK438.out 2).trans rfl; have hfz25_0 := blk_frozen BK438.out 0; have hfz25_1 := blk_frozen BK438.out 1; have hfz25_2 := blk_frozen BK438.out 2) | ((with_reducible refine gate_callee (f := 15) rfl ?_); refine goesL_ (some 30) rfl rfl Try.func15 (by kernel_rfl) rfl #[.agg #[.int .i64 a0_0, .slice A0_1 l0_1.length c0_1, .slice A0_2 l0_2.length c0_2]] rfl (by (try simp only [List.map_toArray, List.map_cons, List.map_nil]); first | done | rfl | (simp only [List.length_drop, List.length_take]; rfl)) ?_; (with_reducible refine (laws_toLog.calls k a0_0 _ _ l0_1 _ _ l0_2 t457 t458 t461 _ ?side1 ?side2 ?side3 ?side4 A9.out).mono ?_); (case side1 => exact Kd.C_below HR0_1.out (by repeat (first | (with_reducible first | exact HB.out | apply below_alloc | apply pw_below_drewN | apply below_drew1 | refine below_set ?_ GE438.out | refine below_set ?_ GE456.out) | exact HB.out))); (case side2 => exact HC0_1.out); (case side3 => exact Kd.C_below HR0_2.out (by repeat (first | (with_reducible first | exact HB.out | apply below_alloc | apply pw_below_drewN | apply below_drew1 | refine below_set ?_ GE438.out | refine below_set ?_ GE456.out) | exact HB.out))); (case side4 => exact HC0_2.out); rintro e w26 ⟨v459, v462, rfl, ho0, ho1, hb⟩; refine ⟨_, rfl, ?_⟩; have n0_ := Aside0.mk (Kd.R_elder' (by (with_reducible repeat (first | apply qa | apply qb | apply qc)); exact (Kd.R_mono (Kd.R_far (p := ⟨gb456, 2, none⟩) (Kd.R_far (p := ⟨gb456, 1, none⟩) (Kd.R_far (p := ⟨gb456, 0, none⟩) (Kd.R_types HO443.out BK456.out (by decide)) (fun _ hk => hk.2) (.int .i64 t447)) (fun _ hk => hk.2) (.slice Ao23 t448.length co23)) (fun _ hk => hk.2) (.slice Ao24 t451.length co24)) (fun _ h_ => h_.1))) (Kd.R_base ho0) hb); have n1_ := Aside0.mk (Kd.R_elder' (by (with_reducible repeat (first | apply qa | apply qb | apply qc)); exact (Kd.R_mono (Kd.R_far (p := ⟨gb456, 2, none⟩) (Kd.R_far (p := ⟨gb456, 1, none⟩) (Kd.R_far (p := ⟨gb456, 0, none⟩) (Kd.R_types HO446.out BK456.out (by decide)) (fun _ hk => hk.2) (.int .i64 t447)) (fun _ hk => hk.2) (.slice Ao23 t448.length co23)) (fun _ hk => hk.2) (.slice Ao24 t451.length co24)) (fun _ h_ => h_.1))) (Kd.R_base ho1) hb); have n2_ := Aside0.mk (Kd.R_elder' (by (with_reducible repeat (first | apply qa | apply qb | apply qc)); exact (Kd.R_mono (Kd.R_far (p := ⟨gb456, 2, none⟩) (Kd.R_far (p := ⟨gb456, 1, none⟩) (Kd.R_far (p := ⟨gb456, 0, none⟩) (Kd.R_types HO450.out BK456.out (by decide)) (fun _ hk => hk.2) (.int .i64 t447)) (fun _ hk => hk.2) (.slice Ao23 t448.length co23)) (fun _ hk => hk.2) (.slice Ao24 t451.length co24)) (fun _ h_ => h_.1))) (Kd.R_base ho0) hb); have n3_ := Aside0.mk (Kd.R_elder' (by (with_reducible repeat (first | apply qa | apply qb | apply qc)); exact (Kd.R_mono (Kd.R_far (p := ⟨gb456, 2, none⟩) (Kd.R_far (p := ⟨gb456, 1, none⟩) (Kd.R_far (p := ⟨gb456, 0, none⟩) (Kd.R_types HO453.out BK456.out (by decide)) (fun _ hk => hk.2) (.int .i64 t447)) (fun _ hk => hk.2) (.slice Ao23 t448.length co23)) (fun _ hk => hk.2) (.slice Ao24 t451.length co24)) (fun _ h_ => h_.1))) (Kd.R_base ho1) hb); have n4_ := Aside0.mk (Kd.R_lower (Kd.R_new' (Kd.R_new' ho0 (Kd.R_lt (by (with_reducible repeat (first | apply qa | apply qb | apply qc)); exact (Kd.R_mono (Kd.R_far (p := ⟨gb456, 2, none⟩) (Kd.R_far (p := ⟨gb456, 1, none⟩) (Kd.R_far (p := ⟨gb456, 0, none⟩) (Kd.R_types HO443.out BK456.out (by decide)) (fun _ hk => hk.2) (.int .i64 t447)) (fun _ hk => hk.2) (.slice Ao23 t448.length co23)) (fun _ hk => hk.2) (.slice Ao24 t451.length co24)) (fun _ h_ => h_.1))))) (Kd.R_lt (by (with_reducible repeat (first | apply qa | apply qb | apply qc)); exact (Kd.R_mono (Kd.R_far (p := ⟨gb456, 2, none⟩) (Kd.R_far (p := ⟨gb456, 1, none⟩) (Kd.R_far (p := ⟨gb456, 0, none⟩) (Kd.R_types HO450.out BK456.out (by decide)) (fun _ hk => hk.2) (.int .i64 t447)) (fun _ hk => hk.2) (.slice Ao23 t448.length co23)) (fun _ hk => hk.2) (.slice Ao24 t451.length co24)) (fun _ h_ => h_.1))))) (below_size (by repeat (first | (with_reducible first | exact HB.out | apply below_alloc | apply pw_below_drewN | apply below_drew1 | refine below_set ?_ GE438.out | refine below_set ?_ GE456.out) | exact HB.out)))); have n5_ := Aside0.mk (Kd.R_lower (Kd.R_new' (Kd.R_new' ho1 (Kd.R_lt (by (with_reducible repeat (first | apply qa | apply qb | apply qc)); exact (Kd.R_mono (Kd.R_far (p := ⟨gb456, 2, none⟩) (Kd.R_far (p := ⟨gb456, 1, none⟩) (Kd.R_far (p := ⟨gb456, 0, none⟩) (Kd.R_types HO446.out BK456.out (by decide)) (fun _ hk => hk.2) (.int .i64 t447)) (fun _ hk => hk.2) (.slice Ao23 t448.length co23)) (fun _ hk => hk.2) (.slice Ao24 t451.length co24)) (fun _ h_ => h_.1))))) (Kd.R_lt (by (with_reducible repeat (first | apply qa | apply qb | apply qc)); exact (Kd.R_mono (Kd.R_far (p := ⟨gb456, 2, none⟩) (Kd.R_far (p := ⟨gb456, 1, none⟩) (Kd.R_far (p := ⟨gb456, 0, none⟩) (Kd.R_types HO453.out BK456.out (by decide)) (fun _ hk => hk.2) (.int .i64 t447)) (fun _ hk => hk.2) (.slice Ao23 t448.length co23)) (fun _ hk => hk.2) (.slice Ao24 t451.length co24)) (fun _ h_ => h_.1))))) (below_size (by repeat (first | (with_reducible first | exact HB.out | apply below_alloc | apply pw_below_drewN | apply below_drew1 | refine below_set ?_ GE438.out | refine below_set ?_ GE456.out) | exact HB.out)))); have n6_ := Aside0.mk (blk_below (g := gb438) (o := .cells #[.int .i64 a0_0, .slice A0_1 l0_1.length c0_1, .slice A0_2 l0_2.length c0_2] 25 (0, 0)) (by (with_reducible repeat (first | refine qe ?_ _ | refine qf ?_ | refine qd ?_ _)); refine blk_far ?_ NB438_456.out _; (with_reducible repeat (first | refine qe ?_ _ | refine qf ?_ | refine qd ?_ _)); refine blk_far ?_ NB438_456.out _; (with_reducible repeat (first | refine qe ?_ _ | refine qf ?_ | refine qd ?_ _)); refine blk_far ?_ NB438_456.out _; (with_reducible repeat (first | refine qe ?_ _ | refine qf ?_ | refine qd ?_ _)); exact BK438.out) hb); have n7_ := Aside0.mk (blk_below (g := gb456) (o := .cells #[.int .i64 t447, .slice Ao23 t448.length co23, .slice Ao24 t451.length co24] 31 (0, 0)) (by (with_reducible repeat (first | refine qe ?_ _ | refine qf ?_ | refine qd ?_ _)); refine blk_put (cs := #[.int .i64 t447, .slice Ao23 t448.length co23, .slice none 0 0]) ?_ 2 _ rfl; (with_reducible repeat (first | refine qe ?_ _ | refine qf ?_ | refine qd ?_ _)); refine blk_put (cs := #[.int .i64 t447, .slice none 0 0, .slice none 0 0]) ?_ 1 _ rfl; (with_reducible repeat (first | refine qe ?_ _ | refine qf ?_ | refine qd ?_ _)); refine blk_put (cs := #[.int .i64 0, .slice none 0 0, .slice none 0 0]) ?_ 0 _ rfl; (with_reducible repeat (first | refine qe ?_ _ | refine qf ?_ | refine qd ?_ _)); exact BK456.out) hb); have n8_ := Aside0.mk (below_step (by repeat (first | (with_reducible first | exact HB.out | apply below_alloc | apply pw_below_drewN | apply below_drew1 | refine below_set ?_ GE438.out | refine below_set ?_ GE456.out) | exact HB.out)) hb); clear HO443; clear HO446; clear HO450; clear HO453; clear BK438; clear BK456; clear HB; have HO443 := n0_; have HO446 := n1_; have HO450 := n2_; have HO453 := n3_; have HO460 := n4_; have HO463 := n5_; have BK438 := n6_; have BK456 := n7_; have HB := n8_; clear n0_ n1_ n2_ n3_ n4_ n5_ n6_ n7_ n8_; (try clear hb); (try clear hb2); (try clear hk); (try clear hi); (try clear ho0); (try clear ho1)) | ((with_reducible refine gate_dst (N := 7) rfl ?_); refine box_event ?hg (N := 7) ?hd (cs := #[.int .i64 0, .slice none 0 0, .slice none 0 0]) (t := 31) ?hr ?_; (case hd => rfl); (case hg => rfl); (case hr => first | (go_simp; done) | (go_simp; rfl)); intro gb464 hg w27 hbox hb; have n0_ := Aside0.mk (Kd.R_below (by (with_reducible repeat (first | apply qa | apply qb | apply qc)); exact HO443.out) hb); have n1_ := Aside0.mk (Kd.R_below (by (with_reducible repeat (first | apply qa | apply qb | apply qc)); exact HO446.out) hb); have n2_ := Aside0.mk (Kd.R_below (by (with_reducible repeat (first | apply qa | apply qb | apply qc)); exact HO450.out) hb); have n3_ := Aside0.mk (Kd.R_below (by (with_reducible repeat (first | apply qa | apply qb | apply qc)); exact HO453.out) hb); have n4_ := Aside0.mk (Kd.R_below (by (with_reducible repeat (first | apply qa | apply qb | apply qc)); exact HO460.out) hb); have n5_ := Aside0.mk (Kd.R_below (by (with_reducible repeat (first | apply qa | apply qb | apply qc)); exact HO463.out) hb); have n6_ := Aside0.mk (blk_below (g := gb438) (o := .cells #[.int .i64 a0_0, .slice A0_1 l0_1.length c0_1, .slice A0_2 l0_2.length c0_2] 25 (0, 0)) (by (with_reducible repeat (first | refine qe ?_ _ | refine qf ?_ | refine qd ?_ _)); exact BK438.out) hb); have n7_ := Aside0.mk (blk_below (g := gb456) (o := .cells #[.int .i64 t447, .slice Ao23 t448.length co23, .slice Ao24 t451.length co24] 31 (0, 0)) (by (with_reducible repeat (first | refine qe ?_ _ | refine qf ?_ | refine qd ?_ _)); exact BK456.out) hb); have n8_ := Aside0.mk (below_step (by repeat (first | (with_reducible first | exact HB.out | apply below_alloc | apply pw_below_drewN | apply below_drew1 | refine below_set ?_ GE438.out | refine below_set ?_ GE456.out) | exact HB.out)) hb); have n9_ := Aside0.mk (hbox); have n10_ := Aside0.mk ((by rw [hg]; exact (below_size (by repeat (first | (with_reducible first | exact HB.out | apply below_alloc | apply pw_below_drewN | apply below_drew1 | refine below_set ?_ GE438.out | refine below_set ?_ GE456.out) | exact HB.out))) : w.heap.size ≤ gb464)); have n11_ := Aside0.mk ((by rw [hg]; exact (below_size (by repeat (first | (with_reducible first | exact HB.out | apply below_alloc | apply pw_below_drewN | apply below_drew1 | refine below_set ?_ GE438.out | refine below_set ?_ GE456.out) | exact HB.out))) : w.heap.size ≤ gb464)); have n12_ := Aside0.mk ((by rw [hg]; exact Nat.ne_of_lt (blk_lt (g := gb438) (o := .cells #[.int .i64 a0_0, .slice A0_1 l0_1.length c0_1, .slice A0_2 l0_2.length c0_2] 25 (0, 0)) (by (with_reducible repeat (first | refine qe ?_ _ | refine qf ?_ | refine qd ?_ _)); exact BK438.out)) : gb438 ≠ gb464)); have n13_ := Aside0.mk ((by rw [hg]; exact Nat.ne_of_gt (blk_lt (g := gb438) (o := .cells #[.int .i64 a0_0, .slice A0_1 l0_1.length c0_1, .slice A0_2 l0_2.length c0_2] 25 (0, 0)) (by (with_reducible repeat (first | refine qe ?_ _ | refine qf ?_ | refine qd ?_ _)); exact BK438.out)) : gb464 ≠ gb438)); have n14_ := Aside0.mk ((by rw [hg]; exact Nat.ne_of_lt (blk_lt (g := gb456) (o := .cells #[.int .i64 t447, .slice Ao23 t448.length co23, .slice Ao24 t451.length co24] 31 (0, 0)) (by (with_reducible repeat (first | refine qe ?_ _ | refine qf ?_ | refine qd ?_ _)); exact BK456.out)) : gb456 ≠ gb464)); have n15_ := Aside0.mk ((by rw [hg]; exact Nat.ne_of_gt (blk_lt (g := gb456) (o := .cells #[.int .i64 t447, .slice Ao23 t448.length co23, .slice Ao24 t451.length co24] 31 (0, 0)) (by (with_reducible repeat (first | refine qe ?_ _ | refine qf ?_ | refine qd ?_ _)); exact BK456.out)) : gb464 ≠ gb456)); clear HO443; clear HO446; clear HO450; clear HO453; clear HO460; clear HO463; clear BK438; clear BK456; clear HB; have HO443 := n0_; have HO446 := n1_; have HO450 := n2_; have HO453 := n3_; have HO460 := n4_; have HO463 := n5_; have BK438 := n6_; have BK456 := n7_; have HB := n8_; have BK464 := n9_; have GW464 := n10_; have GE464 := n11_; have NB438_464 := n12_; have NB464_438 := n13_; have NB456_464 := n14_; have NB464_456 := n15_; clear n0_ n1_ n2_ n3_ n4_ n5_ n6_ n7_ n8_ n9_ n10_ n11_ n12_ n13_ n14_ n15_; clear hb hbox hg; have hnb28 := NB464_438.out; have hnc28 := NB438_464.out; have hnb29 := NB464_456.out; have hnc29 := NB456_464.out; have hcz30_0 : w27.cell? ⟨gb464, 0, none⟩ = some (.int .i64 0) := (blk_cell BK464.out 0).trans rfl; have hcz30_1 : w27.cell? ⟨gb464, 1, none⟩ = some (.slice none 0 0) := (blk_cell BK464.out 1).trans rfl; have hcz30_2 : w27.cell? ⟨gb464, 2, none⟩ = some (.slice none 0 0) := (blk_cell BK464.out 2).trans rfl; have hfz30_0 := blk_frozen BK464.out 0; have hfz30_1 := blk_frozen BK464.out 1; have hfz30_2 := blk_frozen BK464.out 2; obtain ⟨Ao31, co31, eo31⟩ := Kd.R_slice HO460.out; subst eo31; obtain ⟨Ao32, co32, eo32⟩ := Kd.R_slice HO463.out; subst eo32) | ((with_reducible refine gate_callee (f := 29) rfl ?_); refine goesL_ (some 33) rfl rfl Try.func29 (by kernel_rfl) rfl #[.agg #[.int .i64 t457, .slice Ao31 t458.length co31, .slice Ao32 t461.length co32]] rfl (by (try simp only [List.map_toArray, List.map_cons, List.map_nil]); first | done | rfl | (simp only [List.length_drop, List.length_take]; rfl)) ?_; (with_reducible refine (impl_RepairCounts.calls k t457 _ _ t458 _ _ t461 t465 t466 t469 t472 t473 _ ?side1 ?side2 ?side3 ?side4 A10.out).mono ?_); (case side1 => refine (Kd.R_reads' (e := 42) (base := w.heap.size) (ok := fun k_ => ((True ∧ some k_ ≠ (.slice Ao17 t441.length co17 : Value).ownBlock) ∧ some k_ ≠ (.slice Ao23 t448.length co23 : Value).ownBlock)) (n := t458.length) (c := co31) ?_).2.2; exact (by (with_reducible repeat (first | apply qa | apply qb | apply qc)); exact (Kd.R_mono (Kd.R_far (p := ⟨gb464, 2, none⟩) (Kd.R_far (p := ⟨gb464, 1, none⟩) (Kd.R_far (p := ⟨gb464, 0, none⟩) (Kd.R_types HO460.out BK464.out (by decide)) (fun _ hk => hk.2) (.int .i64 t457)) (fun _ hk => hk.2) (.slice Ao31 t458.length co31)) (fun _ hk => hk.2) (.slice Ao32 t461.length co32)) (fun _ h_ => h_.1)))); (case side2 => exact (Kd.R_reads' HO460.out).2.1); (case side3 => refine (Kd.R_reads' (e := 71) (base := w.heap.size) (ok := fun k_ => ((True ∧ some k_ ≠ (.slice Ao18 t444.length co18 : Value).ownBlock) ∧ some k_ ≠ (.slice Ao24 t451.length co24 : Value).ownBlock)) (n := t461.length) (c := co32) ?_).2.2; exact (by (with_reducible repeat (first | apply qa | apply qb | apply qc)); exact (Kd.R_mono (Kd.R_far (p := ⟨gb464, 2, none⟩) (Kd.R_far (p := ⟨gb464, 1, none⟩) (Kd.R_far (p := ⟨gb464, 0, none⟩) (Kd.R_types HO463.out BK464.out (by decide)) (fun _ hk => hk.2) (.int .i64 t457)) (fun _ hk => hk.2) (.slice Ao31 t458.length co31)) (fun _ hk => hk.2) (.slice Ao32 t461.length co32)) (fun _ h_ => h_.1)))); (case side4 => exact (Kd.R_reads' HO463.out).2.1); rintro e w33 ⟨v467, v470, rfl, ho0, ho1, hb⟩; refine ⟨_, rfl, ?_⟩; have n0_ := Aside0.mk (Kd.R_elder' (by (with_reducible repeat (first | apply qa | apply qb | apply qc)); exact (Kd.R_mono (Kd.R_far (p := ⟨gb464, 2, none⟩) (Kd.R_far (p := ⟨gb464, 1, none⟩) (Kd.R_far (p := ⟨gb464, 0, none⟩) (Kd.R_types HO443.out BK464.out (by decide)) (fun _ hk => hk.2) (.int .i64 t457)) (fun _ hk => hk.2) (.slice Ao31 t458.length co31)) (fun _ hk => hk.2) (.slice Ao32 t461.length co32)) (fun _ h_ => h_.1))) (Kd.R_base ho0) hb); have n1_ := Aside0.mk (Kd.R_elder' (by (with_reducible repeat (first | apply qa | apply qb | apply qc)); exact (Kd.R_mono (Kd.R_far (p := ⟨gb464, 2, none⟩) (Kd.R_far (p := ⟨gb464, 1, none⟩) (Kd.R_far (p := ⟨gb464, 0, none⟩) (Kd.R_types HO446.out BK464.out (by decide)) (fun _ hk => hk.2) (.int .i64 t457)) (fun _ hk => hk.2) (.slice Ao31 t458.length co31)) (fun _ hk => hk.2) (.slice Ao32 t461.length co32)) (fun _ h_ => h_.1))) (Kd.R_base ho1) hb); have n2_ := Aside0.mk (Kd.R_elder' (by (with_reducible repeat (first | apply qa | apply qb | apply qc)); exact (Kd.R_mono (Kd.R_far (p := ⟨gb464, 2, none⟩) (Kd.R_far (p := ⟨gb464, 1, none⟩) (Kd.R_far (p := ⟨gb464, 0, none⟩) (Kd.R_types HO450.out BK464.out (by decide)) (fun _ hk => hk.2) (.int .i64 t457)) (fun _ hk => hk.2) (.slice Ao31 t458.length co31)) (fun _ hk => hk.2) (.slice Ao32 t461.length co32)) (fun _ h_ => h_.1))) (Kd.R_base ho0) hb); have n3_ := Aside0.mk (Kd.R_elder' (by (with_reducible repeat (first | apply qa | apply qb | apply qc)); exact (Kd.R_mono (Kd.R_far (p := ⟨gb464, 2, none⟩) (Kd.R_far (p := ⟨gb464, 1, none⟩) (Kd.R_far (p := ⟨gb464, 0, none⟩) (Kd.R_types HO453.out BK464.out (by decide)) (fun _ hk => hk.2) (.int .i64 t457)) (fun _ hk => hk.2) (.slice Ao31 t458.length co31)) (fun _ hk => hk.2) (.slice Ao32 t461.length co32)) (fun _ h_ => h_.1))) (Kd.R_base ho1) hb); have n4_ := Aside0.mk (Kd.R_elder' (by (with_reducible repeat (first | apply qa | apply qb | apply qc)); exact (Kd.R_mono (Kd.R_far (p := ⟨gb464, 2, none⟩) (Kd.R_far (p := ⟨gb464, 1, none⟩) (Kd.R_far (p := ⟨gb464, 0, none⟩) (Kd.R_types HO460.out BK464.out (by decide)) (fun _ hk => hk.2) (.int .i64 t457)) (fun _ hk => hk.2) (.slice Ao31 t458.length co31)) (fun _ hk => hk.2) (.slice Ao32 t461.length co32)) (fun _ h_ => h_.1))) (Kd.R_base ho0) hb); have n5_ := Aside0.mk (Kd.R_elder' (by (with_reducible repeat (first | apply qa | apply qb | apply qc)); exact (Kd.R_mono (Kd.R_far (p := ⟨gb464, 2, none⟩) (Kd.R_far (p := ⟨gb464, 1, none⟩) (Kd.R_far (p := ⟨gb464, 0, none⟩) (Kd.R_types HO463.out BK464.out (by decide)) (fun _ hk => hk.2) (.int .i64 t457)) (fun _ hk => hk.2) (.slice Ao31 t458.length co31)) (fun _ hk => hk.2) (.slice Ao32 t461.length co32)) (fun _ h_ => h_.1))) (Kd.R_base ho1) hb); have n6_ := Aside0.mk (Kd.R_lower (Kd.R_new' (Kd.R_new' (Kd.R_new' ho0 (Kd.R_lt (by (with_reducible repeat (first | apply qa | apply qb | apply qc)); exact (Kd.R_mono (Kd.R_far (p := ⟨gb464, 2, none⟩) (Kd.R_far (p := ⟨gb464, 1, none⟩) (Kd.R_far (p := ⟨gb464, 0, none⟩) (Kd.R_types HO443.out BK464.out (by decide)) (fun _ hk => hk.2) (.int .i64 t457)) (fun _ hk => hk.2) (.slice Ao31 t458.length co31)) (fun _ hk => hk.2) (.slice Ao32 t461.length co32)) (fun _ h_ => h_.1))))) (Kd.R_lt (by (with_reducible repeat (first | apply qa | apply qb | apply qc)); exact (Kd.R_mono (Kd.R_far (p := ⟨gb464, 2, none⟩) (Kd.R_far (p := ⟨gb464, 1, none⟩) (Kd.R_far (p := ⟨gb464, 0, none⟩) (Kd.R_types HO450.out BK464.out (by decide)) (fun _ hk => hk.2) (.int .i64 t457)) (fun _ hk => hk.2) (.slice Ao31 t458.length co31)) (fun _ hk => hk.2) (.slice Ao32 t461.length co32)) (fun _ h_ => h_.1))))) (Kd.R_lt (by (with_reducible repeat (first | apply qa | apply qb | apply qc)); exact (Kd.R_mono (Kd.R_far (p := ⟨gb464, 2, none⟩) (Kd.R_far (p := ⟨gb464, 1, none⟩) (Kd.R_far (p := ⟨gb464, 0, none⟩) (Kd.R_types HO460.out BK464.out (by decide)) (fun _ hk => hk.2) (.int .i64 t457)) (fun _ hk => hk.2) (.slice Ao31 t458.length co31)) (fun _ hk => hk.2) (.slice Ao32 t461.length co32)) (fun _ h_ => h_.1))))) (below_size (by repeat (first | (with_reducible first | exact HB.out | apply below_alloc | apply pw_below_drewN | apply below_drew1 | refine below_set ?_ GE438.out | refine below_set ?_ GE456.out | refine below_set ?_ GE464.out) | exact HB.out)))); have n7_ := Aside0.mk (Kd.R_lower (Kd.R_new' (Kd.R_new' (Kd.R_new' ho1 (Kd.R_lt (by (with_reducible repeat (first | apply qa | apply qb | apply qc)); exact (Kd.R_mono (Kd.R_far (p := ⟨gb464, 2, none⟩) (Kd.R_far (p := ⟨gb464, 1, none⟩) (Kd.R_far (p := ⟨gb464, 0, none⟩) (Kd.R_types HO446.out BK464.out (by decide)) (fun _ hk => hk.2) (.int .i64 t457)) (fun _ hk => hk.2) (.slice Ao31 t458.length co31)) (fun _ hk => hk.2) (.slice Ao32 t461.length co32)) (fun _ h_ => h_.1))))) (Kd.R_lt (by (with_reducible repeat (first | apply qa | apply qb | apply qc)); exact (Kd.R_mono (Kd.R_far (p := ⟨gb464, 2, none⟩) (Kd.R_far (p := ⟨gb464, 1, none⟩) (Kd.R_far (p := ⟨gb464, 0, none⟩) (Kd.R_types HO453.out BK464.out (by decide)) (fun _ hk => hk.2) (.int .i64 t457)) (fun _ hk => hk.2) (.slice Ao31 t458.length co31)) (fun _ hk => hk.2) (.slice Ao32 t461.length co32)) (fun _ h_ => h_.1))))) (Kd.R_lt (by (with_reducible repeat (first | apply qa | apply qb | apply qc)); exact (Kd.R_mono (Kd.R_far (p := ⟨gb464, 2, none⟩) (Kd.R_far (p := ⟨gb464, 1, none⟩) (Kd.R_far (p := ⟨gb464, 0, none⟩) (Kd.R_types HO463.out BK464.out (by decide)) (fun _ hk => hk.2) (.int .i64 t457)) (fun _ hk => hk.2) (.slice Ao31 t458.length co31)) (fun _ hk => hk.2) (.slice Ao32 t461.length co32)) (fun _ h_ => h_.1))))) (below_size (by repeat (first | (with_reducible first | exact HB.out | apply below_alloc | apply pw_below_drewN | apply below_drew1 | refine below_set ?_ GE438.out | refine below_set ?_ GE456.out | refine below_set ?_ GE464.out) | exact HB.out)))); have n8_ := Aside0.mk (blk_below (g := gb438) (o := .cells #[.int .i64 a0_0, .slice A0_1 l0_1.length c0_1, .slice A0_2 l0_2.length c0_2] 25 (0, 0)) (by (with_reducible repeat (first | refine qe ?_ _ | refine qf ?_ | refine qd ?_ _)); refine blk_far ?_ NB438_464.out _; (with_reducible repeat (first | refine qe ?_ _ | refine qf ?_ | refine qd ?_ _)); refine blk_far ?_ NB438_464.out _; (with_reducible repeat (first | refine qe ?_ _ | refine qf ?_ | refine qd ?_ _)); refine blk_far ?_ NB438_464.out _; (with_reducible repeat (first | refine qe ?_ _ | refine qf ?_ | refine qd ?_ _)); exact BK438.out) hb); have n9_ := Aside0.mk (blk_below (g := gb456) (o := .cells #[.int .i64 t447, .slice Ao23 t448.length co23, .slice Ao24 t451.length co24] 31 (0, 0)) (by (with_reducible repeat (first | refine qe ?_ _ | refine qf ?_ | refine qd ?_ _)); refine blk_far ?_ NB456_464.out _; (with_reducible repeat (first | refine qe ?_ _ | refine qf ?_ | refine qd ?_ _)); refine blk_far ?_ NB456_464.out _; (with_reducible repeat (first | refine qe ?_ _ | refine qf ?_ | refine qd ?_ _)); refine blk_far ?_ NB456_464.out _; (with_reducible repeat (first | refine qe ?_ _ | refine qf ?_ | refine qd ?_ _)); exact BK456.out) hb); have n10_ := Aside0.mk (blk_below (g := gb464) (o := .cells #[.int .i64 t457, .slice Ao31 t458.length co31, .slice Ao32 t461.length co32] 31 (0, 0)) (by (with_reducible repeat (first | refine qe ?_ _ | refine qf ?_ | refine qd ?_ _)); refine blk_put (cs := #[.int .i64 t457, .slice Ao31 t458.length co31, .slice none 0 0]) ?_ 2 _ rfl; (with_reducible repeat (first | refine qe ?_ _ | refine qf ?_ | refine qd ?_ _)); refine blk_put (cs := #[.int .i64 t457, .slice none 0 0, .slice none 0 0]) ?_ 1 _ rfl; (with_reducible repeat (first | refine qe ?_ _ | refine qf ?_ | refine qd ?_ _)); refine blk_put (cs := #[.int .i64 0, .slice none 0 0, .slice none 0 0]) ?_ 0 _ rfl; (with_reducible repeat (first | refine qe ?_ _ | refine qf ?_ | refine qd ?_ _)); exact BK464.out) hb); have n11_ := Aside0.mk (below_step (by repeat (first | (with_reducible first | exact HB.out | apply below_alloc | apply pw_below_drewN | apply below_drew1 | refine below_set ?_ GE438.out | refine below_set ?_ GE456.out | refine below_set ?_ GE464.out) | exact HB.out)) hb); clear HO443; clear HO446; clear HO450; clear HO453; clear HO460; clear HO463; clear BK438; clear BK456; clear BK464; clear HB; have HO443 := n0_; have HO446 := n1_; have HO450 := n2_; have HO453 := n3_; have HO460 := n4_; have HO463 := n5_; have HO468 := n6_; have HO471 := n7_; have BK438 := n8_; have BK456 := n9_; have BK464 := n10_; have HB := n11_; clear n0_ n1_ n2_ n3_ n4_ n5_ n6_ n7_ n8_ n9_ n10_ n11_; (try clear hb); (try clear hb2); (try clear hk); (try clear hi); (try clear ho0); (try clear ho1)) | ((with_reducible refine gate_dst (N := 8) rfl ?_); refine box_event ?hg (N := 8) ?hd (cs := #[.int .i64 0, .slice none 0 0, .slice none 0 0]) (t := 31) ?hr ?_; (case hd => rfl); (case hg => rfl); (case hr => first | (go_simp; done) | (go_simp; rfl)); intro gb474 hg w34 hbox hb; have n0_ := Aside0.mk (Kd.R_below (by (with_reducible repeat (first | apply qa | apply qb | apply qc)); exact HO443.out) hb); have n1_ := Aside0.mk (Kd.R_below (by (with_reducible repeat (first | apply qa | apply qb | apply qc)); exact HO446.out) hb); have n2_ := Aside0.mk (Kd.R_below (by (with_reducible repeat (first | apply qa | apply qb | apply qc)); exact HO450.out) hb); have n3_ := Aside0.mk (Kd.R_below (by (with_reducible repeat (first | apply qa | apply qb | apply qc)); exact HO453.out) hb); have n4_ := Aside0.mk (Kd.R_below (by (with_reducible repeat (first | apply qa | apply qb | apply qc)); exact HO460.out) hb); have n5_ := Aside0.mk (Kd.R_below (by (with_reducible repeat (first | apply qa | apply qb | apply qc)); exact HO463.out) hb); have n6_ := Aside0.mk (Kd.R_below (by (with_reducible repeat (first | apply qa | apply qb | apply qc)); exact HO468.out) hb); have n7_ := Aside0.mk (Kd.R_below (by (with_reducible repeat (first | apply qa | apply qb | apply qc)); exact HO471.out) hb); have n8_ := Aside0.mk (blk_below (g := gb438) (o := .cells #[.int .i64 a0_0, .slice A0_1 l0_1.length c0_1, .slice A0_2 l0_2.length c0_2] 25 (0, 0)) (by (with_reducible repeat (first | refine qe ?_ _ | refine qf ?_ | refine qd ?_ _)); exact BK438.out) hb); have n9_ := Aside0.mk (blk_below (g := gb456) (o := .cells #[.int .i64 t447, .slice Ao23 t448.length co23, .slice Ao24 t451.length co24] 31 (0, 0)) (by (with_reducible repeat (first | refine qe ?_ _ | refine qf ?_ | refine qd ?_ _)); exact BK456.out) hb); have n10_ := Aside0.mk (blk_below (g := gb464) (o := .cells #[.int .i64 t457, .slice Ao31 t458.length co31, .slice Ao32 t461.length co32] 31 (0, 0)) (by (with_reducible repeat (first | refine qe ?_ _ | refine qf ?_ | refine qd ?_ _)); exact BK464.out) hb); have n11_ := Aside0.mk (below_step (by repeat (first | (with_reducible first | exact HB.out | apply below_alloc | apply pw_below_drewN | apply below_drew1 | refine below_set ?_ GE438.out | refine below_set ?_ GE456.out | refine below_set ?_ GE464.out) | exact HB.out)) hb); have n12_ := Aside0.mk (hbox); have n13_ := Aside0.mk ((by rw [hg]; exact (below_size (by repeat (first | (with_reducible first | exact HB.out | apply below_alloc | apply pw_below_drewN | apply below_drew1 | refine below_set ?_ GE438.out | refine below_set ?_ GE456.out | refine below_set ?_ GE464.out) | exact HB.out))) : w.heap.size ≤ gb474)); have n14_ := Aside0.mk ((by rw [hg]; exact (below_size (by repeat (first | (with_reducible first | exact HB.out | apply below_alloc | apply pw_below_drewN | apply below_drew1 | refine below_set ?_ GE438.out | refine below_set ?_ GE456.out | refine below_set ?_ GE464.out) | exact HB.out))) : w.heap.size ≤ gb474)); have n15_ := Aside0.mk ((by rw [hg]; exact Nat.ne_of_lt (blk_lt (g := gb438) (o := .cells #[.int .i64 a0_0, .slice A0_1 l0_1.length c0_1, .slice A0_2 l0_2.length c0_2] 25 (0, 0)) (by (with_reducible repeat (first | refine qe ?_ _ | refine qf ?_ | refine qd ?_ _)); exact BK438.out)) : gb438 ≠ gb474)); have n16_ := Aside0.mk ((by rw [hg]; exact Nat.ne_of_gt (blk_lt (g := gb438) (o := .cells #[.int .i64 a0_0, .slice A0_1 l0_1.length c0_1, .slice A0_2 l0_2.length c0_2] 25 (0, 0)) (by (with_reducible repeat (first | refine qe ?_ _ | refine qf ?_ | refine qd ?_ _)); exact BK438.out)) : gb474 ≠ gb438)); have n17_ := Aside0.mk ((by rw [hg]; exact Nat.ne_of_lt (blk_lt (g := gb456) (o := .cells #[.int .i64 t447, .slice Ao23 t448.length co23, .slice Ao24 t451.length co24] 31 (0, 0)) (by (with_reducible repeat (first | refine qe ?_ _ | refine qf ?_ | refine qd ?_ _)); exact BK456.out)) : gb456 ≠ gb474)); have n18_ := Aside0.mk ((by rw [hg]; exact Nat.ne_of_gt (blk_lt (g := gb456) (o := .cells #[.int .i64 t447, .slice Ao23 t448.length co23, .slice Ao24 t451.length co24] 31 (0, 0)) (by (with_reducible repeat (first | refine qe ?_ _ | refine qf ?_ | refine qd ?_ _)); exact BK456.out)) : gb474 ≠ gb456)); have n19_ := Aside0.mk ((by rw [hg]; exact Nat.ne_of_lt (blk_lt (g := gb464) (o := .cells #[.int .i64 t457, .slice Ao31 t458.length co31, .slice Ao32 t461.length co32] 31 (0, 0)) (by (with_reducible repeat (first | refine qe ?_ _ | refine qf ?_ | refine qd ?_ _)); exact BK464.out)) : gb464 ≠ gb474)); have n20_ := Aside0.mk ((by rw [hg]; exact Nat.ne_of_gt (blk_lt (g := gb464) (o := .cells #[.int .i64 t457, .slice Ao31 t458.length co31, .slice Ao32 t461.length co32] 31 (0, 0)) (by (with_reducible repeat (first | refine qe ?_ _ | refine qf ?_ | refine qd ?_ _)); exact BK464.out)) : gb474 ≠ gb464)); clear HO443; clear HO446; clear HO450; clear HO453; clear HO460; clear HO463; clear HO468; clear HO471; clear BK438; clear BK456; clear BK464; clear HB; have HO443 := n0_; have HO446 := n1_; have HO450 := n2_; have HO453 := n3_; have HO460 := n4_; have HO463 := n5_; have HO468 := n6_; have HO471 := n7_; have BK438 := n8_; have BK456 := n9_; have BK464 := n10_; have HB := n11_; have BK474 := n12_; have GW474 := n13_; have GE474 := n14_; have NB438_474 := n15_; have NB474_438 := n16_; have NB456_474 := n17_; have NB474_456 := n18_; have NB464_474 := n19_; have NB474_464 := n20_; clear n0_ n1_ n2_ n3_ n4_ n5_ n6_ n7_ n8_ n9_ n10_ n11_ n12_ n13_ n14_ n15_ n16_ n17_ n18_ n19_ n20_; clear hb hbox hg; have hnb35 := NB474_438.out; have hnc35 := NB438_474.out; have hnb36 := NB474_456.out; have hnc36 := NB456_474.out; have hnb37 := NB474_464.out; have hnc37 := NB464_474.out; have hcz38_0 : w34.cell? ⟨gb474, 0, none⟩ = some (.int .i64 0) := (blk_cell BK474.out 0).trans rfl; have hcz38_1 : w34.cell? ⟨gb474, 1, none⟩ = some (.slice none 0 0) := (blk_cell BK474.out 1).trans rfl; have hcz38_2 : w34.cell? ⟨gb474, 2, none⟩ = some (.slice none 0 0) := (blk_cell BK474.out 2).trans rfl; have hfz38_0 := blk_frozen BK474.out 0; have hfz38_1 := blk_frozen BK474.out 1; have hfz38_2 := blk_frozen BK474.out 2; obtain ⟨Ao39, co39, eo39⟩ := Kd.R_slice HO468.out; subst eo39; obtain ⟨Ao40, co40, eo40⟩ := Kd.R_slice HO471.out; subst eo40))
    (try simp only [Act.put, List.setIfInBounds_toArray, List.set_cons_zero, List.set_cons_succ])
    go_cut [50] (fun v50 wc => ∃ (kq : Nat) (x50_10 : Bool), v50 = .bool x50_10 ∧ Aside0 (laws_FnExactRepairCounts.j0 kq t454 t455 t472 t473 x50_10 a0_0 l0_1 l0_2 t447 t448 t451 t457 t458 t461 t465 t466 t469 = some r) ∧ Aside0 (kq ≤ k) ∧ Aside0 (Kd.R (Kd.int .u16) 42 wc w.heap.size (fun k_ => some k_ ≠ ((.slice Ao31 t458.length co31) : Value).ownBlock ∧ some k_ ≠ ((.slice Ao39 t466.length co39) : Value).ownBlock) (.slice Ao23 t448.length co23) t448) ∧ Aside0 (Kd.R (Kd.int .i16) 71 wc w.heap.size (fun k_ => some k_ ≠ ((.slice Ao32 t461.length co32) : Value).ownBlock ∧ some k_ ≠ ((.slice Ao40 t469.length co40) : Value).ownBlock) (.slice Ao24 t451.length co24) t451) ∧ Aside0 (Kd.R (Kd.int .u16) 42 wc w.heap.size (fun k_ => some k_ ≠ ((.slice Ao23 t448.length co23) : Value).ownBlock ∧ some k_ ≠ ((.slice Ao39 t466.length co39) : Value).ownBlock) (.slice Ao31 t458.length co31) t458) ∧ Aside0 (Kd.R (Kd.int .i16) 71 wc w.heap.size (fun k_ => some k_ ≠ ((.slice Ao24 t451.length co24) : Value).ownBlock ∧ some k_ ≠ ((.slice Ao40 t469.length co40) : Value).ownBlock) (.slice Ao32 t461.length co32) t461) ∧ Aside0 (Kd.R (Kd.int .u16) 42 wc w.heap.size (fun k_ => some k_ ≠ ((.slice Ao23 t448.length co23) : Value).ownBlock ∧ some k_ ≠ ((.slice Ao31 t458.length co31) : Value).ownBlock) (.slice Ao39 t466.length co39) t466) ∧ Aside0 (Kd.R (Kd.int .i16) 71 wc w.heap.size (fun k_ => some k_ ≠ ((.slice Ao24 t451.length co24) : Value).ownBlock ∧ some k_ ≠ ((.slice Ao32 t461.length co32) : Value).ownBlock) (.slice Ao40 t469.length co40) t469) ∧ Aside0 (wc.heap[gb438]? = some (.cells #[.int .i64 a0_0, (.slice A0_1 l0_1.length c0_1), (.slice A0_2 l0_2.length c0_2)] 25 (0, 0))) ∧ Aside0 (wc.heap[gb456]? = some (.cells #[.int .i64 t447, (.slice Ao23 t448.length co23), (.slice Ao24 t451.length co24)] 31 (0, 0))) ∧ Aside0 (wc.heap[gb464]? = some (.cells #[.int .i64 t457, (.slice Ao31 t458.length co31), (.slice Ao32 t461.length co32)] 31 (0, 0))) ∧ Aside0 (wc.heap[gb474]? = some (.cells #[.int .i64 t465, (.slice Ao39 t466.length co39), (.slice Ao40 t469.length co40)] 31 (0, 0))) ∧ Aside0 (Below w.heap.size w wc))
    case first =>
      have H := HC11.out
      clear HC11
      replace H := Option.bind_eq_some_iff.mp H
      obtain ⟨t475, A410, H⟩ := H
      replace H : (if t475 = true then (if t472 = t454 then (laws_FnExactRepairCounts.j0 k t454 t455 t472 t473 (t473 != t455) a0_0 l0_1 l0_2 t447 t448 t451 t457 t458 t461 t465 t466 t469) else (laws_FnExactRepairCounts.j0 k t454 t455 t472 t473 true a0_0 l0_1 l0_2 t447 t448 t451 t457 t458 t461 t465 t466 t469)) else (laws_FnExactRepairCounts.j0 k t454 t455 t472 t473 true a0_0 l0_1 l0_2 t447 t448 t451 t457 t458 t461 t465 t466 t469)) = some r := H
      have A41 := Aside0.mk A410
      clear A410
      by_cases c42 : t475 = true
      · subst c42
        have H1 : (if t472 = t454 then (laws_FnExactRepairCounts.j0 k t454 t455 t472 t473 (t473 != t455) a0_0 l0_1 l0_2 t447 t448 t451 t457 t458 t461 t465 t466 t469) else (laws_FnExactRepairCounts.j0 k t454 t455 t472 t473 true a0_0 l0_1 l0_2 t447 t448 t451 t457 t458 t461 t465 t466 t469)) = some r := by rw [if_pos rfl] at H; exact H
        clear H
        have H := H1
        clear H1
        by_cases c43 : t472 = t454
        · rw [if_pos c43] at H
          have c43b0 : (t472 == t454) = true := beq_iff_eq.mpr c43
          have c43b1 : (t472 != t454) = false := bne_eq_false_iff_eq.mpr c43
          clear c43
          (first | rw [c43b0] | (simp only [i64_w, i32_w]; rw [c43b0]) | skip)
          have H' := Aside0.mk H
          clear H
          have hnb44 := NB474_438.out
          have hnc44 := NB438_474.out
          have hnb45 := NB474_456.out
          have hnc45 := NB456_474.out
          have hnb46 := NB474_464.out
          have hnc46 := NB464_474.out
          have hcz47_0 : w34.cell? ⟨gb474, 0, none⟩ = some (.int .i64 0) := (blk_cell BK474.out 0).trans rfl
          have hcz47_1 : w34.cell? ⟨gb474, 1, none⟩ = some (.slice none 0 0) := (blk_cell BK474.out 1).trans rfl
          have hcz47_2 : w34.cell? ⟨gb474, 2, none⟩ = some (.slice none 0 0) := (blk_cell BK474.out 2).trans rfl
          have hfz47_0 := blk_frozen BK474.out 0
          have hfz47_1 := blk_frozen BK474.out 1
          have hfz47_2 := blk_frozen BK474.out 2
          have hnb48 := NB456_438.out
          have hnc48 := NB438_456.out
          have hnb49 := NB456_464.out
          have hnc49 := NB464_456.out
          have hcz50_0 : w34.cell? ⟨gb456, 0, none⟩ = some (.int .i64 t447) := (blk_cell BK456.out 0).trans rfl
          have hcz50_1 : w34.cell? ⟨gb456, 1, none⟩ = some (.slice Ao23 t448.length co23) := (blk_cell BK456.out 1).trans rfl
          have hcz50_2 : w34.cell? ⟨gb456, 2, none⟩ = some (.slice Ao24 t451.length co24) := (blk_cell BK456.out 2).trans rfl
          have hfz50_0 := blk_frozen BK456.out 0
          have hfz50_1 := blk_frozen BK456.out 1
          have hfz50_2 := blk_frozen BK456.out 2
          go_wp2_with (first | ((with_reducible refine gate_callee (f := 17) rfl ?_); refine goesL_ (some 39) rfl rfl Try.func17 (by kernel_rfl) rfl #[.agg #[.int .i64 t465, .slice Ao39 t466.length co39, .slice Ao40 t469.length co40], .agg #[.int .i64 t447, .slice Ao23 t448.length co23, .slice Ao24 t451.length co24]] rfl (by (try simp only [List.map_toArray, List.map_cons, List.map_nil]); first | done | rfl | (simp only [List.length_drop, List.length_take]; rfl)) ?_; (with_reducible refine (laws_eqLog.calls k t465 _ _ t466 _ _ t469 t447 _ _ t448 _ _ t451 true _ ?side1 ?side2 ?side3 ?side4 ?side5 ?side6 ?side7 ?side8 A41.out).mono ?_); (case side1 => refine (Kd.R_reads' (e := 42) (base := w.heap.size) (ok := fun k_ => (((True ∧ some k_ ≠ (.slice Ao17 t441.length co17 : Value).ownBlock) ∧ some k_ ≠ (.slice Ao23 t448.length co23 : Value).ownBlock) ∧ some k_ ≠ (.slice Ao31 t458.length co31 : Value).ownBlock)) (n := t466.length) (c := co39) ?_).2.2; exact (by (with_reducible repeat (first | apply qa | apply qb | apply qc)); exact (Kd.R_mono (Kd.R_far (p := ⟨gb474, 2, none⟩) (Kd.R_far (p := ⟨gb474, 1, none⟩) (Kd.R_far (p := ⟨gb474, 0, none⟩) (Kd.R_types HO468.out BK474.out (by decide)) (fun _ hk => hk.2) (.int .i64 t465)) (fun _ hk => hk.2) (.slice Ao39 t466.length co39)) (fun _ hk => hk.2) (.slice Ao40 t469.length co40)) (fun _ h_ => h_.1)))); (case side2 => exact (Kd.R_reads' HO468.out).2.1); (case side3 => refine (Kd.R_reads' (e := 71) (base := w.heap.size) (ok := fun k_ => (((True ∧ some k_ ≠ (.slice Ao18 t444.length co18 : Value).ownBlock) ∧ some k_ ≠ (.slice Ao24 t451.length co24 : Value).ownBlock) ∧ some k_ ≠ (.slice Ao32 t461.length co32 : Value).ownBlock)) (n := t469.length) (c := co40) ?_).2.2; exact (by (with_reducible repeat (first | apply qa | apply qb | apply qc)); exact (Kd.R_mono (Kd.R_far (p := ⟨gb474, 2, none⟩) (Kd.R_far (p := ⟨gb474, 1, none⟩) (Kd.R_far (p := ⟨gb474, 0, none⟩) (Kd.R_types HO471.out BK474.out (by decide)) (fun _ hk => hk.2) (.int .i64 t465)) (fun _ hk => hk.2) (.slice Ao39 t466.length co39)) (fun _ hk => hk.2) (.slice Ao40 t469.length co40)) (fun _ h_ => h_.1)))); (case side4 => exact (Kd.R_reads' HO471.out).2.1); (case side5 => refine (Kd.R_reads' (e := 42) (base := w.heap.size) (ok := fun k_ => (((True ∧ some k_ ≠ (.slice Ao17 t441.length co17 : Value).ownBlock) ∧ some k_ ≠ (.slice Ao31 t458.length co31 : Value).ownBlock) ∧ some k_ ≠ (.slice Ao39 t466.length co39 : Value).ownBlock)) (n := t448.length) (c := co23) ?_).2.2; exact (by (with_reducible repeat (first | apply qa | apply qb | apply qc)); exact (Kd.R_mono (Kd.R_far (p := ⟨gb474, 2, none⟩) (Kd.R_far (p := ⟨gb474, 1, none⟩) (Kd.R_far (p := ⟨gb474, 0, none⟩) (Kd.R_types HO450.out BK474.out (by decide)) (fun _ hk => hk.2) (.int .i64 t465)) (fun _ hk => hk.2) (.slice Ao39 t466.length co39)) (fun _ hk => hk.2) (.slice Ao40 t469.length co40)) (fun _ h_ => h_.1)))); (case side6 => exact (Kd.R_reads' HO450.out).2.1); (case side7 => refine (Kd.R_reads' (e := 71) (base := w.heap.size) (ok := fun k_ => (((True ∧ some k_ ≠ (.slice Ao18 t444.length co18 : Value).ownBlock) ∧ some k_ ≠ (.slice Ao32 t461.length co32 : Value).ownBlock) ∧ some k_ ≠ (.slice Ao40 t469.length co40 : Value).ownBlock)) (n := t451.length) (c := co24) ?_).2.2; exact (by (with_reducible repeat (first | apply qa | apply qb | apply qc)); exact (Kd.R_mono (Kd.R_far (p := ⟨gb474, 2, none⟩) (Kd.R_far (p := ⟨gb474, 1, none⟩) (Kd.R_far (p := ⟨gb474, 0, none⟩) (Kd.R_types HO453.out BK474.out (by decide)) (fun _ hk => hk.2) (.int .i64 t465)) (fun _ hk => hk.2) (.slice Ao39 t466.length co39)) (fun _ hk => hk.2) (.slice Ao40 t469.length co40)) (fun _ h_ => h_.1)))); (case side8 => exact (Kd.R_reads' HO453.out).2.1); rintro e w51 ⟨rfl, hb⟩; refine ⟨_, rfl, ?_⟩; have n0_ := Aside0.mk (Kd.R_below (by (with_reducible repeat (first | apply qa | apply qb | apply qc)); exact (Kd.R_mono (Kd.R_far (p := ⟨gb474, 2, none⟩) (Kd.R_far (p := ⟨gb474, 1, none⟩) (Kd.R_far (p := ⟨gb474, 0, none⟩) (Kd.R_types HO443.out BK474.out (by decide)) (fun _ hk => hk.2) (.int .i64 t465)) (fun _ hk => hk.2) (.slice Ao39 t466.length co39)) (fun _ hk => hk.2) (.slice Ao40 t469.length co40)) (fun _ h_ => h_.1))) hb); have n1_ := Aside0.mk (Kd.R_below (by (with_reducible repeat (first | apply qa | apply qb | apply qc)); exact (Kd.R_mono (Kd.R_far (p := ⟨gb474, 2, none⟩) (Kd.R_far (p := ⟨gb474, 1, none⟩) (Kd.R_far (p := ⟨gb474, 0, none⟩) (Kd.R_types HO446.out BK474.out (by decide)) (fun _ hk => hk.2) (.int .i64 t465)) (fun _ hk => hk.2) (.slice Ao39 t466.length co39)) (fun _ hk => hk.2) (.slice Ao40 t469.length co40)) (fun _ h_ => h_.1))) hb); have n2_ := Aside0.mk (Kd.R_below (by (with_reducible repeat (first | apply qa | apply qb | apply qc)); exact (Kd.R_mono (Kd.R_far (p := ⟨gb474, 2, none⟩) (Kd.R_far (p := ⟨gb474, 1, none⟩) (Kd.R_far (p := ⟨gb474, 0, none⟩) (Kd.R_types HO450.out BK474.out (by decide)) (fun _ hk => hk.2) (.int .i64 t465)) (fun _ hk => hk.2) (.slice Ao39 t466.length co39)) (fun _ hk => hk.2) (.slice Ao40 t469.length co40)) (fun _ h_ => h_.1))) hb); have n3_ := Aside0.mk (Kd.R_below (by (with_reducible repeat (first | apply qa | apply qb | apply qc)); exact (Kd.R_mono (Kd.R_far (p := ⟨gb474, 2, none⟩) (Kd.R_far (p := ⟨gb474, 1, none⟩) (Kd.R_far (p := ⟨gb474, 0, none⟩) (Kd.R_types HO453.out BK474.out (by decide)) (fun _ hk => hk.2) (.int .i64 t465)) (fun _ hk => hk.2) (.slice Ao39 t466.length co39)) (fun _ hk => hk.2) (.slice Ao40 t469.length co40)) (fun _ h_ => h_.1))) hb); have n4_ := Aside0.mk (Kd.R_below (by (with_reducible repeat (first | apply qa | apply qb | apply qc)); exact (Kd.R_mono (Kd.R_far (p := ⟨gb474, 2, none⟩) (Kd.R_far (p := ⟨gb474, 1, none⟩) (Kd.R_far (p := ⟨gb474, 0, none⟩) (Kd.R_types HO460.out BK474.out (by decide)) (fun _ hk => hk.2) (.int .i64 t465)) (fun _ hk => hk.2) (.slice Ao39 t466.length co39)) (fun _ hk => hk.2) (.slice Ao40 t469.length co40)) (fun _ h_ => h_.1))) hb); have n5_ := Aside0.mk (Kd.R_below (by (with_reducible repeat (first | apply qa | apply qb | apply qc)); exact (Kd.R_mono (Kd.R_far (p := ⟨gb474, 2, none⟩) (Kd.R_far (p := ⟨gb474, 1, none⟩) (Kd.R_far (p := ⟨gb474, 0, none⟩) (Kd.R_types HO463.out BK474.out (by decide)) (fun _ hk => hk.2) (.int .i64 t465)) (fun _ hk => hk.2) (.slice Ao39 t466.length co39)) (fun _ hk => hk.2) (.slice Ao40 t469.length co40)) (fun _ h_ => h_.1))) hb); have n6_ := Aside0.mk (Kd.R_below (by (with_reducible repeat (first | apply qa | apply qb | apply qc)); exact (Kd.R_mono (Kd.R_far (p := ⟨gb474, 2, none⟩) (Kd.R_far (p := ⟨gb474, 1, none⟩) (Kd.R_far (p := ⟨gb474, 0, none⟩) (Kd.R_types HO468.out BK474.out (by decide)) (fun _ hk => hk.2) (.int .i64 t465)) (fun _ hk => hk.2) (.slice Ao39 t466.length co39)) (fun _ hk => hk.2) (.slice Ao40 t469.length co40)) (fun _ h_ => h_.1))) hb); have n7_ := Aside0.mk (Kd.R_below (by (with_reducible repeat (first | apply qa | apply qb | apply qc)); exact (Kd.R_mono (Kd.R_far (p := ⟨gb474, 2, none⟩) (Kd.R_far (p := ⟨gb474, 1, none⟩) (Kd.R_far (p := ⟨gb474, 0, none⟩) (Kd.R_types HO471.out BK474.out (by decide)) (fun _ hk => hk.2) (.int .i64 t465)) (fun _ hk => hk.2) (.slice Ao39 t466.length co39)) (fun _ hk => hk.2) (.slice Ao40 t469.length co40)) (fun _ h_ => h_.1))) hb); have n8_ := Aside0.mk (blk_below (g := gb438) (o := .cells #[.int .i64 a0_0, .slice A0_1 l0_1.length c0_1, .slice A0_2 l0_2.length c0_2] 25 (0, 0)) (by (with_reducible repeat (first | refine qe ?_ _ | refine qf ?_ | refine qd ?_ _)); refine blk_far ?_ NB438_474.out _; (with_reducible repeat (first | refine qe ?_ _ | refine qf ?_ | refine qd ?_ _)); refine blk_far ?_ NB438_474.out _; (with_reducible repeat (first | refine qe ?_ _ | refine qf ?_ | refine qd ?_ _)); refine blk_far ?_ NB438_474.out _; (with_reducible repeat (first | refine qe ?_ _ | refine qf ?_ | refine qd ?_ _)); exact BK438.out) hb); have n9_ := Aside0.mk (blk_below (g := gb456) (o := .cells #[.int .i64 t447, .slice Ao23 t448.length co23, .slice Ao24 t451.length co24] 31 (0, 0)) (by (with_reducible repeat (first | refine qe ?_ _ | refine qf ?_ | refine qd ?_ _)); refine blk_far ?_ NB456_474.out _; (with_reducible repeat (first | refine qe ?_ _ | refine qf ?_ | refine qd ?_ _)); refine blk_far ?_ NB456_474.out _; (with_reducible repeat (first | refine qe ?_ _ | refine qf ?_ | refine qd ?_ _)); refine blk_far ?_ NB456_474.out _; (with_reducible repeat (first | refine qe ?_ _ | refine qf ?_ | refine qd ?_ _)); exact BK456.out) hb); have n10_ := Aside0.mk (blk_below (g := gb464) (o := .cells #[.int .i64 t457, .slice Ao31 t458.length co31, .slice Ao32 t461.length co32] 31 (0, 0)) (by (with_reducible repeat (first | refine qe ?_ _ | refine qf ?_ | refine qd ?_ _)); refine blk_far ?_ NB464_474.out _; (with_reducible repeat (first | refine qe ?_ _ | refine qf ?_ | refine qd ?_ _)); refine blk_far ?_ NB464_474.out _; (with_reducible repeat (first | refine qe ?_ _ | refine qf ?_ | refine qd ?_ _)); refine blk_far ?_ NB464_474.out _; (with_reducible repeat (first | refine qe ?_ _ | refine qf ?_ | refine qd ?_ _)); exact BK464.out) hb); have n11_ := Aside0.mk (blk_below (g := gb474) (o := .cells #[.int .i64 t465, .slice Ao39 t466.length co39, .slice Ao40 t469.length co40] 31 (0, 0)) (by (with_reducible repeat (first | refine qe ?_ _ | refine qf ?_ | refine qd ?_ _)); refine blk_put (cs := #[.int .i64 t465, .slice Ao39 t466.length co39, .slice none 0 0]) ?_ 2 _ rfl; (with_reducible repeat (first | refine qe ?_ _ | refine qf ?_ | refine qd ?_ _)); refine blk_put (cs := #[.int .i64 t465, .slice none 0 0, .slice none 0 0]) ?_ 1 _ rfl; (with_reducible repeat (first | refine qe ?_ _ | refine qf ?_ | refine qd ?_ _)); refine blk_put (cs := #[.int .i64 0, .slice none 0 0, .slice none 0 0]) ?_ 0 _ rfl; (with_reducible repeat (first | refine qe ?_ _ | refine qf ?_ | refine qd ?_ _)); exact BK474.out) hb); have n12_ := Aside0.mk (below_step (by repeat (first | (with_reducible first | exact HB.out | apply below_alloc | apply pw_below_drewN | apply below_drew1 | refine below_set ?_ GE438.out | refine below_set ?_ GE456.out | refine below_set ?_ GE464.out | refine below_set ?_ GE474.out) | exact HB.out)) hb); clear HO443; clear HO446; clear HO450; clear HO453; clear HO460; clear HO463; clear HO468; clear HO471; clear BK438; clear BK456; clear BK464; clear BK474; clear HB; have HO443 := n0_; have HO446 := n1_; have HO450 := n2_; have HO453 := n3_; have HO460 := n4_; have HO463 := n5_; have HO468 := n6_; have HO471 := n7_; have BK438 := n8_; have BK456 := n9_; have BK464 := n10_; have BK474 := n11_; have HB := n12_; clear n0_ n1_ n2_ n3_ n4_ n5_ n6_ n7_ n8_ n9_ n10_ n11_ n12_; (try clear hb); (try clear hb2); (try clear hk); (try clear hi)))
          go_meet
          case rel => exact ⟨_, ((t473 != t455)), (by first | rfl | (simp; done) | (simp [*]; done)), H', ⟨by first | omega | exact Nat.le_refl _⟩, ⟨by (with_reducible repeat (first | apply qa | apply qb | apply qc)); exact Kd.R_mono HO450.out (fun _ hk => ⟨hk.1.2, hk.2⟩)⟩, ⟨by (with_reducible repeat (first | apply qa | apply qb | apply qc)); exact Kd.R_mono HO453.out (fun _ hk => ⟨hk.1.2, hk.2⟩)⟩, ⟨by (with_reducible repeat (first | apply qa | apply qb | apply qc)); exact Kd.R_mono HO460.out (fun _ hk => ⟨hk.1.2, hk.2⟩)⟩, ⟨by (with_reducible repeat (first | apply qa | apply qb | apply qc)); exact Kd.R_mono HO463.out (fun _ hk => ⟨hk.1.2, hk.2⟩)⟩, ⟨by (with_reducible repeat (first | apply qa | apply qb | apply qc)); exact Kd.R_mono HO468.out (fun _ hk => ⟨hk.1.2, hk.2⟩)⟩, ⟨by (with_reducible repeat (first | apply qa | apply qb | apply qc)); exact Kd.R_mono HO471.out (fun _ hk => ⟨hk.1.2, hk.2⟩)⟩, ⟨by (with_reducible repeat (first | refine qe ?_ _ | refine qf ?_ | refine qd ?_ _)); exact BK438.out⟩, ⟨by (with_reducible repeat (first | refine qe ?_ _ | refine qf ?_ | refine qd ?_ _)); exact BK456.out⟩, ⟨by (with_reducible repeat (first | refine qe ?_ _ | refine qf ?_ | refine qd ?_ _)); exact BK464.out⟩, ⟨by (with_reducible repeat (first | refine qe ?_ _ | refine qf ?_ | refine qd ?_ _)); exact BK474.out⟩, ⟨by repeat (first | (with_reducible first | exact HB.out | apply below_alloc | apply pw_below_drewN | apply below_drew1 | refine below_set ?_ GE438.out | refine below_set ?_ GE456.out | refine below_set ?_ GE464.out | refine below_set ?_ GE474.out) | exact HB.out)⟩⟩
        · rw [if_neg c43] at H
          have c43b0 : (t472 == t454) = false := beq_eq_false_iff_ne.mpr c43
          have c43b1 : (t472 != t454) = true := bne_iff_ne.mpr c43
          (first | rw [c43b0] | (simp only [i64_w, i32_w]; rw [c43b0]) | skip)
          have H' := Aside0.mk H
          clear H
          have hnb52 := NB474_438.out
          have hnc52 := NB438_474.out
          have hnb53 := NB474_456.out
          have hnc53 := NB456_474.out
          have hnb54 := NB474_464.out
          have hnc54 := NB464_474.out
          have hcz55_0 : w34.cell? ⟨gb474, 0, none⟩ = some (.int .i64 0) := (blk_cell BK474.out 0).trans rfl
          have hcz55_1 : w34.cell? ⟨gb474, 1, none⟩ = some (.slice none 0 0) := (blk_cell BK474.out 1).trans rfl
          have hcz55_2 : w34.cell? ⟨gb474, 2, none⟩ = some (.slice none 0 0) := (blk_cell BK474.out 2).trans rfl
          have hfz55_0 := blk_frozen BK474.out 0
          have hfz55_1 := blk_frozen BK474.out 1
          have hfz55_2 := blk_frozen BK474.out 2
          have hnb56 := NB456_438.out
          have hnc56 := NB438_456.out
          have hnb57 := NB456_464.out
          have hnc57 := NB464_456.out
          have hcz58_0 : w34.cell? ⟨gb456, 0, none⟩ = some (.int .i64 t447) := (blk_cell BK456.out 0).trans rfl
          have hcz58_1 : w34.cell? ⟨gb456, 1, none⟩ = some (.slice Ao23 t448.length co23) := (blk_cell BK456.out 1).trans rfl
          have hcz58_2 : w34.cell? ⟨gb456, 2, none⟩ = some (.slice Ao24 t451.length co24) := (blk_cell BK456.out 2).trans rfl
          have hfz58_0 := blk_frozen BK456.out 0
          have hfz58_1 := blk_frozen BK456.out 1
          have hfz58_2 := blk_frozen BK456.out 2
          go_wp2_with (first | ((with_reducible refine gate_callee (f := 17) rfl ?_); refine goesL_ (some 39) rfl rfl Try.func17 (by kernel_rfl) rfl #[.agg #[.int .i64 t465, .slice Ao39 t466.length co39, .slice Ao40 t469.length co40], .agg #[.int .i64 t447, .slice Ao23 t448.length co23, .slice Ao24 t451.length co24]] rfl (by (try simp only [List.map_toArray, List.map_cons, List.map_nil]); first | done | rfl | (simp only [List.length_drop, List.length_take]; rfl)) ?_; (with_reducible refine (laws_eqLog.calls k t465 _ _ t466 _ _ t469 t447 _ _ t448 _ _ t451 true _ ?side1 ?side2 ?side3 ?side4 ?side5 ?side6 ?side7 ?side8 A41.out).mono ?_); (case side1 => refine (Kd.R_reads' (e := 42) (base := w.heap.size) (ok := fun k_ => (((True ∧ some k_ ≠ (.slice Ao17 t441.length co17 : Value).ownBlock) ∧ some k_ ≠ (.slice Ao23 t448.length co23 : Value).ownBlock) ∧ some k_ ≠ (.slice Ao31 t458.length co31 : Value).ownBlock)) (n := t466.length) (c := co39) ?_).2.2; exact (by (with_reducible repeat (first | apply qa | apply qb | apply qc)); exact (Kd.R_mono (Kd.R_far (p := ⟨gb474, 2, none⟩) (Kd.R_far (p := ⟨gb474, 1, none⟩) (Kd.R_far (p := ⟨gb474, 0, none⟩) (Kd.R_types HO468.out BK474.out (by decide)) (fun _ hk => hk.2) (.int .i64 t465)) (fun _ hk => hk.2) (.slice Ao39 t466.length co39)) (fun _ hk => hk.2) (.slice Ao40 t469.length co40)) (fun _ h_ => h_.1)))); (case side2 => exact (Kd.R_reads' HO468.out).2.1); (case side3 => refine (Kd.R_reads' (e := 71) (base := w.heap.size) (ok := fun k_ => (((True ∧ some k_ ≠ (.slice Ao18 t444.length co18 : Value).ownBlock) ∧ some k_ ≠ (.slice Ao24 t451.length co24 : Value).ownBlock) ∧ some k_ ≠ (.slice Ao32 t461.length co32 : Value).ownBlock)) (n := t469.length) (c := co40) ?_).2.2; exact (by (with_reducible repeat (first | apply qa | apply qb | apply qc)); exact (Kd.R_mono (Kd.R_far (p := ⟨gb474, 2, none⟩) (Kd.R_far (p := ⟨gb474, 1, none⟩) (Kd.R_far (p := ⟨gb474, 0, none⟩) (Kd.R_types HO471.out BK474.out (by decide)) (fun _ hk => hk.2) (.int .i64 t465)) (fun _ hk => hk.2) (.slice Ao39 t466.length co39)) (fun _ hk => hk.2) (.slice Ao40 t469.length co40)) (fun _ h_ => h_.1)))); (case side4 => exact (Kd.R_reads' HO471.out).2.1); (case side5 => refine (Kd.R_reads' (e := 42) (base := w.heap.size) (ok := fun k_ => (((True ∧ some k_ ≠ (.slice Ao17 t441.length co17 : Value).ownBlock) ∧ some k_ ≠ (.slice Ao31 t458.length co31 : Value).ownBlock) ∧ some k_ ≠ (.slice Ao39 t466.length co39 : Value).ownBlock)) (n := t448.length) (c := co23) ?_).2.2; exact (by (with_reducible repeat (first | apply qa | apply qb | apply qc)); exact (Kd.R_mono (Kd.R_far (p := ⟨gb474, 2, none⟩) (Kd.R_far (p := ⟨gb474, 1, none⟩) (Kd.R_far (p := ⟨gb474, 0, none⟩) (Kd.R_types HO450.out BK474.out (by decide)) (fun _ hk => hk.2) (.int .i64 t465)) (fun _ hk => hk.2) (.slice Ao39 t466.length co39)) (fun _ hk => hk.2) (.slice Ao40 t469.length co40)) (fun _ h_ => h_.1)))); (case side6 => exact (Kd.R_reads' HO450.out).2.1); (case side7 => refine (Kd.R_reads' (e := 71) (base := w.heap.size) (ok := fun k_ => (((True ∧ some k_ ≠ (.slice Ao18 t444.length co18 : Value).ownBlock) ∧ some k_ ≠ (.slice Ao32 t461.length co32 : Value).ownBlock) ∧ some k_ ≠ (.slice Ao40 t469.length co40 : Value).ownBlock)) (n := t451.length) (c := co24) ?_).2.2; exact (by (with_reducible repeat (first | apply qa | apply qb | apply qc)); exact (Kd.R_mono (Kd.R_far (p := ⟨gb474, 2, none⟩) (Kd.R_far (p := ⟨gb474, 1, none⟩) (Kd.R_far (p := ⟨gb474, 0, none⟩) (Kd.R_types HO453.out BK474.out (by decide)) (fun _ hk => hk.2) (.int .i64 t465)) (fun _ hk => hk.2) (.slice Ao39 t466.length co39)) (fun _ hk => hk.2) (.slice Ao40 t469.length co40)) (fun _ h_ => h_.1)))); (case side8 => exact (Kd.R_reads' HO453.out).2.1); rintro e w59 ⟨rfl, hb⟩; refine ⟨_, rfl, ?_⟩; have n0_ := Aside0.mk (Kd.R_below (by (with_reducible repeat (first | apply qa | apply qb | apply qc)); exact (Kd.R_mono (Kd.R_far (p := ⟨gb474, 2, none⟩) (Kd.R_far (p := ⟨gb474, 1, none⟩) (Kd.R_far (p := ⟨gb474, 0, none⟩) (Kd.R_types HO443.out BK474.out (by decide)) (fun _ hk => hk.2) (.int .i64 t465)) (fun _ hk => hk.2) (.slice Ao39 t466.length co39)) (fun _ hk => hk.2) (.slice Ao40 t469.length co40)) (fun _ h_ => h_.1))) hb); have n1_ := Aside0.mk (Kd.R_below (by (with_reducible repeat (first | apply qa | apply qb | apply qc)); exact (Kd.R_mono (Kd.R_far (p := ⟨gb474, 2, none⟩) (Kd.R_far (p := ⟨gb474, 1, none⟩) (Kd.R_far (p := ⟨gb474, 0, none⟩) (Kd.R_types HO446.out BK474.out (by decide)) (fun _ hk => hk.2) (.int .i64 t465)) (fun _ hk => hk.2) (.slice Ao39 t466.length co39)) (fun _ hk => hk.2) (.slice Ao40 t469.length co40)) (fun _ h_ => h_.1))) hb); have n2_ := Aside0.mk (Kd.R_below (by (with_reducible repeat (first | apply qa | apply qb | apply qc)); exact (Kd.R_mono (Kd.R_far (p := ⟨gb474, 2, none⟩) (Kd.R_far (p := ⟨gb474, 1, none⟩) (Kd.R_far (p := ⟨gb474, 0, none⟩) (Kd.R_types HO450.out BK474.out (by decide)) (fun _ hk => hk.2) (.int .i64 t465)) (fun _ hk => hk.2) (.slice Ao39 t466.length co39)) (fun _ hk => hk.2) (.slice Ao40 t469.length co40)) (fun _ h_ => h_.1))) hb); have n3_ := Aside0.mk (Kd.R_below (by (with_reducible repeat (first | apply qa | apply qb | apply qc)); exact (Kd.R_mono (Kd.R_far (p := ⟨gb474, 2, none⟩) (Kd.R_far (p := ⟨gb474, 1, none⟩) (Kd.R_far (p := ⟨gb474, 0, none⟩) (Kd.R_types HO453.out BK474.out (by decide)) (fun _ hk => hk.2) (.int .i64 t465)) (fun _ hk => hk.2) (.slice Ao39 t466.length co39)) (fun _ hk => hk.2) (.slice Ao40 t469.length co40)) (fun _ h_ => h_.1))) hb); have n4_ := Aside0.mk (Kd.R_below (by (with_reducible repeat (first | apply qa | apply qb | apply qc)); exact (Kd.R_mono (Kd.R_far (p := ⟨gb474, 2, none⟩) (Kd.R_far (p := ⟨gb474, 1, none⟩) (Kd.R_far (p := ⟨gb474, 0, none⟩) (Kd.R_types HO460.out BK474.out (by decide)) (fun _ hk => hk.2) (.int .i64 t465)) (fun _ hk => hk.2) (.slice Ao39 t466.length co39)) (fun _ hk => hk.2) (.slice Ao40 t469.length co40)) (fun _ h_ => h_.1))) hb); have n5_ := Aside0.mk (Kd.R_below (by (with_reducible repeat (first | apply qa | apply qb | apply qc)); exact (Kd.R_mono (Kd.R_far (p := ⟨gb474, 2, none⟩) (Kd.R_far (p := ⟨gb474, 1, none⟩) (Kd.R_far (p := ⟨gb474, 0, none⟩) (Kd.R_types HO463.out BK474.out (by decide)) (fun _ hk => hk.2) (.int .i64 t465)) (fun _ hk => hk.2) (.slice Ao39 t466.length co39)) (fun _ hk => hk.2) (.slice Ao40 t469.length co40)) (fun _ h_ => h_.1))) hb); have n6_ := Aside0.mk (Kd.R_below (by (with_reducible repeat (first | apply qa | apply qb | apply qc)); exact (Kd.R_mono (Kd.R_far (p := ⟨gb474, 2, none⟩) (Kd.R_far (p := ⟨gb474, 1, none⟩) (Kd.R_far (p := ⟨gb474, 0, none⟩) (Kd.R_types HO468.out BK474.out (by decide)) (fun _ hk => hk.2) (.int .i64 t465)) (fun _ hk => hk.2) (.slice Ao39 t466.length co39)) (fun _ hk => hk.2) (.slice Ao40 t469.length co40)) (fun _ h_ => h_.1))) hb); have n7_ := Aside0.mk (Kd.R_below (by (with_reducible repeat (first | apply qa | apply qb | apply qc)); exact (Kd.R_mono (Kd.R_far (p := ⟨gb474, 2, none⟩) (Kd.R_far (p := ⟨gb474, 1, none⟩) (Kd.R_far (p := ⟨gb474, 0, none⟩) (Kd.R_types HO471.out BK474.out (by decide)) (fun _ hk => hk.2) (.int .i64 t465)) (fun _ hk => hk.2) (.slice Ao39 t466.length co39)) (fun _ hk => hk.2) (.slice Ao40 t469.length co40)) (fun _ h_ => h_.1))) hb); have n8_ := Aside0.mk (blk_below (g := gb438) (o := .cells #[.int .i64 a0_0, .slice A0_1 l0_1.length c0_1, .slice A0_2 l0_2.length c0_2] 25 (0, 0)) (by (with_reducible repeat (first | refine qe ?_ _ | refine qf ?_ | refine qd ?_ _)); refine blk_far ?_ NB438_474.out _; (with_reducible repeat (first | refine qe ?_ _ | refine qf ?_ | refine qd ?_ _)); refine blk_far ?_ NB438_474.out _; (with_reducible repeat (first | refine qe ?_ _ | refine qf ?_ | refine qd ?_ _)); refine blk_far ?_ NB438_474.out _; (with_reducible repeat (first | refine qe ?_ _ | refine qf ?_ | refine qd ?_ _)); exact BK438.out) hb); have n9_ := Aside0.mk (blk_below (g := gb456) (o := .cells #[.int .i64 t447, .slice Ao23 t448.length co23, .slice Ao24 t451.length co24] 31 (0, 0)) (by (with_reducible repeat (first | refine qe ?_ _ | refine qf ?_ | refine qd ?_ _)); refine blk_far ?_ NB456_474.out _; (with_reducible repeat (first | refine qe ?_ _ | refine qf ?_ | refine qd ?_ _)); refine blk_far ?_ NB456_474.out _; (with_reducible repeat (first | refine qe ?_ _ | refine qf ?_ | refine qd ?_ _)); refine blk_far ?_ NB456_474.out _; (with_reducible repeat (first | refine qe ?_ _ | refine qf ?_ | refine qd ?_ _)); exact BK456.out) hb); have n10_ := Aside0.mk (blk_below (g := gb464) (o := .cells #[.int .i64 t457, .slice Ao31 t458.length co31, .slice Ao32 t461.length co32] 31 (0, 0)) (by (with_reducible repeat (first | refine qe ?_ _ | refine qf ?_ | refine qd ?_ _)); refine blk_far ?_ NB464_474.out _; (with_reducible repeat (first | refine qe ?_ _ | refine qf ?_ | refine qd ?_ _)); refine blk_far ?_ NB464_474.out _; (with_reducible repeat (first | refine qe ?_ _ | refine qf ?_ | refine qd ?_ _)); refine blk_far ?_ NB464_474.out _; (with_reducible repeat (first | refine qe ?_ _ | refine qf ?_ | refine qd ?_ _)); exact BK464.out) hb); have n11_ := Aside0.mk (blk_below (g := gb474) (o := .cells #[.int .i64 t465, .slice Ao39 t466.length co39, .slice Ao40 t469.length co40] 31 (0, 0)) (by (with_reducible repeat (first | refine qe ?_ _ | refine qf ?_ | refine qd ?_ _)); refine blk_put (cs := #[.int .i64 t465, .slice Ao39 t466.length co39, .slice none 0 0]) ?_ 2 _ rfl; (with_reducible repeat (first | refine qe ?_ _ | refine qf ?_ | refine qd ?_ _)); refine blk_put (cs := #[.int .i64 t465, .slice none 0 0, .slice none 0 0]) ?_ 1 _ rfl; (with_reducible repeat (first | refine qe ?_ _ | refine qf ?_ | refine qd ?_ _)); refine blk_put (cs := #[.int .i64 0, .slice none 0 0, .slice none 0 0]) ?_ 0 _ rfl; (with_reducible repeat (first | refine qe ?_ _ | refine qf ?_ | refine qd ?_ _)); exact BK474.out) hb); have n12_ := Aside0.mk (below_step (by repeat (first | (with_reducible first | exact HB.out | apply below_alloc | apply pw_below_drewN | apply below_drew1 | refine below_set ?_ GE438.out | refine below_set ?_ GE456.out | refine below_set ?_ GE464.out | refine below_set ?_ GE474.out) | exact HB.out)) hb); clear HO443; clear HO446; clear HO450; clear HO453; clear HO460; clear HO463; clear HO468; clear HO471; clear BK438; clear BK456; clear BK464; clear BK474; clear HB; have HO443 := n0_; have HO446 := n1_; have HO450 := n2_; have HO453 := n3_; have HO460 := n4_; have HO463 := n5_; have HO468 := n6_; have HO471 := n7_; have BK438 := n8_; have BK456 := n9_; have BK464 := n10_; have BK474 := n11_; have HB := n12_; clear n0_ n1_ n2_ n3_ n4_ n5_ n6_ n7_ n8_ n9_ n10_ n11_ n12_; (try clear hb); (try clear hb2); (try clear hk); (try clear hi)))
          go_meet
          case rel => exact ⟨_, (true), (by first | rfl | (simp; done) | (simp [*]; done)), H', ⟨by first | omega | exact Nat.le_refl _⟩, ⟨by (with_reducible repeat (first | apply qa | apply qb | apply qc)); exact Kd.R_mono HO450.out (fun _ hk => ⟨hk.1.2, hk.2⟩)⟩, ⟨by (with_reducible repeat (first | apply qa | apply qb | apply qc)); exact Kd.R_mono HO453.out (fun _ hk => ⟨hk.1.2, hk.2⟩)⟩, ⟨by (with_reducible repeat (first | apply qa | apply qb | apply qc)); exact Kd.R_mono HO460.out (fun _ hk => ⟨hk.1.2, hk.2⟩)⟩, ⟨by (with_reducible repeat (first | apply qa | apply qb | apply qc)); exact Kd.R_mono HO463.out (fun _ hk => ⟨hk.1.2, hk.2⟩)⟩, ⟨by (with_reducible repeat (first | apply qa | apply qb | apply qc)); exact Kd.R_mono HO468.out (fun _ hk => ⟨hk.1.2, hk.2⟩)⟩, ⟨by (with_reducible repeat (first | apply qa | apply qb | apply qc)); exact Kd.R_mono HO471.out (fun _ hk => ⟨hk.1.2, hk.2⟩)⟩, ⟨by (with_reducible repeat (first | refine qe ?_ _ | refine qf ?_ | refine qd ?_ _)); exact BK438.out⟩, ⟨by (with_reducible repeat (first | refine qe ?_ _ | refine qf ?_ | refine qd ?_ _)); exact BK456.out⟩, ⟨by (with_reducible repeat (first | refine qe ?_ _ | refine qf ?_ | refine qd ?_ _)); exact BK464.out⟩, ⟨by (with_reducible repeat (first | refine qe ?_ _ | refine qf ?_ | refine qd ?_ _)); exact BK474.out⟩, ⟨by repeat (first | (with_reducible first | exact HB.out | apply below_alloc | apply pw_below_drewN | apply below_drew1 | refine below_set ?_ GE438.out | refine below_set ?_ GE456.out | refine below_set ?_ GE464.out | refine below_set ?_ GE474.out) | exact HB.out)⟩⟩
      · replace c42 := Bool.eq_false_iff.mpr c42
        subst c42
        have H1 : (laws_FnExactRepairCounts.j0 k t454 t455 t472 t473 true a0_0 l0_1 l0_2 t447 t448 t451 t457 t458 t461 t465 t466 t469) = some r := by rw [if_neg (show ¬ (false = true) by decide)] at H; exact H
        clear H
        have H := H1
        clear H1
        have H' := Aside0.mk H
        clear H
        have hnb60 := NB474_438.out
        have hnc60 := NB438_474.out
        have hnb61 := NB474_456.out
        have hnc61 := NB456_474.out
        have hnb62 := NB474_464.out
        have hnc62 := NB464_474.out
        have hcz63_0 : w34.cell? ⟨gb474, 0, none⟩ = some (.int .i64 0) := (blk_cell BK474.out 0).trans rfl
        have hcz63_1 : w34.cell? ⟨gb474, 1, none⟩ = some (.slice none 0 0) := (blk_cell BK474.out 1).trans rfl
        have hcz63_2 : w34.cell? ⟨gb474, 2, none⟩ = some (.slice none 0 0) := (blk_cell BK474.out 2).trans rfl
        have hfz63_0 := blk_frozen BK474.out 0
        have hfz63_1 := blk_frozen BK474.out 1
        have hfz63_2 := blk_frozen BK474.out 2
        have hnb64 := NB456_438.out
        have hnc64 := NB438_456.out
        have hnb65 := NB456_464.out
        have hnc65 := NB464_456.out
        have hcz66_0 : w34.cell? ⟨gb456, 0, none⟩ = some (.int .i64 t447) := (blk_cell BK456.out 0).trans rfl
        have hcz66_1 : w34.cell? ⟨gb456, 1, none⟩ = some (.slice Ao23 t448.length co23) := (blk_cell BK456.out 1).trans rfl
        have hcz66_2 : w34.cell? ⟨gb456, 2, none⟩ = some (.slice Ao24 t451.length co24) := (blk_cell BK456.out 2).trans rfl
        have hfz66_0 := blk_frozen BK456.out 0
        have hfz66_1 := blk_frozen BK456.out 1
        have hfz66_2 := blk_frozen BK456.out 2
        go_wp2_with (first | ((with_reducible refine gate_callee (f := 17) rfl ?_); refine goesL_ (some 39) rfl rfl Try.func17 (by kernel_rfl) rfl #[.agg #[.int .i64 t465, .slice Ao39 t466.length co39, .slice Ao40 t469.length co40], .agg #[.int .i64 t447, .slice Ao23 t448.length co23, .slice Ao24 t451.length co24]] rfl (by (try simp only [List.map_toArray, List.map_cons, List.map_nil]); first | done | rfl | (simp only [List.length_drop, List.length_take]; rfl)) ?_; (with_reducible refine (laws_eqLog.calls k t465 _ _ t466 _ _ t469 t447 _ _ t448 _ _ t451 false _ ?side1 ?side2 ?side3 ?side4 ?side5 ?side6 ?side7 ?side8 A41.out).mono ?_); (case side1 => refine (Kd.R_reads' (e := 42) (base := w.heap.size) (ok := fun k_ => (((True ∧ some k_ ≠ (.slice Ao17 t441.length co17 : Value).ownBlock) ∧ some k_ ≠ (.slice Ao23 t448.length co23 : Value).ownBlock) ∧ some k_ ≠ (.slice Ao31 t458.length co31 : Value).ownBlock)) (n := t466.length) (c := co39) ?_).2.2; exact (by (with_reducible repeat (first | apply qa | apply qb | apply qc)); exact (Kd.R_mono (Kd.R_far (p := ⟨gb474, 2, none⟩) (Kd.R_far (p := ⟨gb474, 1, none⟩) (Kd.R_far (p := ⟨gb474, 0, none⟩) (Kd.R_types HO468.out BK474.out (by decide)) (fun _ hk => hk.2) (.int .i64 t465)) (fun _ hk => hk.2) (.slice Ao39 t466.length co39)) (fun _ hk => hk.2) (.slice Ao40 t469.length co40)) (fun _ h_ => h_.1)))); (case side2 => exact (Kd.R_reads' HO468.out).2.1); (case side3 => refine (Kd.R_reads' (e := 71) (base := w.heap.size) (ok := fun k_ => (((True ∧ some k_ ≠ (.slice Ao18 t444.length co18 : Value).ownBlock) ∧ some k_ ≠ (.slice Ao24 t451.length co24 : Value).ownBlock) ∧ some k_ ≠ (.slice Ao32 t461.length co32 : Value).ownBlock)) (n := t469.length) (c := co40) ?_).2.2; exact (by (with_reducible repeat (first | apply qa | apply qb | apply qc)); exact (Kd.R_mono (Kd.R_far (p := ⟨gb474, 2, none⟩) (Kd.R_far (p := ⟨gb474, 1, none⟩) (Kd.R_far (p := ⟨gb474, 0, none⟩) (Kd.R_types HO471.out BK474.out (by decide)) (fun _ hk => hk.2) (.int .i64 t465)) (fun _ hk => hk.2) (.slice Ao39 t466.length co39)) (fun _ hk => hk.2) (.slice Ao40 t469.length co40)) (fun _ h_ => h_.1)))); (case side4 => exact (Kd.R_reads' HO471.out).2.1); (case side5 => refine (Kd.R_reads' (e := 42) (base := w.heap.size) (ok := fun k_ => (((True ∧ some k_ ≠ (.slice Ao17 t441.length co17 : Value).ownBlock) ∧ some k_ ≠ (.slice Ao31 t458.length co31 : Value).ownBlock) ∧ some k_ ≠ (.slice Ao39 t466.length co39 : Value).ownBlock)) (n := t448.length) (c := co23) ?_).2.2; exact (by (with_reducible repeat (first | apply qa | apply qb | apply qc)); exact (Kd.R_mono (Kd.R_far (p := ⟨gb474, 2, none⟩) (Kd.R_far (p := ⟨gb474, 1, none⟩) (Kd.R_far (p := ⟨gb474, 0, none⟩) (Kd.R_types HO450.out BK474.out (by decide)) (fun _ hk => hk.2) (.int .i64 t465)) (fun _ hk => hk.2) (.slice Ao39 t466.length co39)) (fun _ hk => hk.2) (.slice Ao40 t469.length co40)) (fun _ h_ => h_.1)))); (case side6 => exact (Kd.R_reads' HO450.out).2.1); (case side7 => refine (Kd.R_reads' (e := 71) (base := w.heap.size) (ok := fun k_ => (((True ∧ some k_ ≠ (.slice Ao18 t444.length co18 : Value).ownBlock) ∧ some k_ ≠ (.slice Ao32 t461.length co32 : Value).ownBlock) ∧ some k_ ≠ (.slice Ao40 t469.length co40 : Value).ownBlock)) (n := t451.length) (c := co24) ?_).2.2; exact (by (with_reducible repeat (first | apply qa | apply qb | apply qc)); exact (Kd.R_mono (Kd.R_far (p := ⟨gb474, 2, none⟩) (Kd.R_far (p := ⟨gb474, 1, none⟩) (Kd.R_far (p := ⟨gb474, 0, none⟩) (Kd.R_types HO453.out BK474.out (by decide)) (fun _ hk => hk.2) (.int .i64 t465)) (fun _ hk => hk.2) (.slice Ao39 t466.length co39)) (fun _ hk => hk.2) (.slice Ao40 t469.length co40)) (fun _ h_ => h_.1)))); (case side8 => exact (Kd.R_reads' HO453.out).2.1); rintro e w67 ⟨rfl, hb⟩; refine ⟨_, rfl, ?_⟩; have n0_ := Aside0.mk (Kd.R_below (by (with_reducible repeat (first | apply qa | apply qb | apply qc)); exact (Kd.R_mono (Kd.R_far (p := ⟨gb474, 2, none⟩) (Kd.R_far (p := ⟨gb474, 1, none⟩) (Kd.R_far (p := ⟨gb474, 0, none⟩) (Kd.R_types HO443.out BK474.out (by decide)) (fun _ hk => hk.2) (.int .i64 t465)) (fun _ hk => hk.2) (.slice Ao39 t466.length co39)) (fun _ hk => hk.2) (.slice Ao40 t469.length co40)) (fun _ h_ => h_.1))) hb); have n1_ := Aside0.mk (Kd.R_below (by (with_reducible repeat (first | apply qa | apply qb | apply qc)); exact (Kd.R_mono (Kd.R_far (p := ⟨gb474, 2, none⟩) (Kd.R_far (p := ⟨gb474, 1, none⟩) (Kd.R_far (p := ⟨gb474, 0, none⟩) (Kd.R_types HO446.out BK474.out (by decide)) (fun _ hk => hk.2) (.int .i64 t465)) (fun _ hk => hk.2) (.slice Ao39 t466.length co39)) (fun _ hk => hk.2) (.slice Ao40 t469.length co40)) (fun _ h_ => h_.1))) hb); have n2_ := Aside0.mk (Kd.R_below (by (with_reducible repeat (first | apply qa | apply qb | apply qc)); exact (Kd.R_mono (Kd.R_far (p := ⟨gb474, 2, none⟩) (Kd.R_far (p := ⟨gb474, 1, none⟩) (Kd.R_far (p := ⟨gb474, 0, none⟩) (Kd.R_types HO450.out BK474.out (by decide)) (fun _ hk => hk.2) (.int .i64 t465)) (fun _ hk => hk.2) (.slice Ao39 t466.length co39)) (fun _ hk => hk.2) (.slice Ao40 t469.length co40)) (fun _ h_ => h_.1))) hb); have n3_ := Aside0.mk (Kd.R_below (by (with_reducible repeat (first | apply qa | apply qb | apply qc)); exact (Kd.R_mono (Kd.R_far (p := ⟨gb474, 2, none⟩) (Kd.R_far (p := ⟨gb474, 1, none⟩) (Kd.R_far (p := ⟨gb474, 0, none⟩) (Kd.R_types HO453.out BK474.out (by decide)) (fun _ hk => hk.2) (.int .i64 t465)) (fun _ hk => hk.2) (.slice Ao39 t466.length co39)) (fun _ hk => hk.2) (.slice Ao40 t469.length co40)) (fun _ h_ => h_.1))) hb); have n4_ := Aside0.mk (Kd.R_below (by (with_reducible repeat (first | apply qa | apply qb | apply qc)); exact (Kd.R_mono (Kd.R_far (p := ⟨gb474, 2, none⟩) (Kd.R_far (p := ⟨gb474, 1, none⟩) (Kd.R_far (p := ⟨gb474, 0, none⟩) (Kd.R_types HO460.out BK474.out (by decide)) (fun _ hk => hk.2) (.int .i64 t465)) (fun _ hk => hk.2) (.slice Ao39 t466.length co39)) (fun _ hk => hk.2) (.slice Ao40 t469.length co40)) (fun _ h_ => h_.1))) hb); have n5_ := Aside0.mk (Kd.R_below (by (with_reducible repeat (first | apply qa | apply qb | apply qc)); exact (Kd.R_mono (Kd.R_far (p := ⟨gb474, 2, none⟩) (Kd.R_far (p := ⟨gb474, 1, none⟩) (Kd.R_far (p := ⟨gb474, 0, none⟩) (Kd.R_types HO463.out BK474.out (by decide)) (fun _ hk => hk.2) (.int .i64 t465)) (fun _ hk => hk.2) (.slice Ao39 t466.length co39)) (fun _ hk => hk.2) (.slice Ao40 t469.length co40)) (fun _ h_ => h_.1))) hb); have n6_ := Aside0.mk (Kd.R_below (by (with_reducible repeat (first | apply qa | apply qb | apply qc)); exact (Kd.R_mono (Kd.R_far (p := ⟨gb474, 2, none⟩) (Kd.R_far (p := ⟨gb474, 1, none⟩) (Kd.R_far (p := ⟨gb474, 0, none⟩) (Kd.R_types HO468.out BK474.out (by decide)) (fun _ hk => hk.2) (.int .i64 t465)) (fun _ hk => hk.2) (.slice Ao39 t466.length co39)) (fun _ hk => hk.2) (.slice Ao40 t469.length co40)) (fun _ h_ => h_.1))) hb); have n7_ := Aside0.mk (Kd.R_below (by (with_reducible repeat (first | apply qa | apply qb | apply qc)); exact (Kd.R_mono (Kd.R_far (p := ⟨gb474, 2, none⟩) (Kd.R_far (p := ⟨gb474, 1, none⟩) (Kd.R_far (p := ⟨gb474, 0, none⟩) (Kd.R_types HO471.out BK474.out (by decide)) (fun _ hk => hk.2) (.int .i64 t465)) (fun _ hk => hk.2) (.slice Ao39 t466.length co39)) (fun _ hk => hk.2) (.slice Ao40 t469.length co40)) (fun _ h_ => h_.1))) hb); have n8_ := Aside0.mk (blk_below (g := gb438) (o := .cells #[.int .i64 a0_0, .slice A0_1 l0_1.length c0_1, .slice A0_2 l0_2.length c0_2] 25 (0, 0)) (by (with_reducible repeat (first | refine qe ?_ _ | refine qf ?_ | refine qd ?_ _)); refine blk_far ?_ NB438_474.out _; (with_reducible repeat (first | refine qe ?_ _ | refine qf ?_ | refine qd ?_ _)); refine blk_far ?_ NB438_474.out _; (with_reducible repeat (first | refine qe ?_ _ | refine qf ?_ | refine qd ?_ _)); refine blk_far ?_ NB438_474.out _; (with_reducible repeat (first | refine qe ?_ _ | refine qf ?_ | refine qd ?_ _)); exact BK438.out) hb); have n9_ := Aside0.mk (blk_below (g := gb456) (o := .cells #[.int .i64 t447, .slice Ao23 t448.length co23, .slice Ao24 t451.length co24] 31 (0, 0)) (by (with_reducible repeat (first | refine qe ?_ _ | refine qf ?_ | refine qd ?_ _)); refine blk_far ?_ NB456_474.out _; (with_reducible repeat (first | refine qe ?_ _ | refine qf ?_ | refine qd ?_ _)); refine blk_far ?_ NB456_474.out _; (with_reducible repeat (first | refine qe ?_ _ | refine qf ?_ | refine qd ?_ _)); refine blk_far ?_ NB456_474.out _; (with_reducible repeat (first | refine qe ?_ _ | refine qf ?_ | refine qd ?_ _)); exact BK456.out) hb); have n10_ := Aside0.mk (blk_below (g := gb464) (o := .cells #[.int .i64 t457, .slice Ao31 t458.length co31, .slice Ao32 t461.length co32] 31 (0, 0)) (by (with_reducible repeat (first | refine qe ?_ _ | refine qf ?_ | refine qd ?_ _)); refine blk_far ?_ NB464_474.out _; (with_reducible repeat (first | refine qe ?_ _ | refine qf ?_ | refine qd ?_ _)); refine blk_far ?_ NB464_474.out _; (with_reducible repeat (first | refine qe ?_ _ | refine qf ?_ | refine qd ?_ _)); refine blk_far ?_ NB464_474.out _; (with_reducible repeat (first | refine qe ?_ _ | refine qf ?_ | refine qd ?_ _)); exact BK464.out) hb); have n11_ := Aside0.mk (blk_below (g := gb474) (o := .cells #[.int .i64 t465, .slice Ao39 t466.length co39, .slice Ao40 t469.length co40] 31 (0, 0)) (by (with_reducible repeat (first | refine qe ?_ _ | refine qf ?_ | refine qd ?_ _)); refine blk_put (cs := #[.int .i64 t465, .slice Ao39 t466.length co39, .slice none 0 0]) ?_ 2 _ rfl; (with_reducible repeat (first | refine qe ?_ _ | refine qf ?_ | refine qd ?_ _)); refine blk_put (cs := #[.int .i64 t465, .slice none 0 0, .slice none 0 0]) ?_ 1 _ rfl; (with_reducible repeat (first | refine qe ?_ _ | refine qf ?_ | refine qd ?_ _)); refine blk_put (cs := #[.int .i64 0, .slice none 0 0, .slice none 0 0]) ?_ 0 _ rfl; (with_reducible repeat (first | refine qe ?_ _ | refine qf ?_ | refine qd ?_ _)); exact BK474.out) hb); have n12_ := Aside0.mk (below_step (by repeat (first | (with_reducible first | exact HB.out | apply below_alloc | apply pw_below_drewN | apply below_drew1 | refine below_set ?_ GE438.out | refine below_set ?_ GE456.out | refine below_set ?_ GE464.out | refine below_set ?_ GE474.out) | exact HB.out)) hb); clear HO443; clear HO446; clear HO450; clear HO453; clear HO460; clear HO463; clear HO468; clear HO471; clear BK438; clear BK456; clear BK464; clear BK474; clear HB; have HO443 := n0_; have HO446 := n1_; have HO450 := n2_; have HO453 := n3_; have HO460 := n4_; have HO463 := n5_; have HO468 := n6_; have HO471 := n7_; have BK438 := n8_; have BK456 := n9_; have BK464 := n10_; have BK474 := n11_; have HB := n12_; clear n0_ n1_ n2_ n3_ n4_ n5_ n6_ n7_ n8_ n9_ n10_ n11_ n12_; (try clear hb); (try clear hb2); (try clear hk); (try clear hi)))
        go_meet
        case rel => exact ⟨_, (true), (by first | rfl | (simp; done) | (simp [*]; done)), H', ⟨by first | omega | exact Nat.le_refl _⟩, ⟨by (with_reducible repeat (first | apply qa | apply qb | apply qc)); exact Kd.R_mono HO450.out (fun _ hk => ⟨hk.1.2, hk.2⟩)⟩, ⟨by (with_reducible repeat (first | apply qa | apply qb | apply qc)); exact Kd.R_mono HO453.out (fun _ hk => ⟨hk.1.2, hk.2⟩)⟩, ⟨by (with_reducible repeat (first | apply qa | apply qb | apply qc)); exact Kd.R_mono HO460.out (fun _ hk => ⟨hk.1.2, hk.2⟩)⟩, ⟨by (with_reducible repeat (first | apply qa | apply qb | apply qc)); exact Kd.R_mono HO463.out (fun _ hk => ⟨hk.1.2, hk.2⟩)⟩, ⟨by (with_reducible repeat (first | apply qa | apply qb | apply qc)); exact Kd.R_mono HO468.out (fun _ hk => ⟨hk.1.2, hk.2⟩)⟩, ⟨by (with_reducible repeat (first | apply qa | apply qb | apply qc)); exact Kd.R_mono HO471.out (fun _ hk => ⟨hk.1.2, hk.2⟩)⟩, ⟨by (with_reducible repeat (first | refine qe ?_ _ | refine qf ?_ | refine qd ?_ _)); exact BK438.out⟩, ⟨by (with_reducible repeat (first | refine qe ?_ _ | refine qf ?_ | refine qd ?_ _)); exact BK456.out⟩, ⟨by (with_reducible repeat (first | refine qe ?_ _ | refine qf ?_ | refine qd ?_ _)); exact BK464.out⟩, ⟨by (with_reducible repeat (first | refine qe ?_ _ | refine qf ?_ | refine qd ?_ _)); exact BK474.out⟩, ⟨by repeat (first | (with_reducible first | exact HB.out | apply below_alloc | apply pw_below_drewN | apply below_drew1 | refine below_set ?_ GE438.out | refine below_set ?_ GE456.out | refine below_set ?_ GE464.out | refine below_set ?_ GE474.out) | exact HB.out)⟩⟩
    case rest =>
      clear HC11
      try clear c1
      try clear c2
      try clear p2
      try clear c3
      try clear c3b0
      try clear c4
      try clear c5
      try clear c6
      try clear c13
      try clear c15
      try clear c17
      try clear c21
      try clear c28
      try clear c29
      try clear c35
      try clear c36
      try clear c37
      try clear c42
      try clear c43
      try clear c43b0
      try clear c43b1
      try clear c44
      try clear c45
      try clear c46
      try clear c48
      try clear c49
      try clear c52
      try clear c53
      try clear c54
      try clear c56
      try clear c57
      try clear c60
      try clear c61
      try clear c62
      try clear c64
      try clear c65
      try clear hcz13_0
      try clear hcz13_1
      try clear hcz13_2
      try clear hcz15_0
      try clear hcz15_1
      try clear hcz15_2
      try clear hcz22_0
      try clear hcz22_1
      try clear hcz22_2
      try clear hcz25_0
      try clear hcz25_1
      try clear hcz25_2
      try clear hcz30_0
      try clear hcz30_1
      try clear hcz30_2
      try clear hcz38_0
      try clear hcz38_1
      try clear hcz38_2
      try clear hcz47_0
      try clear hcz47_1
      try clear hcz47_2
      try clear hcz50_0
      try clear hcz50_1
      try clear hcz50_2
      try clear hcz55_0
      try clear hcz55_1
      try clear hcz55_2
      try clear hcz58_0
      try clear hcz58_1
      try clear hcz58_2
      try clear hcz5_0
      try clear hcz5_1
      try clear hcz5_2
      try clear hcz63_0
      try clear hcz63_1
      try clear hcz63_2
      try clear hcz66_0
      try clear hcz66_1
      try clear hcz66_2
      try clear hfz13_0
      try clear hfz13_1
      try clear hfz13_2
      try clear hfz15_0
      try clear hfz15_1
      try clear hfz15_2
      try clear hfz22_0
      try clear hfz22_1
      try clear hfz22_2
      try clear hfz25_0
      try clear hfz25_1
      try clear hfz25_2
      try clear hfz30_0
      try clear hfz30_1
      try clear hfz30_2
      try clear hfz38_0
      try clear hfz38_1
      try clear hfz38_2
      try clear hfz47_0
      try clear hfz47_1
      try clear hfz47_2
      try clear hfz50_0
      try clear hfz50_1
      try clear hfz50_2
      try clear hfz55_0
      try clear hfz55_1
      try clear hfz55_2
      try clear hfz58_0
      try clear hfz58_1
      try clear hfz58_2
      try clear hfz5_0
      try clear hfz5_1
      try clear hfz5_2
      try clear hfz63_0
      try clear hfz63_1
      try clear hfz63_2
      try clear hfz66_0
      try clear hfz66_1
      try clear hfz66_2
      obtain ⟨kq, x50_10, rfl, HA, HJ10, HO_457001, HO_457002, HO_465001, HO_465002, HO_475001, HO_475002, BK438, BK456, BK464, BK474, HB⟩ := hcut
      cases kq with
      | zero => exact absurd HA.out (by simp [laws_FnExactRepairCounts.j0])
      | succ kj10 =>
        have H := HA.out
        clear HA
        simp only [laws_FnExactRepairCounts.j0] at H
        by_cases c68 : x50_10 = true
        · subst c68
          have H1 : (some false) = some r := by rw [if_pos rfl] at H; exact H
          clear H
          have H := H1
          clear H1
          exact absurd ((Option.some.inj H).trans HT.out) (by decide)
        · replace c68 := Bool.eq_false_iff.mpr c68
          subst c68
          have H1 : ((laws_toLog.f kj10 a0_0 l0_1 l0_2).bind fun bt476 => ((laws_eqLog.f kj10 t457 t458 t461 bt476.1 bt476.2.1 bt476.2.2).bind fun t483 => (if t483 = true then ((laws_markLog.f kj10 t457 t458 t461 1).bind fun bt484 => (if bt484.1 < 0 then (laws_FnExactRepairCounts.j1 kj10 t454 t455 true a0_0 l0_1 l0_2 t447 t448 t451 t465 t466 t469) else ((laws_eqLog.f kj10 t465 t466 t469 t447 t448 t451).bind fun t487 => (if t487 = true then (if t472 = t454 then (laws_FnExactRepairCounts.j1 kj10 t454 t455 (t473 != t455) a0_0 l0_1 l0_2 t447 t448 t451 t465 t466 t469) else (laws_FnExactRepairCounts.j1 kj10 t454 t455 true a0_0 l0_1 l0_2 t447 t448 t451 t465 t466 t469)) else (laws_FnExactRepairCounts.j1 kj10 t454 t455 true a0_0 l0_1 l0_2 t447 t448 t451 t465 t466 t469))))) else (some false)))) = some r := by rw [if_neg (show ¬ (false = true) by decide)] at H; exact H
          clear H
          have H := H1
          clear H1
          replace H := Option.bind_eq_some_iff.mp H
          obtain ⟨⟨t476, t477, t480⟩, A690, H⟩ := H
          replace H : ((laws_eqLog.f kj10 t457 t458 t461 t476 t477 t480).bind fun t483 => (if t483 = true then ((laws_markLog.f kj10 t457 t458 t461 1).bind fun bt484 => (if bt484.1 < 0 then (laws_FnExactRepairCounts.j1 kj10 t454 t455 true a0_0 l0_1 l0_2 t447 t448 t451 t465 t466 t469) else ((laws_eqLog.f kj10 t465 t466 t469 t447 t448 t451).bind fun t487 => (if t487 = true then (if t472 = t454 then (laws_FnExactRepairCounts.j1 kj10 t454 t455 (t473 != t455) a0_0 l0_1 l0_2 t447 t448 t451 t465 t466 t469) else (laws_FnExactRepairCounts.j1 kj10 t454 t455 true a0_0 l0_1 l0_2 t447 t448 t451 t465 t466 t469)) else (laws_FnExactRepairCounts.j1 kj10 t454 t455 true a0_0 l0_1 l0_2 t447 t448 t451 t465 t466 t469))))) else (some false))) = some r := H
          have A69 := Aside0.mk A690
          clear A690
          replace H := Option.bind_eq_some_iff.mp H
          obtain ⟨t483, A700, H⟩ := H
          replace H : (if t483 = true then ((laws_markLog.f kj10 t457 t458 t461 1).bind fun bt484 => (if bt484.1 < 0 then (laws_FnExactRepairCounts.j1 kj10 t454 t455 true a0_0 l0_1 l0_2 t447 t448 t451 t465 t466 t469) else ((laws_eqLog.f kj10 t465 t466 t469 t447 t448 t451).bind fun t487 => (if t487 = true then (if t472 = t454 then (laws_FnExactRepairCounts.j1 kj10 t454 t455 (t473 != t455) a0_0 l0_1 l0_2 t447 t448 t451 t465 t466 t469) else (laws_FnExactRepairCounts.j1 kj10 t454 t455 true a0_0 l0_1 l0_2 t447 t448 t451 t465 t466 t469)) else (laws_FnExactRepairCounts.j1 kj10 t454 t455 true a0_0 l0_1 l0_2 t447 t448 t451 t465 t466 t469))))) else (some false)) = some r := H
          have A70 := Aside0.mk A700
          clear A700
          by_cases c71 : t483 = true
          · subst c71
            have H1 : ((laws_markLog.f kj10 t457 t458 t461 1).bind fun bt484 => (if bt484.1 < 0 then (laws_FnExactRepairCounts.j1 kj10 t454 t455 true a0_0 l0_1 l0_2 t447 t448 t451 t465 t466 t469) else ((laws_eqLog.f kj10 t465 t466 t469 t447 t448 t451).bind fun t487 => (if t487 = true then (if t472 = t454 then (laws_FnExactRepairCounts.j1 kj10 t454 t455 (t473 != t455) a0_0 l0_1 l0_2 t447 t448 t451 t465 t466 t469) else (laws_FnExactRepairCounts.j1 kj10 t454 t455 true a0_0 l0_1 l0_2 t447 t448 t451 t465 t466 t469)) else (laws_FnExactRepairCounts.j1 kj10 t454 t455 true a0_0 l0_1 l0_2 t447 t448 t451 t465 t466 t469))))) = some r := by rw [if_pos rfl] at H; exact H
            clear H
            have H := H1
            clear H1
            replace H := Option.bind_eq_some_iff.mp H
            obtain ⟨⟨t484, t485, t486⟩, A720, H⟩ := H
            replace H : (if t484 < 0 then (laws_FnExactRepairCounts.j1 kj10 t454 t455 true a0_0 l0_1 l0_2 t447 t448 t451 t465 t466 t469) else ((laws_eqLog.f kj10 t465 t466 t469 t447 t448 t451).bind fun t487 => (if t487 = true then (if t472 = t454 then (laws_FnExactRepairCounts.j1 kj10 t454 t455 (t473 != t455) a0_0 l0_1 l0_2 t447 t448 t451 t465 t466 t469) else (laws_FnExactRepairCounts.j1 kj10 t454 t455 true a0_0 l0_1 l0_2 t447 t448 t451 t465 t466 t469)) else (laws_FnExactRepairCounts.j1 kj10 t454 t455 true a0_0 l0_1 l0_2 t447 t448 t451 t465 t466 t469)))) = some r := H
            have A72 := Aside0.mk A720
            clear A720
            have HC73 := Aside0.mk H
            clear H
            try go_wp2
            have n0_ := Aside0.mk (qc HO_457001.out)
            have n1_ := Aside0.mk (qc HO_457002.out)
            have n2_ := Aside0.mk (qc HO_465001.out)
            have n3_ := Aside0.mk (qc HO_465002.out)
            have n4_ := Aside0.mk (qc HO_475001.out)
            have n5_ := Aside0.mk (qc HO_475002.out)
            have n6_ := Aside0.mk (qf BK438.out)
            have n7_ := Aside0.mk (qf BK456.out)
            have n8_ := Aside0.mk (qf BK464.out)
            have n9_ := Aside0.mk (qf BK474.out)
            have n10_ := Aside0.mk (below_drew1 HB.out)
            clear HO_457001
            clear HO_457002
            clear HO_465001
            clear HO_465002
            clear HO_475001
            clear HO_475002
            clear BK438
            clear BK456
            clear BK464
            clear BK474
            clear HB
            have HO_457001 := n0_
            have HO_457002 := n1_
            have HO_465001 := n2_
            have HO_465002 := n3_
            have HO_475001 := n4_
            have HO_475002 := n5_
            have BK438 := n6_
            have BK456 := n7_
            have BK464 := n8_
            have BK474 := n9_
            have HB := n10_
            clear n0_ n1_ n2_ n3_ n4_ n5_ n6_ n7_ n8_ n9_ n10_
            refine start_ (n := 5) (S := fun w' => w'.cell? ⟨gb464, 0, none⟩ = some (.int .i64 t457) ∧ w'.cell? ⟨gb464, 1, none⟩ = some (.slice Ao31 t458.length co31) ∧ w'.cell? ⟨gb464, 2, none⟩ = some (.slice Ao32 t461.length co32) ∧ w'.cell? ⟨gb438, 0, none⟩ = some (.int .i64 a0_0) ∧ w'.cell? ⟨gb438, 1, none⟩ = some (.slice A0_1 l0_1.length c0_1) ∧ w'.cell? ⟨gb438, 2, none⟩ = some (.slice A0_2 l0_2.length c0_2)) (ds := []) #[false, false, false, false, false] (by kernel_rfl) rfl rfl ⟨(blk_cell BK464.out 0).trans rfl, (blk_cell BK464.out 1).trans rfl, (blk_cell BK464.out 2).trans rfl, (blk_cell BK438.out 0).trans rfl, (blk_cell BK438.out 1).trans rfl, (blk_cell BK438.out 2).trans rfl⟩ (fun hHeld => ?_)
            generalize wc.drew = w74 at HO_457001 HO_457002 HO_465001 HO_465002 HO_475001 HO_475002 BK438 BK456 BK464 BK474 HB hHeld ⊢
            refine take_ (i := 0) (N := some 51) (v := ?_) (a' := ?_) #[true, false, false, false, false] rfl rfl (by kernel_rfl) (fun _ _ _ h => h) (Or.inl ⟨by rfl, ?_⟩) hHeld ?_ ?_
            rotate_left
            · rintro w' ⟨s0, s1, s2, s3, s4, s5⟩
              go_simp
              with_reducible rfl
            rotate_left
            · simp only [Act.put, List.setIfInBounds_toArray, List.set_cons_zero, List.set_cons_succ, i64_w, i32_w]
              rfl
            refine take_ (i := 1) (N := some 52) (v := ?_) (a' := ?_) #[true, true, false, false, false] rfl rfl (by kernel_rfl) (fun _ _ _ h => h) (Or.inl ⟨by rfl, ?_⟩) hHeld ?_ ?_
            rotate_left
            · rintro w' ⟨s0, s1, s2, s3, s4, s5⟩
              go_simp
              with_reducible rfl
            rotate_left
            · simp only [Act.put, List.setIfInBounds_toArray, List.set_cons_zero, List.set_cons_succ, i64_w, i32_w]
              rfl
            refine one_ (i := 2) (N := some 53) #[true, true, true, false, false] rfl rfl (by kernel_rfl) (by decide) (fun K hK => ?_)
            refine goes_ Try.func15 (by kernel_rfl) rfl #[.agg #[.int .i64 a0_0, .slice A0_1 l0_1.length c0_1, .slice A0_2 l0_2.length c0_2]] (by rfl) rfl rfl (by (try simp only [List.map_toArray, List.map_cons, List.map_nil]); first | done | rfl | (simp only [List.length_drop, List.length_take]; rfl)) ?_
            with_reducible refine (laws_toLog.calls kj10 a0_0 _ _ l0_1 _ _ l0_2 t476 t477 t480 _ ?side1 ?side2 ?side3 ?side4 A69.out).mono ?_
            (case side1 => repeat (first | exact (Kd.C_below HR0_1.out HB.out) | (with_reducible refine Kd.C_alloc ?_ _) | (with_reducible refine Kd.C_drewN ?_ _) | (with_reducible refine Kd.C_drew ?_)))
            (case side2 => exact HC0_1.out)
            (case side3 => repeat (first | exact (Kd.C_below HR0_2.out HB.out) | (with_reducible refine Kd.C_alloc ?_ _) | (with_reducible refine Kd.C_drewN ?_ _) | (with_reducible refine Kd.C_drew ?_)))
            (case side4 => exact HC0_2.out)
            rintro e w75 ⟨v478, v481, rfl, ho0, ho1, hb⟩
            refine ⟨_, rfl, ?_⟩
            have n0_ := Aside0.mk (Kd.R_elder' (by (with_reducible repeat (first | apply qa | apply qb | apply qc)); exact HO_457001.out) (Kd.R_base ho0) hb)
            have n1_ := Aside0.mk (Kd.R_elder' (by (with_reducible repeat (first | apply qa | apply qb | apply qc)); exact HO_457002.out) (Kd.R_base ho1) hb)
            have n2_ := Aside0.mk (Kd.R_elder' (by (with_reducible repeat (first | apply qa | apply qb | apply qc)); exact HO_465001.out) (Kd.R_base ho0) hb)
            have n3_ := Aside0.mk (Kd.R_elder' (by (with_reducible repeat (first | apply qa | apply qb | apply qc)); exact HO_465002.out) (Kd.R_base ho1) hb)
            have n4_ := Aside0.mk (Kd.R_elder' (by (with_reducible repeat (first | apply qa | apply qb | apply qc)); exact HO_475001.out) (Kd.R_base ho0) hb)
            have n5_ := Aside0.mk (Kd.R_elder' (by (with_reducible repeat (first | apply qa | apply qb | apply qc)); exact HO_475002.out) (Kd.R_base ho1) hb)
            have n6_ := Aside0.mk (Kd.R_lower (Kd.R_new' (Kd.R_new' (Kd.R_new' ho0 (Kd.R_lt (by (with_reducible repeat (first | apply qa | apply qb | apply qc)); exact HO_457001.out))) (Kd.R_lt (by (with_reducible repeat (first | apply qa | apply qb | apply qc)); exact HO_465001.out))) (Kd.R_lt (by (with_reducible repeat (first | apply qa | apply qb | apply qc)); exact HO_475001.out))) (below_size (by repeat (first | (with_reducible first | exact HB.out | apply below_alloc | apply pw_below_drewN | apply below_drew1 | refine below_set ?_ GE438.out | refine below_set ?_ GE456.out | refine below_set ?_ GE464.out | refine below_set ?_ GE474.out) | exact HB.out))))
            have n7_ := Aside0.mk (Kd.R_lower (Kd.R_new' (Kd.R_new' (Kd.R_new' ho1 (Kd.R_lt (by (with_reducible repeat (first | apply qa | apply qb | apply qc)); exact HO_457002.out))) (Kd.R_lt (by (with_reducible repeat (first | apply qa | apply qb | apply qc)); exact HO_465002.out))) (Kd.R_lt (by (with_reducible repeat (first | apply qa | apply qb | apply qc)); exact HO_475002.out))) (below_size (by repeat (first | (with_reducible first | exact HB.out | apply below_alloc | apply pw_below_drewN | apply below_drew1 | refine below_set ?_ GE438.out | refine below_set ?_ GE456.out | refine below_set ?_ GE464.out | refine below_set ?_ GE474.out) | exact HB.out))))
            have n8_ := Aside0.mk (blk_below (g := gb438) (o := .cells #[.int .i64 a0_0, .slice A0_1 l0_1.length c0_1, .slice A0_2 l0_2.length c0_2] 25 (0, 0)) (by (with_reducible repeat (first | refine qe ?_ _ | refine qf ?_ | refine qd ?_ _)); exact BK438.out) hb)
            have n9_ := Aside0.mk (blk_below (g := gb456) (o := .cells #[.int .i64 t447, .slice Ao23 t448.length co23, .slice Ao24 t451.length co24] 31 (0, 0)) (by (with_reducible repeat (first | refine qe ?_ _ | refine qf ?_ | refine qd ?_ _)); exact BK456.out) hb)
            have n10_ := Aside0.mk (blk_below (g := gb464) (o := .cells #[.int .i64 t457, .slice Ao31 t458.length co31, .slice Ao32 t461.length co32] 31 (0, 0)) (by (with_reducible repeat (first | refine qe ?_ _ | refine qf ?_ | refine qd ?_ _)); exact BK464.out) hb)
            have n11_ := Aside0.mk (blk_below (g := gb474) (o := .cells #[.int .i64 t465, .slice Ao39 t466.length co39, .slice Ao40 t469.length co40] 31 (0, 0)) (by (with_reducible repeat (first | refine qe ?_ _ | refine qf ?_ | refine qd ?_ _)); exact BK474.out) hb)
            have n12_ := Aside0.mk (below_step (by repeat (first | (with_reducible first | exact HB.out | apply below_alloc | apply pw_below_drewN | apply below_drew1 | refine below_set ?_ GE438.out | refine below_set ?_ GE456.out | refine below_set ?_ GE464.out | refine below_set ?_ GE474.out) | exact HB.out)) hb)
            clear HO_457001
            clear HO_457002
            clear HO_465001
            clear HO_465002
            clear HO_475001
            clear HO_475002
            clear BK438
            clear BK456
            clear BK464
            clear BK474
            clear HB
            have HO_457001 := n0_
            have HO_457002 := n1_
            have HO_465001 := n2_
            have HO_465002 := n3_
            have HO_475001 := n4_
            have HO_475002 := n5_
            have HO479 := n6_
            have HO482 := n7_
            have BK438 := n8_
            have BK456 := n9_
            have BK464 := n10_
            have BK474 := n11_
            have HB := n12_
            clear n0_ n1_ n2_ n3_ n4_ n5_ n6_ n7_ n8_ n9_ n10_ n11_ n12_
            (try clear hb)
            (try clear hb2)
            (try clear hk)
            (try clear hi)
            (try clear ho0)
            (try clear ho1)
            obtain ⟨Ao76, co76, eo76⟩ := Kd.R_slice HO479.out
            (first | subst eo76 | (injection eo76 with f1_ f2_ f3_; have f4_ := f1_.symm; have f5_ := f3_.symm; clear f1_ f2_ f3_; subst f4_; subst f5_))
            obtain ⟨Ao77, co77, eo77⟩ := Kd.R_slice HO482.out
            (first | subst eo77 | (injection eo77 with f1_ f2_ f3_; have f4_ := f1_.symm; have f5_ := f3_.symm; clear f1_ f2_ f3_; subst f4_; subst f5_))
            refine hK.out _ _ ⟨(blk_cell BK464.out 0).trans rfl, (blk_cell BK464.out 1).trans rfl, (blk_cell BK464.out 2).trans rfl, (blk_cell BK438.out 0).trans rfl, (blk_cell BK438.out 1).trans rfl, (blk_cell BK438.out 2).trans rfl⟩ (fun hHeld => ?_)
            clear hK K
            refine norm_ (a' := ?_) ?_ ?_
            rotate_left
            · show Act.put _ (some 53) _ = _
              simp only [Act.put, List.setIfInBounds_toArray, List.set_cons_zero, List.set_cons_succ, i64_w, i32_w]
              rfl
            refine one_ (i := 3) (N := some 54) #[true, true, true, true, false] rfl rfl (by kernel_rfl) (by decide) (fun K hK => ?_)
            refine goes_ Try.func17 (by kernel_rfl) rfl #[.agg #[.int .i64 t457, .slice Ao31 t458.length co31, .slice Ao32 t461.length co32], .agg #[.int .i64 t476, .slice Ao76 t477.length co76, .slice Ao77 t480.length co77]] (by rfl) rfl rfl (by (try simp only [List.map_toArray, List.map_cons, List.map_nil]); first | done | rfl | (simp only [List.length_drop, List.length_take]; rfl)) ?_
            with_reducible refine (laws_eqLog.calls kj10 t457 _ _ t458 _ _ t461 t476 _ _ t477 _ _ t480 true _ ?side1 ?side2 ?side3 ?side4 ?side5 ?side6 ?side7 ?side8 A70.out).mono ?_
            (case side1 => repeat (first | exact (Kd.R_reads' HO_465001.out).2.2 | (with_reducible refine Kd.C_alloc ?_ _) | (with_reducible refine Kd.C_drewN ?_ _) | (with_reducible refine Kd.C_drew ?_)))
            (case side2 => exact (Kd.R_reads' HO_465001.out).2.1)
            (case side3 => repeat (first | exact (Kd.R_reads' HO_465002.out).2.2 | (with_reducible refine Kd.C_alloc ?_ _) | (with_reducible refine Kd.C_drewN ?_ _) | (with_reducible refine Kd.C_drew ?_)))
            (case side4 => exact (Kd.R_reads' HO_465002.out).2.1)
            (case side5 => repeat (first | exact (Kd.R_reads' HO479.out).2.2 | (with_reducible refine Kd.C_alloc ?_ _) | (with_reducible refine Kd.C_drewN ?_ _) | (with_reducible refine Kd.C_drew ?_)))
            (case side6 => exact (Kd.R_reads' HO479.out).2.1)
            (case side7 => repeat (first | exact (Kd.R_reads' HO482.out).2.2 | (with_reducible refine Kd.C_alloc ?_ _) | (with_reducible refine Kd.C_drewN ?_ _) | (with_reducible refine Kd.C_drew ?_)))
            (case side8 => exact (Kd.R_reads' HO482.out).2.1)
            rintro e w78 ⟨rfl, hb⟩
            refine ⟨_, rfl, ?_⟩
            have n0_ := Aside0.mk (Kd.R_below (by (with_reducible repeat (first | apply qa | apply qb | apply qc)); exact HO_457001.out) hb)
            have n1_ := Aside0.mk (Kd.R_below (by (with_reducible repeat (first | apply qa | apply qb | apply qc)); exact HO_457002.out) hb)
            have n2_ := Aside0.mk (Kd.R_below (by (with_reducible repeat (first | apply qa | apply qb | apply qc)); exact HO_465001.out) hb)
            have n3_ := Aside0.mk (Kd.R_below (by (with_reducible repeat (first | apply qa | apply qb | apply qc)); exact HO_465002.out) hb)
            have n4_ := Aside0.mk (Kd.R_below (by (with_reducible repeat (first | apply qa | apply qb | apply qc)); exact HO_475001.out) hb)
            have n5_ := Aside0.mk (Kd.R_below (by (with_reducible repeat (first | apply qa | apply qb | apply qc)); exact HO_475002.out) hb)
            have n6_ := Aside0.mk (Kd.R_below (by (with_reducible repeat (first | apply qa | apply qb | apply qc)); exact HO479.out) hb)
            have n7_ := Aside0.mk (Kd.R_below (by (with_reducible repeat (first | apply qa | apply qb | apply qc)); exact HO482.out) hb)
            have n8_ := Aside0.mk (blk_below (g := gb438) (o := .cells #[.int .i64 a0_0, .slice A0_1 l0_1.length c0_1, .slice A0_2 l0_2.length c0_2] 25 (0, 0)) (by (with_reducible repeat (first | refine qe ?_ _ | refine qf ?_ | refine qd ?_ _)); exact BK438.out) hb)
            have n9_ := Aside0.mk (blk_below (g := gb456) (o := .cells #[.int .i64 t447, .slice Ao23 t448.length co23, .slice Ao24 t451.length co24] 31 (0, 0)) (by (with_reducible repeat (first | refine qe ?_ _ | refine qf ?_ | refine qd ?_ _)); exact BK456.out) hb)
            have n10_ := Aside0.mk (blk_below (g := gb464) (o := .cells #[.int .i64 t457, .slice Ao31 t458.length co31, .slice Ao32 t461.length co32] 31 (0, 0)) (by (with_reducible repeat (first | refine qe ?_ _ | refine qf ?_ | refine qd ?_ _)); exact BK464.out) hb)
            have n11_ := Aside0.mk (blk_below (g := gb474) (o := .cells #[.int .i64 t465, .slice Ao39 t466.length co39, .slice Ao40 t469.length co40] 31 (0, 0)) (by (with_reducible repeat (first | refine qe ?_ _ | refine qf ?_ | refine qd ?_ _)); exact BK474.out) hb)
            have n12_ := Aside0.mk (below_step (by repeat (first | (with_reducible first | exact HB.out | apply below_alloc | apply pw_below_drewN | apply below_drew1 | refine below_set ?_ GE438.out | refine below_set ?_ GE456.out | refine below_set ?_ GE464.out | refine below_set ?_ GE474.out) | exact HB.out)) hb)
            clear HO_457001
            clear HO_457002
            clear HO_465001
            clear HO_465002
            clear HO_475001
            clear HO_475002
            clear HO479
            clear HO482
            clear BK438
            clear BK456
            clear BK464
            clear BK474
            clear HB
            have HO_457001 := n0_
            have HO_457002 := n1_
            have HO_465001 := n2_
            have HO_465002 := n3_
            have HO_475001 := n4_
            have HO_475002 := n5_
            have HO479 := n6_
            have HO482 := n7_
            have BK438 := n8_
            have BK456 := n9_
            have BK464 := n10_
            have BK474 := n11_
            have HB := n12_
            clear n0_ n1_ n2_ n3_ n4_ n5_ n6_ n7_ n8_ n9_ n10_ n11_ n12_
            (try clear hb)
            (try clear hb2)
            (try clear hk)
            (try clear hi)
            refine hK.out _ _ ⟨(blk_cell BK464.out 0).trans rfl, (blk_cell BK464.out 1).trans rfl, (blk_cell BK464.out 2).trans rfl, (blk_cell BK438.out 0).trans rfl, (blk_cell BK438.out 1).trans rfl, (blk_cell BK438.out 2).trans rfl⟩ (fun hHeld => ?_)
            clear hK K
            refine norm_ (a' := ?_) ?_ ?_
            rotate_left
            · show Act.put _ (some 54) _ = _
              simp only [Act.put, List.setIfInBounds_toArray, List.set_cons_zero, List.set_cons_succ, i64_w, i32_w]
              rfl
            refine pure_ (i := 4) (N := some 55) (v := ?_) (a' := ?_) #[true, true, true, true, true] rfl rfl (by kernel_rfl) (fun _ _ _ h => h) (Or.inl ⟨by rfl, ?_⟩) ?_ ?_
            rotate_left
            · intro w'
              go_simp
              with_reducible rfl
            rotate_left
            · simp only [Act.put, List.setIfInBounds_toArray, List.set_cons_zero, List.set_cons_succ, i64_w, i32_w]
              rfl
            refine done_ (by kernel_rfl) ?_
            have hnb79 := NB464_438.out
            have hnc79 := NB438_464.out
            have hnb80 := NB464_456.out
            have hnc80 := NB456_464.out
            have hnb81 := NB464_474.out
            have hnc81 := NB474_464.out
            have hcz82_0 : w78.cell? ⟨gb464, 0, none⟩ = some (.int .i64 t457) := (blk_cell BK464.out 0).trans rfl
            have hcz82_1 : w78.cell? ⟨gb464, 1, none⟩ = some (.slice Ao31 t458.length co31) := (blk_cell BK464.out 1).trans rfl
            have hcz82_2 : w78.cell? ⟨gb464, 2, none⟩ = some (.slice Ao32 t461.length co32) := (blk_cell BK464.out 2).trans rfl
            have hfz82_0 := blk_frozen BK464.out 0
            have hfz82_1 := blk_frozen BK464.out 1
            have hfz82_2 := blk_frozen BK464.out 2
            go_upto_region 14 with (first | ((with_reducible refine gate_callee (f := 30) rfl ?_); refine goesL_ (some 58) rfl rfl Try.func30 (by kernel_rfl) rfl #[.agg #[.int .i64 t457, .slice Ao31 t458.length co31, .slice Ao32 t461.length co32], .int .i64 1] rfl (by (try simp only [List.map_toArray, List.map_cons, List.map_nil]); first | done | rfl | (simp only [List.length_drop, List.length_take]; rfl)) ?_; (with_reducible refine (laws_markLog.calls kj10 t457 (fun k_ => some k_ = (.slice Ao31 t458.length co31 : Value).ownBlock) (.slice Ao31 t458.length co31) t458 (fun k_ => some k_ = (.slice Ao32 t461.length co32 : Value).ownBlock) (.slice Ao32 t461.length co32) t461 1 t484 t485 t486 w _ ?side1 ?side2 ?side3 A72.out).mono ?_); (case side1 => repeat (first | (with_reducible first | exact HB.out | apply below_alloc | apply pw_below_drewN | apply below_drew1 | refine below_set ?_ GE438.out | refine below_set ?_ GE456.out | refine below_set ?_ GE464.out | refine below_set ?_ GE474.out) | exact HB.out)); (case side2 => exact Kd.R_tight rfl HO_465001.out); (case side3 => exact Kd.R_tight rfl HO_465002.out); rintro e w83 ⟨rfl, hy0, hy1, hb, hkp⟩; refine ⟨_, rfl, ?_⟩; have n0_ := Aside0.mk (Kd.R_mono (ok' := fun k_ => some k_ ≠ (.slice Ao31 t458.length co31 : Value).ownBlock ∧ some k_ ≠ (.slice Ao39 t466.length co39 : Value).ownBlock ∧ some k_ ≠ (.slice Ao76 t477.length co76 : Value).ownBlock) (Kd.R_keptB ((Kd.R_apart' HO_457001.out (Kd.R_typed HO_465002.out) (by decide))) hkp (fun k_ hk_ hs_ => Or.elim hs_ (fun e_ => (hk_.1.1.1) e_) (fun e_ => (hk_.2) e_))) (fun k_ hk_ => ⟨hk_.1.1.1.1, hk_.1.1.1.2, hk_.1.1.2⟩)); have n1_ := Aside0.mk (Kd.R_mono (ok' := fun k_ => some k_ ≠ (.slice Ao32 t461.length co32 : Value).ownBlock ∧ some k_ ≠ (.slice Ao40 t469.length co40 : Value).ownBlock ∧ some k_ ≠ (.slice Ao77 t480.length co77 : Value).ownBlock) (Kd.R_keptB ((Kd.R_apart' HO_457002.out (Kd.R_typed HO_465001.out) (by decide))) hkp (fun k_ hk_ hs_ => Or.elim hs_ (fun e_ => (hk_.2) e_) (fun e_ => (hk_.1.1.1) e_))) (fun k_ hk_ => ⟨hk_.1.1.1.1, hk_.1.1.1.2, hk_.1.1.2⟩)); have n2_ := Aside0.mk (Kd.R_reok rfl hy0 (fun k_ e_ => HO_465001.out.1 k_ e_)); have n3_ := Aside0.mk (Kd.R_reok rfl hy1 (fun k_ e_ => HO_465002.out.1 k_ e_)); have n4_ := Aside0.mk (Kd.R_mono (ok' := fun k_ => some k_ ≠ (.slice Ao23 t448.length co23 : Value).ownBlock ∧ some k_ ≠ (.slice Ao31 t458.length co31 : Value).ownBlock ∧ some k_ ≠ (.slice Ao76 t477.length co76 : Value).ownBlock) (Kd.R_keptB ((Kd.R_apart' HO_475001.out (Kd.R_typed HO_465002.out) (by decide))) hkp (fun k_ hk_ hs_ => Or.elim hs_ (fun e_ => (hk_.1.1.2) e_) (fun e_ => (hk_.2) e_))) (fun k_ hk_ => ⟨hk_.1.1.1.1, hk_.1.1.1.2, hk_.1.1.2⟩)); have n5_ := Aside0.mk (Kd.R_mono (ok' := fun k_ => some k_ ≠ (.slice Ao24 t451.length co24 : Value).ownBlock ∧ some k_ ≠ (.slice Ao32 t461.length co32 : Value).ownBlock ∧ some k_ ≠ (.slice Ao77 t480.length co77 : Value).ownBlock) (Kd.R_keptB ((Kd.R_apart' HO_475002.out (Kd.R_typed HO_465001.out) (by decide))) hkp (fun k_ hk_ hs_ => Or.elim hs_ (fun e_ => (hk_.2) e_) (fun e_ => (hk_.1.1.2) e_))) (fun k_ hk_ => ⟨hk_.1.1.1.1, hk_.1.1.1.2, hk_.1.1.2⟩)); have n6_ := Aside0.mk (blk_kept (by (with_reducible repeat (first | refine qe ?_ _ | refine qf ?_ | refine qd ?_ _)); exact BK438.out) hkp (fun hs_ => Or.elim hs_ (fun e_ => (fun e_ => (Kd.R_ne HO_465001.out BK438.out (by decide)) e_) e_) (fun e_ => (fun e_ => (Kd.R_ne HO_465002.out BK438.out (by decide)) e_) e_))); have n7_ := Aside0.mk (blk_kept (by (with_reducible repeat (first | refine qe ?_ _ | refine qf ?_ | refine qd ?_ _)); exact BK456.out) hkp (fun hs_ => Or.elim hs_ (fun e_ => (fun e_ => (Kd.R_ne HO_465001.out BK456.out (by decide)) e_) e_) (fun e_ => (fun e_ => (Kd.R_ne HO_465002.out BK456.out (by decide)) e_) e_))); have n8_ := Aside0.mk (blk_kept (by (with_reducible repeat (first | refine qe ?_ _ | refine qf ?_ | refine qd ?_ _)); exact BK464.out) hkp (fun hs_ => Or.elim hs_ (fun e_ => (fun e_ => (Kd.R_ne HO_465001.out BK464.out (by decide)) e_) e_) (fun e_ => (fun e_ => (Kd.R_ne HO_465002.out BK464.out (by decide)) e_) e_))); have n9_ := Aside0.mk (blk_kept (by (with_reducible repeat (first | refine qe ?_ _ | refine qf ?_ | refine qd ?_ _)); exact BK474.out) hkp (fun hs_ => Or.elim hs_ (fun e_ => (fun e_ => (Kd.R_ne HO_465001.out BK474.out (by decide)) e_) e_) (fun e_ => (fun e_ => (Kd.R_ne HO_465002.out BK474.out (by decide)) e_) e_))); have n10_ := Aside0.mk (Kd.R_mono (ok' := fun k_ => some k_ ≠ (.slice Ao23 t448.length co23 : Value).ownBlock ∧ some k_ ≠ (.slice Ao31 t458.length co31 : Value).ownBlock ∧ some k_ ≠ (.slice Ao39 t466.length co39 : Value).ownBlock) (Kd.R_keptB ((Kd.R_apart' HO479.out (Kd.R_typed HO_465002.out) (by decide))) hkp (fun k_ hk_ hs_ => Or.elim hs_ (fun e_ => (hk_.1.1.2) e_) (fun e_ => (hk_.2) e_))) (fun k_ hk_ => ⟨hk_.1.1.1.1.2, hk_.1.1.1.2, hk_.1.1.2⟩)); have n11_ := Aside0.mk (Kd.R_mono (ok' := fun k_ => some k_ ≠ (.slice Ao24 t451.length co24 : Value).ownBlock ∧ some k_ ≠ (.slice Ao32 t461.length co32 : Value).ownBlock ∧ some k_ ≠ (.slice Ao40 t469.length co40 : Value).ownBlock) (Kd.R_keptB ((Kd.R_apart' HO482.out (Kd.R_typed HO_465001.out) (by decide))) hkp (fun k_ hk_ hs_ => Or.elim hs_ (fun e_ => (hk_.2) e_) (fun e_ => (hk_.1.1.2) e_))) (fun k_ hk_ => ⟨hk_.1.1.1.1.2, hk_.1.1.1.2, hk_.1.1.2⟩)); have n12_ := Aside0.mk (hb); clear HO_457001; clear HO_457002; clear HO_465001; clear HO_465002; clear HO_475001; clear HO_475002; clear BK438; clear BK456; clear BK464; clear BK474; clear HO479; clear HO482; clear HB; have HO_457001 := n0_; have HO_457002 := n1_; have HO_465001 := n2_; have HO_465002 := n3_; have HO_475001 := n4_; have HO_475002 := n5_; have BK438 := n6_; have BK456 := n7_; have BK464 := n8_; have BK474 := n9_; have HO479 := n10_; have HO482 := n11_; have HB := n12_; clear n0_ n1_ n2_ n3_ n4_ n5_ n6_ n7_ n8_ n9_ n10_ n11_ n12_; (try clear hb); (try clear hkp); (try clear hy0); (try clear hy1)))
            (try simp only [Act.put, List.setIfInBounds_toArray, List.set_cons_zero, List.set_cons_succ])
            go_cut [76] (fun v76 wc => ∃ (kq : Nat) (x76_72 : Bool), v76 = .bool x76_72 ∧ Aside0 (laws_FnExactRepairCounts.j1 kq t454 t455 x76_72 a0_0 l0_1 l0_2 t447 t448 t451 t465 t466 t469 = some r) ∧ Aside0 (kq ≤ kj10) ∧ Aside0 (Kd.R (Kd.int .u16) 42 wc w.heap.size (fun k_ => some k_ ≠ ((.slice Ao31 t458.length co31) : Value).ownBlock ∧ some k_ ≠ ((.slice Ao39 t466.length co39) : Value).ownBlock) (.slice Ao23 t448.length co23) t448) ∧ Aside0 (Kd.R (Kd.int .i16) 71 wc w.heap.size (fun k_ => some k_ ≠ ((.slice Ao32 t461.length co32) : Value).ownBlock ∧ some k_ ≠ ((.slice Ao40 t469.length co40) : Value).ownBlock) (.slice Ao24 t451.length co24) t451) ∧ Aside0 (Kd.R (Kd.int .u16) 42 wc w.heap.size (fun k_ => some k_ ≠ ((.slice Ao23 t448.length co23) : Value).ownBlock ∧ some k_ ≠ ((.slice Ao39 t466.length co39) : Value).ownBlock) (.slice Ao31 t458.length co31) t485) ∧ Aside0 (Kd.R (Kd.int .i16) 71 wc w.heap.size (fun k_ => some k_ ≠ ((.slice Ao24 t451.length co24) : Value).ownBlock ∧ some k_ ≠ ((.slice Ao40 t469.length co40) : Value).ownBlock) (.slice Ao32 t461.length co32) t486) ∧ Aside0 (Kd.R (Kd.int .u16) 42 wc w.heap.size (fun k_ => some k_ ≠ ((.slice Ao23 t448.length co23) : Value).ownBlock ∧ some k_ ≠ ((.slice Ao31 t458.length co31) : Value).ownBlock) (.slice Ao39 t466.length co39) t466) ∧ Aside0 (Kd.R (Kd.int .i16) 71 wc w.heap.size (fun k_ => some k_ ≠ ((.slice Ao24 t451.length co24) : Value).ownBlock ∧ some k_ ≠ ((.slice Ao32 t461.length co32) : Value).ownBlock) (.slice Ao40 t469.length co40) t469) ∧ Aside0 (wc.heap[gb438]? = some (.cells #[.int .i64 a0_0, (.slice A0_1 l0_1.length c0_1), (.slice A0_2 l0_2.length c0_2)] 25 (0, 0))) ∧ Aside0 (wc.heap[gb456]? = some (.cells #[.int .i64 t447, (.slice Ao23 t448.length co23), (.slice Ao24 t451.length co24)] 31 (0, 0))) ∧ Aside0 (wc.heap[gb464]? = some (.cells #[.int .i64 t457, (.slice Ao31 t458.length co31), (.slice Ao32 t461.length co32)] 31 (0, 0))) ∧ Aside0 (wc.heap[gb474]? = some (.cells #[.int .i64 t465, (.slice Ao39 t466.length co39), (.slice Ao40 t469.length co40)] 31 (0, 0))) ∧ Aside0 (Below w.heap.size w wc))
            case first =>
              have H := HC73.out
              clear HC73
              by_cases c84 : t484 < 0
              · rw [if_pos c84] at H
                have c84b0 : decide (t484 < 0) = true := decide_eq_true c84
                clear c84
                (first | rw [c84b0] | (simp only [i64_w, i32_w]; rw [c84b0]) | skip)
                have H' := Aside0.mk H
                clear H
                go_wp2
                go_meet
                case rel => exact ⟨_, (true), (by first | rfl | (simp; done) | (simp [*]; done)), H', ⟨by have := HJ10.out; first | omega | exact Nat.le_refl _⟩, ⟨by (with_reducible repeat (first | apply qa | apply qb | apply qc)); exact Kd.R_mono HO_457001.out (fun _ hk => ⟨hk.1, hk.2.1⟩)⟩, ⟨by (with_reducible repeat (first | apply qa | apply qb | apply qc)); exact Kd.R_mono HO_457002.out (fun _ hk => ⟨hk.1, hk.2.1⟩)⟩, ⟨by (with_reducible repeat (first | apply qa | apply qb | apply qc)); exact Kd.R_mono HO_465001.out (fun _ hk => ⟨hk.1.1, hk.1.2⟩)⟩, ⟨by (with_reducible repeat (first | apply qa | apply qb | apply qc)); exact Kd.R_mono HO_465002.out (fun _ hk => ⟨hk.1.1, hk.1.2⟩)⟩, ⟨by (with_reducible repeat (first | apply qa | apply qb | apply qc)); exact Kd.R_mono HO_475001.out (fun _ hk => ⟨hk.1, hk.2.1⟩)⟩, ⟨by (with_reducible repeat (first | apply qa | apply qb | apply qc)); exact Kd.R_mono HO_475002.out (fun _ hk => ⟨hk.1, hk.2.1⟩)⟩, ⟨by (with_reducible repeat (first | refine qe ?_ _ | refine qf ?_ | refine qd ?_ _)); exact BK438.out⟩, ⟨by (with_reducible repeat (first | refine qe ?_ _ | refine qf ?_ | refine qd ?_ _)); exact BK456.out⟩, ⟨by (with_reducible repeat (first | refine qe ?_ _ | refine qf ?_ | refine qd ?_ _)); exact BK464.out⟩, ⟨by (with_reducible repeat (first | refine qe ?_ _ | refine qf ?_ | refine qd ?_ _)); exact BK474.out⟩, ⟨by repeat (first | (with_reducible first | exact HB.out | apply below_alloc | apply pw_below_drewN | apply below_drew1 | refine below_set ?_ GE438.out | refine below_set ?_ GE456.out | refine below_set ?_ GE464.out | refine below_set ?_ GE474.out) | exact HB.out)⟩⟩
              · rw [if_neg c84] at H
                have c84b0 : decide (t484 < 0) = false := decide_eq_false c84
                clear c84
                (first | rw [c84b0] | (simp only [i64_w, i32_w]; rw [c84b0]) | skip)
                replace H := Option.bind_eq_some_iff.mp H
                obtain ⟨t487, A850, H⟩ := H
                replace H : (if t487 = true then (if t472 = t454 then (laws_FnExactRepairCounts.j1 kj10 t454 t455 (t473 != t455) a0_0 l0_1 l0_2 t447 t448 t451 t465 t466 t469) else (laws_FnExactRepairCounts.j1 kj10 t454 t455 true a0_0 l0_1 l0_2 t447 t448 t451 t465 t466 t469)) else (laws_FnExactRepairCounts.j1 kj10 t454 t455 true a0_0 l0_1 l0_2 t447 t448 t451 t465 t466 t469)) = some r := H
                have A85 := Aside0.mk A850
                clear A850
                by_cases c86 : t487 = true
                · subst c86
                  have H1 : (if t472 = t454 then (laws_FnExactRepairCounts.j1 kj10 t454 t455 (t473 != t455) a0_0 l0_1 l0_2 t447 t448 t451 t465 t466 t469) else (laws_FnExactRepairCounts.j1 kj10 t454 t455 true a0_0 l0_1 l0_2 t447 t448 t451 t465 t466 t469)) = some r := by rw [if_pos rfl] at H; exact H
                  clear H
                  have H := H1
                  clear H1
                  by_cases c87 : t472 = t454
                  · rw [if_pos c87] at H
                    have c87b0 : (t472 == t454) = true := beq_iff_eq.mpr c87
                    have c87b1 : (t472 != t454) = false := bne_eq_false_iff_eq.mpr c87
                    clear c87
                    have H' := Aside0.mk H
                    clear H
                    have hnb88 := NB474_438.out
                    have hnc88 := NB438_474.out
                    have hnb89 := NB474_456.out
                    have hnc89 := NB456_474.out
                    have hnb90 := NB474_464.out
                    have hnc90 := NB464_474.out
                    have hcz91_0 : w83.cell? ⟨gb474, 0, none⟩ = some (.int .i64 t465) := (blk_cell BK474.out 0).trans rfl
                    have hcz91_1 : w83.cell? ⟨gb474, 1, none⟩ = some (.slice Ao39 t466.length co39) := (blk_cell BK474.out 1).trans rfl
                    have hcz91_2 : w83.cell? ⟨gb474, 2, none⟩ = some (.slice Ao40 t469.length co40) := (blk_cell BK474.out 2).trans rfl
                    have hfz91_0 := blk_frozen BK474.out 0
                    have hfz91_1 := blk_frozen BK474.out 1
                    have hfz91_2 := blk_frozen BK474.out 2
                    have hnb92 := NB456_438.out
                    have hnc92 := NB438_456.out
                    have hnb93 := NB456_464.out
                    have hnc93 := NB464_456.out
                    have hcz94_0 : w83.cell? ⟨gb456, 0, none⟩ = some (.int .i64 t447) := (blk_cell BK456.out 0).trans rfl
                    have hcz94_1 : w83.cell? ⟨gb456, 1, none⟩ = some (.slice Ao23 t448.length co23) := (blk_cell BK456.out 1).trans rfl
                    have hcz94_2 : w83.cell? ⟨gb456, 2, none⟩ = some (.slice Ao24 t451.length co24) := (blk_cell BK456.out 2).trans rfl
                    have hfz94_0 := blk_frozen BK456.out 0
                    have hfz94_1 := blk_frozen BK456.out 1
                    have hfz94_2 := blk_frozen BK456.out 2
                    go_wp2_with (first | (go_at_call 17; (with_reducible refine (laws_eqLog.calls kj10 t465 _ _ t466 _ _ t469 t447 _ _ t448 _ _ t451 true _ ?side1 ?side2 ?side3 ?side4 ?side5 ?side6 ?side7 ?side8 A85.out).mono ?_); (case side1 => repeat (first | exact (Kd.R_reads' HO_475001.out).2.2 | (with_reducible refine Kd.C_alloc ?_ _) | (with_reducible refine Kd.C_drewN ?_ _) | (with_reducible refine Kd.C_drew ?_))); (case side2 => exact (Kd.R_reads' HO_475001.out).2.1); (case side3 => repeat (first | exact (Kd.R_reads' HO_475002.out).2.2 | (with_reducible refine Kd.C_alloc ?_ _) | (with_reducible refine Kd.C_drewN ?_ _) | (with_reducible refine Kd.C_drew ?_))); (case side4 => exact (Kd.R_reads' HO_475002.out).2.1); (case side5 => repeat (first | exact (Kd.R_reads' HO_457001.out).2.2 | (with_reducible refine Kd.C_alloc ?_ _) | (with_reducible refine Kd.C_drewN ?_ _) | (with_reducible refine Kd.C_drew ?_))); (case side6 => exact (Kd.R_reads' HO_457001.out).2.1); (case side7 => repeat (first | exact (Kd.R_reads' HO_457002.out).2.2 | (with_reducible refine Kd.C_alloc ?_ _) | (with_reducible refine Kd.C_drewN ?_ _) | (with_reducible refine Kd.C_drew ?_))); (case side8 => exact (Kd.R_reads' HO_457002.out).2.1); rintro e w95 ⟨rfl, hb⟩; have n0_ := Aside0.mk (Kd.R_below (by (with_reducible repeat (first | apply qa | apply qb | apply qc)); exact HO_457001.out) hb); have n1_ := Aside0.mk (Kd.R_below (by (with_reducible repeat (first | apply qa | apply qb | apply qc)); exact HO_457002.out) hb); have n2_ := Aside0.mk (Kd.R_below (by (with_reducible repeat (first | apply qa | apply qb | apply qc)); exact HO_465001.out) hb); have n3_ := Aside0.mk (Kd.R_below (by (with_reducible repeat (first | apply qa | apply qb | apply qc)); exact HO_465002.out) hb); have n4_ := Aside0.mk (Kd.R_below (by (with_reducible repeat (first | apply qa | apply qb | apply qc)); exact HO_475001.out) hb); have n5_ := Aside0.mk (Kd.R_below (by (with_reducible repeat (first | apply qa | apply qb | apply qc)); exact HO_475002.out) hb); have n6_ := Aside0.mk (Kd.R_below (by (with_reducible repeat (first | apply qa | apply qb | apply qc)); exact HO479.out) hb); have n7_ := Aside0.mk (Kd.R_below (by (with_reducible repeat (first | apply qa | apply qb | apply qc)); exact HO482.out) hb); have n8_ := Aside0.mk (blk_below (g := gb438) (o := .cells #[.int .i64 a0_0, .slice A0_1 l0_1.length c0_1, .slice A0_2 l0_2.length c0_2] 25 (0, 0)) (by (with_reducible repeat (first | refine qe ?_ _ | refine qf ?_ | refine qd ?_ _)); exact BK438.out) hb); have n9_ := Aside0.mk (blk_below (g := gb456) (o := .cells #[.int .i64 t447, .slice Ao23 t448.length co23, .slice Ao24 t451.length co24] 31 (0, 0)) (by (with_reducible repeat (first | refine qe ?_ _ | refine qf ?_ | refine qd ?_ _)); exact BK456.out) hb); have n10_ := Aside0.mk (blk_below (g := gb464) (o := .cells #[.int .i64 t457, .slice Ao31 t458.length co31, .slice Ao32 t461.length co32] 31 (0, 0)) (by (with_reducible repeat (first | refine qe ?_ _ | refine qf ?_ | refine qd ?_ _)); exact BK464.out) hb); have n11_ := Aside0.mk (blk_below (g := gb474) (o := .cells #[.int .i64 t465, .slice Ao39 t466.length co39, .slice Ao40 t469.length co40] 31 (0, 0)) (by (with_reducible repeat (first | refine qe ?_ _ | refine qf ?_ | refine qd ?_ _)); exact BK474.out) hb); have n12_ := Aside0.mk (below_step (by repeat (first | (with_reducible first | exact HB.out | apply below_alloc | apply pw_below_drewN | apply below_drew1 | refine below_set ?_ GE438.out | refine below_set ?_ GE456.out | refine below_set ?_ GE464.out | refine below_set ?_ GE474.out) | exact HB.out)) hb); clear HO_457001; clear HO_457002; clear HO_465001; clear HO_465002; clear HO_475001; clear HO_475002; clear HO479; clear HO482; clear BK438; clear BK456; clear BK464; clear BK474; clear HB; have HO_457001 := n0_; have HO_457002 := n1_; have HO_465001 := n2_; have HO_465002 := n3_; have HO_475001 := n4_; have HO_475002 := n5_; have HO479 := n6_; have HO482 := n7_; have BK438 := n8_; have BK456 := n9_; have BK464 := n10_; have BK474 := n11_; have HB := n12_; clear n0_ n1_ n2_ n3_ n4_ n5_ n6_ n7_ n8_ n9_ n10_ n11_ n12_; (try clear hb); (try clear hb2); (try clear hk); (try clear hi)))
                    go_meet
                    case rel => exact ⟨_, ((t473 != t455)), (by first | rfl | (simp; done) | (simp [*]; done)), H', ⟨by have := HJ10.out; first | omega | exact Nat.le_refl _⟩, ⟨by (with_reducible repeat (first | apply qa | apply qb | apply qc)); exact Kd.R_mono HO_457001.out (fun _ hk => ⟨hk.1, hk.2.1⟩)⟩, ⟨by (with_reducible repeat (first | apply qa | apply qb | apply qc)); exact Kd.R_mono HO_457002.out (fun _ hk => ⟨hk.1, hk.2.1⟩)⟩, ⟨by (with_reducible repeat (first | apply qa | apply qb | apply qc)); exact Kd.R_mono HO_465001.out (fun _ hk => ⟨hk.1.1, hk.1.2⟩)⟩, ⟨by (with_reducible repeat (first | apply qa | apply qb | apply qc)); exact Kd.R_mono HO_465002.out (fun _ hk => ⟨hk.1.1, hk.1.2⟩)⟩, ⟨by (with_reducible repeat (first | apply qa | apply qb | apply qc)); exact Kd.R_mono HO_475001.out (fun _ hk => ⟨hk.1, hk.2.1⟩)⟩, ⟨by (with_reducible repeat (first | apply qa | apply qb | apply qc)); exact Kd.R_mono HO_475002.out (fun _ hk => ⟨hk.1, hk.2.1⟩)⟩, ⟨by (with_reducible repeat (first | refine qe ?_ _ | refine qf ?_ | refine qd ?_ _)); exact BK438.out⟩, ⟨by (with_reducible repeat (first | refine qe ?_ _ | refine qf ?_ | refine qd ?_ _)); exact BK456.out⟩, ⟨by (with_reducible repeat (first | refine qe ?_ _ | refine qf ?_ | refine qd ?_ _)); exact BK464.out⟩, ⟨by (with_reducible repeat (first | refine qe ?_ _ | refine qf ?_ | refine qd ?_ _)); exact BK474.out⟩, ⟨by repeat (first | (with_reducible first | exact HB.out | apply below_alloc | apply pw_below_drewN | apply below_drew1 | refine below_set ?_ GE438.out | refine below_set ?_ GE456.out | refine below_set ?_ GE464.out | refine below_set ?_ GE474.out) | exact HB.out)⟩⟩
                  · rw [if_neg c87] at H
                    have c87b0 : (t472 == t454) = false := beq_eq_false_iff_ne.mpr c87
                    have c87b1 : (t472 != t454) = true := bne_iff_ne.mpr c87
                    have H' := Aside0.mk H
                    clear H
                    have hnb96 := NB474_438.out
                    have hnc96 := NB438_474.out
                    have hnb97 := NB474_456.out
                    have hnc97 := NB456_474.out
                    have hnb98 := NB474_464.out
                    have hnc98 := NB464_474.out
                    have hcz99_0 : w83.cell? ⟨gb474, 0, none⟩ = some (.int .i64 t465) := (blk_cell BK474.out 0).trans rfl
                    have hcz99_1 : w83.cell? ⟨gb474, 1, none⟩ = some (.slice Ao39 t466.length co39) := (blk_cell BK474.out 1).trans rfl
                    have hcz99_2 : w83.cell? ⟨gb474, 2, none⟩ = some (.slice Ao40 t469.length co40) := (blk_cell BK474.out 2).trans rfl
                    have hfz99_0 := blk_frozen BK474.out 0
                    have hfz99_1 := blk_frozen BK474.out 1
                    have hfz99_2 := blk_frozen BK474.out 2
                    have hnb100 := NB456_438.out
                    have hnc100 := NB438_456.out
                    have hnb101 := NB456_464.out
                    have hnc101 := NB464_456.out
                    have hcz102_0 : w83.cell? ⟨gb456, 0, none⟩ = some (.int .i64 t447) := (blk_cell BK456.out 0).trans rfl
                    have hcz102_1 : w83.cell? ⟨gb456, 1, none⟩ = some (.slice Ao23 t448.length co23) := (blk_cell BK456.out 1).trans rfl
                    have hcz102_2 : w83.cell? ⟨gb456, 2, none⟩ = some (.slice Ao24 t451.length co24) := (blk_cell BK456.out 2).trans rfl
                    have hfz102_0 := blk_frozen BK456.out 0
                    have hfz102_1 := blk_frozen BK456.out 1
                    have hfz102_2 := blk_frozen BK456.out 2
                    go_wp2_with (first | (go_at_call 17; (with_reducible refine (laws_eqLog.calls kj10 t465 _ _ t466 _ _ t469 t447 _ _ t448 _ _ t451 true _ ?side1 ?side2 ?side3 ?side4 ?side5 ?side6 ?side7 ?side8 A85.out).mono ?_); (case side1 => repeat (first | exact (Kd.R_reads' HO_475001.out).2.2 | (with_reducible refine Kd.C_alloc ?_ _) | (with_reducible refine Kd.C_drewN ?_ _) | (with_reducible refine Kd.C_drew ?_))); (case side2 => exact (Kd.R_reads' HO_475001.out).2.1); (case side3 => repeat (first | exact (Kd.R_reads' HO_475002.out).2.2 | (with_reducible refine Kd.C_alloc ?_ _) | (with_reducible refine Kd.C_drewN ?_ _) | (with_reducible refine Kd.C_drew ?_))); (case side4 => exact (Kd.R_reads' HO_475002.out).2.1); (case side5 => repeat (first | exact (Kd.R_reads' HO_457001.out).2.2 | (with_reducible refine Kd.C_alloc ?_ _) | (with_reducible refine Kd.C_drewN ?_ _) | (with_reducible refine Kd.C_drew ?_))); (case side6 => exact (Kd.R_reads' HO_457001.out).2.1); (case side7 => repeat (first | exact (Kd.R_reads' HO_457002.out).2.2 | (with_reducible refine Kd.C_alloc ?_ _) | (with_reducible refine Kd.C_drewN ?_ _) | (with_reducible refine Kd.C_drew ?_))); (case side8 => exact (Kd.R_reads' HO_457002.out).2.1); rintro e w103 ⟨rfl, hb⟩; have n0_ := Aside0.mk (Kd.R_below (by (with_reducible repeat (first | apply qa | apply qb | apply qc)); exact HO_457001.out) hb); have n1_ := Aside0.mk (Kd.R_below (by (with_reducible repeat (first | apply qa | apply qb | apply qc)); exact HO_457002.out) hb); have n2_ := Aside0.mk (Kd.R_below (by (with_reducible repeat (first | apply qa | apply qb | apply qc)); exact HO_465001.out) hb); have n3_ := Aside0.mk (Kd.R_below (by (with_reducible repeat (first | apply qa | apply qb | apply qc)); exact HO_465002.out) hb); have n4_ := Aside0.mk (Kd.R_below (by (with_reducible repeat (first | apply qa | apply qb | apply qc)); exact HO_475001.out) hb); have n5_ := Aside0.mk (Kd.R_below (by (with_reducible repeat (first | apply qa | apply qb | apply qc)); exact HO_475002.out) hb); have n6_ := Aside0.mk (Kd.R_below (by (with_reducible repeat (first | apply qa | apply qb | apply qc)); exact HO479.out) hb); have n7_ := Aside0.mk (Kd.R_below (by (with_reducible repeat (first | apply qa | apply qb | apply qc)); exact HO482.out) hb); have n8_ := Aside0.mk (blk_below (g := gb438) (o := .cells #[.int .i64 a0_0, .slice A0_1 l0_1.length c0_1, .slice A0_2 l0_2.length c0_2] 25 (0, 0)) (by (with_reducible repeat (first | refine qe ?_ _ | refine qf ?_ | refine qd ?_ _)); exact BK438.out) hb); have n9_ := Aside0.mk (blk_below (g := gb456) (o := .cells #[.int .i64 t447, .slice Ao23 t448.length co23, .slice Ao24 t451.length co24] 31 (0, 0)) (by (with_reducible repeat (first | refine qe ?_ _ | refine qf ?_ | refine qd ?_ _)); exact BK456.out) hb); have n10_ := Aside0.mk (blk_below (g := gb464) (o := .cells #[.int .i64 t457, .slice Ao31 t458.length co31, .slice Ao32 t461.length co32] 31 (0, 0)) (by (with_reducible repeat (first | refine qe ?_ _ | refine qf ?_ | refine qd ?_ _)); exact BK464.out) hb); have n11_ := Aside0.mk (blk_below (g := gb474) (o := .cells #[.int .i64 t465, .slice Ao39 t466.length co39, .slice Ao40 t469.length co40] 31 (0, 0)) (by (with_reducible repeat (first | refine qe ?_ _ | refine qf ?_ | refine qd ?_ _)); exact BK474.out) hb); have n12_ := Aside0.mk (below_step (by repeat (first | (with_reducible first | exact HB.out | apply below_alloc | apply pw_below_drewN | apply below_drew1 | refine below_set ?_ GE438.out | refine below_set ?_ GE456.out | refine below_set ?_ GE464.out | refine below_set ?_ GE474.out) | exact HB.out)) hb); clear HO_457001; clear HO_457002; clear HO_465001; clear HO_465002; clear HO_475001; clear HO_475002; clear HO479; clear HO482; clear BK438; clear BK456; clear BK464; clear BK474; clear HB; have HO_457001 := n0_; have HO_457002 := n1_; have HO_465001 := n2_; have HO_465002 := n3_; have HO_475001 := n4_; have HO_475002 := n5_; have HO479 := n6_; have HO482 := n7_; have BK438 := n8_; have BK456 := n9_; have BK464 := n10_; have BK474 := n11_; have HB := n12_; clear n0_ n1_ n2_ n3_ n4_ n5_ n6_ n7_ n8_ n9_ n10_ n11_ n12_; (try clear hb); (try clear hb2); (try clear hk); (try clear hi)))
                    go_meet
                    case rel => exact ⟨_, (true), (by first | rfl | (simp; done) | (simp [*]; done)), H', ⟨by have := HJ10.out; first | omega | exact Nat.le_refl _⟩, ⟨by (with_reducible repeat (first | apply qa | apply qb | apply qc)); exact Kd.R_mono HO_457001.out (fun _ hk => ⟨hk.1, hk.2.1⟩)⟩, ⟨by (with_reducible repeat (first | apply qa | apply qb | apply qc)); exact Kd.R_mono HO_457002.out (fun _ hk => ⟨hk.1, hk.2.1⟩)⟩, ⟨by (with_reducible repeat (first | apply qa | apply qb | apply qc)); exact Kd.R_mono HO_465001.out (fun _ hk => ⟨hk.1.1, hk.1.2⟩)⟩, ⟨by (with_reducible repeat (first | apply qa | apply qb | apply qc)); exact Kd.R_mono HO_465002.out (fun _ hk => ⟨hk.1.1, hk.1.2⟩)⟩, ⟨by (with_reducible repeat (first | apply qa | apply qb | apply qc)); exact Kd.R_mono HO_475001.out (fun _ hk => ⟨hk.1, hk.2.1⟩)⟩, ⟨by (with_reducible repeat (first | apply qa | apply qb | apply qc)); exact Kd.R_mono HO_475002.out (fun _ hk => ⟨hk.1, hk.2.1⟩)⟩, ⟨by (with_reducible repeat (first | refine qe ?_ _ | refine qf ?_ | refine qd ?_ _)); exact BK438.out⟩, ⟨by (with_reducible repeat (first | refine qe ?_ _ | refine qf ?_ | refine qd ?_ _)); exact BK456.out⟩, ⟨by (with_reducible repeat (first | refine qe ?_ _ | refine qf ?_ | refine qd ?_ _)); exact BK464.out⟩, ⟨by (with_reducible repeat (first | refine qe ?_ _ | refine qf ?_ | refine qd ?_ _)); exact BK474.out⟩, ⟨by repeat (first | (with_reducible first | exact HB.out | apply below_alloc | apply pw_below_drewN | apply below_drew1 | refine below_set ?_ GE438.out | refine below_set ?_ GE456.out | refine below_set ?_ GE464.out | refine below_set ?_ GE474.out) | exact HB.out)⟩⟩
                · replace c86 := Bool.eq_false_iff.mpr c86
                  subst c86
                  have H1 : (laws_FnExactRepairCounts.j1 kj10 t454 t455 true a0_0 l0_1 l0_2 t447 t448 t451 t465 t466 t469) = some r := by rw [if_neg (show ¬ (false = true) by decide)] at H; exact H
                  clear H
                  have H := H1
                  clear H1
                  have H' := Aside0.mk H
                  clear H
                  have hnb104 := NB474_438.out
                  have hnc104 := NB438_474.out
                  have hnb105 := NB474_456.out
                  have hnc105 := NB456_474.out
                  have hnb106 := NB474_464.out
                  have hnc106 := NB464_474.out
                  have hcz107_0 : w83.cell? ⟨gb474, 0, none⟩ = some (.int .i64 t465) := (blk_cell BK474.out 0).trans rfl
                  have hcz107_1 : w83.cell? ⟨gb474, 1, none⟩ = some (.slice Ao39 t466.length co39) := (blk_cell BK474.out 1).trans rfl
                  have hcz107_2 : w83.cell? ⟨gb474, 2, none⟩ = some (.slice Ao40 t469.length co40) := (blk_cell BK474.out 2).trans rfl
                  have hfz107_0 := blk_frozen BK474.out 0
                  have hfz107_1 := blk_frozen BK474.out 1
                  have hfz107_2 := blk_frozen BK474.out 2
                  have hnb108 := NB456_438.out
                  have hnc108 := NB438_456.out
                  have hnb109 := NB456_464.out
                  have hnc109 := NB464_456.out
                  have hcz110_0 : w83.cell? ⟨gb456, 0, none⟩ = some (.int .i64 t447) := (blk_cell BK456.out 0).trans rfl
                  have hcz110_1 : w83.cell? ⟨gb456, 1, none⟩ = some (.slice Ao23 t448.length co23) := (blk_cell BK456.out 1).trans rfl
                  have hcz110_2 : w83.cell? ⟨gb456, 2, none⟩ = some (.slice Ao24 t451.length co24) := (blk_cell BK456.out 2).trans rfl
                  have hfz110_0 := blk_frozen BK456.out 0
                  have hfz110_1 := blk_frozen BK456.out 1
                  have hfz110_2 := blk_frozen BK456.out 2
                  go_wp2_with (first | (go_at_call 17; (with_reducible refine (laws_eqLog.calls kj10 t465 _ _ t466 _ _ t469 t447 _ _ t448 _ _ t451 false _ ?side1 ?side2 ?side3 ?side4 ?side5 ?side6 ?side7 ?side8 A85.out).mono ?_); (case side1 => repeat (first | exact (Kd.R_reads' HO_475001.out).2.2 | (with_reducible refine Kd.C_alloc ?_ _) | (with_reducible refine Kd.C_drewN ?_ _) | (with_reducible refine Kd.C_drew ?_))); (case side2 => exact (Kd.R_reads' HO_475001.out).2.1); (case side3 => repeat (first | exact (Kd.R_reads' HO_475002.out).2.2 | (with_reducible refine Kd.C_alloc ?_ _) | (with_reducible refine Kd.C_drewN ?_ _) | (with_reducible refine Kd.C_drew ?_))); (case side4 => exact (Kd.R_reads' HO_475002.out).2.1); (case side5 => repeat (first | exact (Kd.R_reads' HO_457001.out).2.2 | (with_reducible refine Kd.C_alloc ?_ _) | (with_reducible refine Kd.C_drewN ?_ _) | (with_reducible refine Kd.C_drew ?_))); (case side6 => exact (Kd.R_reads' HO_457001.out).2.1); (case side7 => repeat (first | exact (Kd.R_reads' HO_457002.out).2.2 | (with_reducible refine Kd.C_alloc ?_ _) | (with_reducible refine Kd.C_drewN ?_ _) | (with_reducible refine Kd.C_drew ?_))); (case side8 => exact (Kd.R_reads' HO_457002.out).2.1); rintro e w111 ⟨rfl, hb⟩; have n0_ := Aside0.mk (Kd.R_below (by (with_reducible repeat (first | apply qa | apply qb | apply qc)); exact HO_457001.out) hb); have n1_ := Aside0.mk (Kd.R_below (by (with_reducible repeat (first | apply qa | apply qb | apply qc)); exact HO_457002.out) hb); have n2_ := Aside0.mk (Kd.R_below (by (with_reducible repeat (first | apply qa | apply qb | apply qc)); exact HO_465001.out) hb); have n3_ := Aside0.mk (Kd.R_below (by (with_reducible repeat (first | apply qa | apply qb | apply qc)); exact HO_465002.out) hb); have n4_ := Aside0.mk (Kd.R_below (by (with_reducible repeat (first | apply qa | apply qb | apply qc)); exact HO_475001.out) hb); have n5_ := Aside0.mk (Kd.R_below (by (with_reducible repeat (first | apply qa | apply qb | apply qc)); exact HO_475002.out) hb); have n6_ := Aside0.mk (Kd.R_below (by (with_reducible repeat (first | apply qa | apply qb | apply qc)); exact HO479.out) hb); have n7_ := Aside0.mk (Kd.R_below (by (with_reducible repeat (first | apply qa | apply qb | apply qc)); exact HO482.out) hb); have n8_ := Aside0.mk (blk_below (g := gb438) (o := .cells #[.int .i64 a0_0, .slice A0_1 l0_1.length c0_1, .slice A0_2 l0_2.length c0_2] 25 (0, 0)) (by (with_reducible repeat (first | refine qe ?_ _ | refine qf ?_ | refine qd ?_ _)); exact BK438.out) hb); have n9_ := Aside0.mk (blk_below (g := gb456) (o := .cells #[.int .i64 t447, .slice Ao23 t448.length co23, .slice Ao24 t451.length co24] 31 (0, 0)) (by (with_reducible repeat (first | refine qe ?_ _ | refine qf ?_ | refine qd ?_ _)); exact BK456.out) hb); have n10_ := Aside0.mk (blk_below (g := gb464) (o := .cells #[.int .i64 t457, .slice Ao31 t458.length co31, .slice Ao32 t461.length co32] 31 (0, 0)) (by (with_reducible repeat (first | refine qe ?_ _ | refine qf ?_ | refine qd ?_ _)); exact BK464.out) hb); have n11_ := Aside0.mk (blk_below (g := gb474) (o := .cells #[.int .i64 t465, .slice Ao39 t466.length co39, .slice Ao40 t469.length co40] 31 (0, 0)) (by (with_reducible repeat (first | refine qe ?_ _ | refine qf ?_ | refine qd ?_ _)); exact BK474.out) hb); have n12_ := Aside0.mk (below_step (by repeat (first | (with_reducible first | exact HB.out | apply below_alloc | apply pw_below_drewN | apply below_drew1 | refine below_set ?_ GE438.out | refine below_set ?_ GE456.out | refine below_set ?_ GE464.out | refine below_set ?_ GE474.out) | exact HB.out)) hb); clear HO_457001; clear HO_457002; clear HO_465001; clear HO_465002; clear HO_475001; clear HO_475002; clear HO479; clear HO482; clear BK438; clear BK456; clear BK464; clear BK474; clear HB; have HO_457001 := n0_; have HO_457002 := n1_; have HO_465001 := n2_; have HO_465002 := n3_; have HO_475001 := n4_; have HO_475002 := n5_; have HO479 := n6_; have HO482 := n7_; have BK438 := n8_; have BK456 := n9_; have BK464 := n10_; have BK474 := n11_; have HB := n12_; clear n0_ n1_ n2_ n3_ n4_ n5_ n6_ n7_ n8_ n9_ n10_ n11_ n12_; (try clear hb); (try clear hb2); (try clear hk); (try clear hi)))
                  go_meet
                  case rel => exact ⟨_, (true), (by first | rfl | (simp; done) | (simp [*]; done)), H', ⟨by have := HJ10.out; first | omega | exact Nat.le_refl _⟩, ⟨by (with_reducible repeat (first | apply qa | apply qb | apply qc)); exact Kd.R_mono HO_457001.out (fun _ hk => ⟨hk.1, hk.2.1⟩)⟩, ⟨by (with_reducible repeat (first | apply qa | apply qb | apply qc)); exact Kd.R_mono HO_457002.out (fun _ hk => ⟨hk.1, hk.2.1⟩)⟩, ⟨by (with_reducible repeat (first | apply qa | apply qb | apply qc)); exact Kd.R_mono HO_465001.out (fun _ hk => ⟨hk.1.1, hk.1.2⟩)⟩, ⟨by (with_reducible repeat (first | apply qa | apply qb | apply qc)); exact Kd.R_mono HO_465002.out (fun _ hk => ⟨hk.1.1, hk.1.2⟩)⟩, ⟨by (with_reducible repeat (first | apply qa | apply qb | apply qc)); exact Kd.R_mono HO_475001.out (fun _ hk => ⟨hk.1, hk.2.1⟩)⟩, ⟨by (with_reducible repeat (first | apply qa | apply qb | apply qc)); exact Kd.R_mono HO_475002.out (fun _ hk => ⟨hk.1, hk.2.1⟩)⟩, ⟨by (with_reducible repeat (first | refine qe ?_ _ | refine qf ?_ | refine qd ?_ _)); exact BK438.out⟩, ⟨by (with_reducible repeat (first | refine qe ?_ _ | refine qf ?_ | refine qd ?_ _)); exact BK456.out⟩, ⟨by (with_reducible repeat (first | refine qe ?_ _ | refine qf ?_ | refine qd ?_ _)); exact BK464.out⟩, ⟨by (with_reducible repeat (first | refine qe ?_ _ | refine qf ?_ | refine qd ?_ _)); exact BK474.out⟩, ⟨by repeat (first | (with_reducible first | exact HB.out | apply below_alloc | apply pw_below_drewN | apply below_drew1 | refine below_set ?_ GE438.out | refine below_set ?_ GE456.out | refine below_set ?_ GE464.out | refine below_set ?_ GE474.out) | exact HB.out)⟩⟩
            case rest =>
              clear HC73
              try clear c1
              try clear c2
              try clear p2
              try clear c3
              try clear c3b0
              try clear c4
              try clear c5
              try clear c6
              try clear c7
              try clear c8
              try clear c9
              try clear c10
              try clear c13
              try clear c15
              try clear c17
              try clear c21
              try clear c28
              try clear c29
              try clear c30
              try clear c35
              try clear c36
              try clear c37
              try clear c42
              try clear c43
              try clear c43b0
              try clear c43b1
              try clear c44
              try clear c45
              try clear c46
              try clear c48
              try clear c49
              try clear c52
              try clear c53
              try clear c54
              try clear c56
              try clear c57
              try clear c60
              try clear c61
              try clear c62
              try clear c64
              try clear c65
              try clear c68
              try clear c71
              try clear c79
              try clear c80
              try clear c81
              try clear c84
              try clear c84b0
              try clear c86
              try clear c87
              try clear c87b0
              try clear c87b1
              try clear c88
              try clear c89
              try clear c90
              try clear c92
              try clear c93
              try clear c96
              try clear c97
              try clear c98
              try clear c100
              try clear c101
              try clear c104
              try clear c105
              try clear c106
              try clear c108
              try clear c109
              try clear hcz102_0
              try clear hcz102_1
              try clear hcz102_2
              try clear hcz107_0
              try clear hcz107_1
              try clear hcz107_2
              try clear hcz110_0
              try clear hcz110_1
              try clear hcz110_2
              try clear hcz13_0
              try clear hcz13_1
              try clear hcz13_2
              try clear hcz15_0
              try clear hcz15_1
              try clear hcz15_2
              try clear hcz22_0
              try clear hcz22_1
              try clear hcz22_2
              try clear hcz25_0
              try clear hcz25_1
              try clear hcz25_2
              try clear hcz30_0
              try clear hcz30_1
              try clear hcz30_2
              try clear hcz38_0
              try clear hcz38_1
              try clear hcz38_2
              try clear hcz47_0
              try clear hcz47_1
              try clear hcz47_2
              try clear hcz50_0
              try clear hcz50_1
              try clear hcz50_2
              try clear hcz55_0
              try clear hcz55_1
              try clear hcz55_2
              try clear hcz58_0
              try clear hcz58_1
              try clear hcz58_2
              try clear hcz5_0
              try clear hcz5_1
              try clear hcz5_2
              try clear hcz63_0
              try clear hcz63_1
              try clear hcz63_2
              try clear hcz66_0
              try clear hcz66_1
              try clear hcz66_2
              try clear hcz82_0
              try clear hcz82_1
              try clear hcz82_2
              try clear hcz91_0
              try clear hcz91_1
              try clear hcz91_2
              try clear hcz94_0
              try clear hcz94_1
              try clear hcz94_2
              try clear hcz99_0
              try clear hcz99_1
              try clear hcz99_2
              try clear hfz102_0
              try clear hfz102_1
              try clear hfz102_2
              try clear hfz107_0
              try clear hfz107_1
              try clear hfz107_2
              try clear hfz110_0
              try clear hfz110_1
              try clear hfz110_2
              try clear hfz13_0
              try clear hfz13_1
              try clear hfz13_2
              try clear hfz15_0
              try clear hfz15_1
              try clear hfz15_2
              try clear hfz22_0
              try clear hfz22_1
              try clear hfz22_2
              try clear hfz25_0
              try clear hfz25_1
              try clear hfz25_2
              try clear hfz30_0
              try clear hfz30_1
              try clear hfz30_2
              try clear hfz38_0
              try clear hfz38_1
              try clear hfz38_2
              try clear hfz47_0
              try clear hfz47_1
              try clear hfz47_2
              try clear hfz50_0
              try clear hfz50_1
              try clear hfz50_2
              try clear hfz55_0
              try clear hfz55_1
              try clear hfz55_2
              try clear hfz58_0
              try clear hfz58_1
              try clear hfz58_2
              try clear hfz5_0
              try clear hfz5_1
              try clear hfz5_2
              try clear hfz63_0
              try clear hfz63_1
              try clear hfz63_2
              try clear hfz66_0
              try clear hfz66_1
              try clear hfz66_2
              try clear hfz82_0
              try clear hfz82_1
              try clear hfz82_2
              try clear hfz91_0
              try clear hfz91_1
              try clear hfz91_2
              try clear hfz94_0
              try clear hfz94_1
              try clear hfz94_2
              try clear hfz99_0
              try clear hfz99_1
              try clear hfz99_2
              try clear p2
              obtain ⟨kq, x76_72, rfl, HA, HJ72, HO_457001, HO_457002, HO_465001, HO_465002, HO_475001, HO_475002, BK438, BK456, BK464, BK474, HB⟩ := hcut
              have hl465001_72 := (Kd.R_reads' HO_465001.out).1
              rw [hl465001_72] at HO_465001
              (try simp only [hl465001_72])
              (try simp only [hl465001_72] at BK438)
              (try simp only [hl465001_72] at BK456)
              (try simp only [hl465001_72] at BK464)
              (try simp only [hl465001_72] at BK474)
              (try simp only [hl465001_72] at HO_457001)
              (try simp only [hl465001_72] at HO_457002)
              (try simp only [hl465001_72] at HO_465002)
              (try simp only [hl465001_72] at HO_475001)
              (try simp only [hl465001_72] at HO_475002)
              have hl465002_72 := (Kd.R_reads' HO_465002.out).1
              rw [hl465002_72] at HO_465002
              (try simp only [hl465002_72])
              (try simp only [hl465002_72] at BK438)
              (try simp only [hl465002_72] at BK456)
              (try simp only [hl465002_72] at BK464)
              (try simp only [hl465002_72] at BK474)
              (try simp only [hl465002_72] at HO_457001)
              (try simp only [hl465002_72] at HO_457002)
              (try simp only [hl465002_72] at HO_465001)
              (try simp only [hl465002_72] at HO_475001)
              (try simp only [hl465002_72] at HO_475002)
              cases kq with
              | zero => exact absurd HA.out (by simp [laws_FnExactRepairCounts.j1])
              | succ kj72 =>
                have H := HA.out
                clear HA
                simp only [laws_FnExactRepairCounts.j1] at H
                by_cases c112 : x76_72 = true
                · subst c112
                  have H1 : (some false) = some r := by rw [if_pos rfl] at H; exact H
                  clear H
                  have H := H1
                  clear H1
                  exact absurd ((Option.some.inj H).trans HT.out) (by decide)
                · replace c112 := Bool.eq_false_iff.mpr c112
                  subst c112
                  have H1 : ((laws_markLog.f kj72 t465 t466 t469 1).bind fun bt488 => ((laws_heldLog.f kj72 t465 bt488.2.1 bt488.2.2 1).bind fun t491 => (if t491 < 0 then (some false) else (if t491 = bt488.1 then ((laws_toLog.f kj72 a0_0 l0_1 l0_2).bind fun bt492 => ((impl_RepairCounts.f kj72 bt492.1 bt492.2.1 bt492.2.2).bind fun bt499 => ((laws_eqLog.f kj72 bt499.1 bt499.2.1 bt499.2.2.1 t447 t448 t451).bind fun t509 => (if t509 = true then (if bt499.2.2.2.1 = t454 then (laws_FnExactRepairCounts.j2 kj72 bt488.1 (bt499.2.2.2.2 != t455) t465 bt488.2.1 bt488.2.2) else (laws_FnExactRepairCounts.j2 kj72 bt488.1 true t465 bt488.2.1 bt488.2.2)) else (laws_FnExactRepairCounts.j2 kj72 bt488.1 true t465 bt488.2.1 bt488.2.2))))) else (some false))))) = some r := by rw [if_neg (show ¬ (false = true) by decide)] at H; exact H
                  clear H
                  have H := H1
                  clear H1
                  replace H := Option.bind_eq_some_iff.mp H
                  obtain ⟨⟨t488, t489, t490⟩, A1130, H⟩ := H
                  replace H : ((laws_heldLog.f kj72 t465 t489 t490 1).bind fun t491 => (if t491 < 0 then (some false) else (if t491 = t488 then ((laws_toLog.f kj72 a0_0 l0_1 l0_2).bind fun bt492 => ((impl_RepairCounts.f kj72 bt492.1 bt492.2.1 bt492.2.2).bind fun bt499 => ((laws_eqLog.f kj72 bt499.1 bt499.2.1 bt499.2.2.1 t447 t448 t451).bind fun t509 => (if t509 = true then (if bt499.2.2.2.1 = t454 then (laws_FnExactRepairCounts.j2 kj72 t488 (bt499.2.2.2.2 != t455) t465 t489 t490) else (laws_FnExactRepairCounts.j2 kj72 t488 true t465 t489 t490)) else (laws_FnExactRepairCounts.j2 kj72 t488 true t465 t489 t490))))) else (some false)))) = some r := H
                  have A113 := Aside0.mk A1130
                  clear A1130
                  replace H := Option.bind_eq_some_iff.mp H
                  obtain ⟨t491, A1140, H⟩ := H
                  replace H : (if t491 < 0 then (some false) else (if t491 = t488 then ((laws_toLog.f kj72 a0_0 l0_1 l0_2).bind fun bt492 => ((impl_RepairCounts.f kj72 bt492.1 bt492.2.1 bt492.2.2).bind fun bt499 => ((laws_eqLog.f kj72 bt499.1 bt499.2.1 bt499.2.2.1 t447 t448 t451).bind fun t509 => (if t509 = true then (if bt499.2.2.2.1 = t454 then (laws_FnExactRepairCounts.j2 kj72 t488 (bt499.2.2.2.2 != t455) t465 t489 t490) else (laws_FnExactRepairCounts.j2 kj72 t488 true t465 t489 t490)) else (laws_FnExactRepairCounts.j2 kj72 t488 true t465 t489 t490))))) else (some false))) = some r := H
                  have A114 := Aside0.mk A1140
                  clear A1140
                  by_cases c115 : t491 < 0
                  · rw [if_pos c115] at H
                    have c115b0 : decide (t491 < 0) = true := decide_eq_true c115
                    clear c115
                    exact absurd ((Option.some.inj H).trans HT.out) (by decide)
                  · rw [if_neg c115] at H
                    have c115b0 : decide (t491 < 0) = false := decide_eq_false c115
                    clear c115
                    by_cases c116 : t491 = t488
                    · rw [if_pos c116] at H
                      have c116b0 : (t491 == t488) = true := beq_iff_eq.mpr c116
                      have c116b1 : (t491 != t488) = false := bne_eq_false_iff_eq.mpr c116
                      clear c116
                      replace H := Option.bind_eq_some_iff.mp H
                      obtain ⟨⟨t492, t493, t496⟩, A1170, H⟩ := H
                      replace H : ((impl_RepairCounts.f kj72 t492 t493 t496).bind fun bt499 => ((laws_eqLog.f kj72 bt499.1 bt499.2.1 bt499.2.2.1 t447 t448 t451).bind fun t509 => (if t509 = true then (if bt499.2.2.2.1 = t454 then (laws_FnExactRepairCounts.j2 kj72 t488 (bt499.2.2.2.2 != t455) t465 t489 t490) else (laws_FnExactRepairCounts.j2 kj72 t488 true t465 t489 t490)) else (laws_FnExactRepairCounts.j2 kj72 t488 true t465 t489 t490)))) = some r := H
                      have A117 := Aside0.mk A1170
                      clear A1170
                      replace H := Option.bind_eq_some_iff.mp H
                      obtain ⟨⟨t499, t500, t503, t506, t507⟩, A1180, H⟩ := H
                      replace H : ((laws_eqLog.f kj72 t499 t500 t503 t447 t448 t451).bind fun t509 => (if t509 = true then (if t506 = t454 then (laws_FnExactRepairCounts.j2 kj72 t488 (t507 != t455) t465 t489 t490) else (laws_FnExactRepairCounts.j2 kj72 t488 true t465 t489 t490)) else (laws_FnExactRepairCounts.j2 kj72 t488 true t465 t489 t490))) = some r := H
                      have A118 := Aside0.mk A1180
                      clear A1180
                      have HC119 := Aside0.mk H
                      clear H
                      have hnb120 := NB474_438.out
                      have hnc120 := NB438_474.out
                      have hnb121 := NB474_456.out
                      have hnc121 := NB456_474.out
                      have hnb122 := NB474_464.out
                      have hnc122 := NB464_474.out
                      have hcz123_0 : wc.cell? ⟨gb474, 0, none⟩ = some (.int .i64 t465) := (blk_cell BK474.out 0).trans rfl
                      have hcz123_1 : wc.cell? ⟨gb474, 1, none⟩ = some (.slice Ao39 t466.length co39) := (blk_cell BK474.out 1).trans rfl
                      have hcz123_2 : wc.cell? ⟨gb474, 2, none⟩ = some (.slice Ao40 t469.length co40) := (blk_cell BK474.out 2).trans rfl
                      have hfz123_0 := blk_frozen BK474.out 0
                      have hfz123_1 := blk_frozen BK474.out 1
                      have hfz123_2 := blk_frozen BK474.out 2
                      go_upto_region 25 with (first | ((with_reducible refine gate_callee (f := 30) rfl ?_); refine goesL_ (some 79) rfl rfl Try.func30 (by kernel_rfl) rfl #[.agg #[.int .i64 t465, .slice Ao39 t466.length co39, .slice Ao40 t469.length co40], .int .i64 1] rfl (by (try simp only [List.map_toArray, List.map_cons, List.map_nil]); first | done | rfl | (simp only [List.length_drop, List.length_take]; rfl)) ?_; (with_reducible refine (laws_markLog.calls kj72 t465 (fun k_ => some k_ = (.slice Ao39 t466.length co39 : Value).ownBlock) (.slice Ao39 t466.length co39) t466 (fun k_ => some k_ = (.slice Ao40 t469.length co40 : Value).ownBlock) (.slice Ao40 t469.length co40) t469 1 t488 t489 t490 w _ ?side1 ?side2 ?side3 A113.out).mono ?_); (case side1 => repeat (first | (with_reducible first | exact HB.out | apply below_alloc | apply pw_below_drewN | apply below_drew1 | refine below_set ?_ GE438.out | refine below_set ?_ GE456.out | refine below_set ?_ GE464.out | refine below_set ?_ GE474.out) | exact HB.out)); (case side2 => exact Kd.R_tight rfl HO_475001.out); (case side3 => exact Kd.R_tight rfl HO_475002.out); rintro e w124 ⟨rfl, hy0, hy1, hb, hkp⟩; refine ⟨_, rfl, ?_⟩; have n0_ := Aside0.mk (Kd.R_mono (ok' := fun k_ => some k_ ≠ (.slice Ao31 t485.length co31 : Value).ownBlock ∧ some k_ ≠ (.slice Ao39 t466.length co39 : Value).ownBlock) (Kd.R_keptB ((Kd.R_apart' HO_457001.out (Kd.R_typed HO_475002.out) (by decide))) hkp (fun k_ hk_ hs_ => Or.elim hs_ (fun e_ => (hk_.1.2) e_) (fun e_ => (hk_.2) e_))) (fun k_ hk_ => ⟨hk_.1.1.1, hk_.1.1.2⟩)); have n1_ := Aside0.mk (Kd.R_mono (ok' := fun k_ => some k_ ≠ (.slice Ao32 t486.length co32 : Value).ownBlock ∧ some k_ ≠ (.slice Ao40 t469.length co40 : Value).ownBlock) (Kd.R_keptB ((Kd.R_apart' HO_457002.out (Kd.R_typed HO_475001.out) (by decide))) hkp (fun k_ hk_ hs_ => Or.elim hs_ (fun e_ => (hk_.2) e_) (fun e_ => (hk_.1.2) e_))) (fun k_ hk_ => ⟨hk_.1.1.1, hk_.1.1.2⟩)); have n2_ := Aside0.mk (Kd.R_mono (ok' := fun k_ => some k_ ≠ (.slice Ao23 t448.length co23 : Value).ownBlock ∧ some k_ ≠ (.slice Ao39 t466.length co39 : Value).ownBlock) (Kd.R_keptB ((Kd.R_apart' HO_465001.out (Kd.R_typed HO_475002.out) (by decide))) hkp (fun k_ hk_ hs_ => Or.elim hs_ (fun e_ => (hk_.1.2) e_) (fun e_ => (hk_.2) e_))) (fun k_ hk_ => ⟨hk_.1.1.1, hk_.1.1.2⟩)); have n3_ := Aside0.mk (Kd.R_mono (ok' := fun k_ => some k_ ≠ (.slice Ao24 t451.length co24 : Value).ownBlock ∧ some k_ ≠ (.slice Ao40 t469.length co40 : Value).ownBlock) (Kd.R_keptB ((Kd.R_apart' HO_465002.out (Kd.R_typed HO_475001.out) (by decide))) hkp (fun k_ hk_ hs_ => Or.elim hs_ (fun e_ => (hk_.2) e_) (fun e_ => (hk_.1.2) e_))) (fun k_ hk_ => ⟨hk_.1.1.1, hk_.1.1.2⟩)); have n4_ := Aside0.mk (Kd.R_reok rfl hy0 (fun k_ e_ => HO_475001.out.1 k_ e_)); have n5_ := Aside0.mk (Kd.R_reok rfl hy1 (fun k_ e_ => HO_475002.out.1 k_ e_)); have n6_ := Aside0.mk (blk_kept (by (with_reducible repeat (first | refine qe ?_ _ | refine qf ?_ | refine qd ?_ _)); exact BK438.out) hkp (fun hs_ => Or.elim hs_ (fun e_ => (fun e_ => (Kd.R_ne HO_475001.out BK438.out (by decide)) e_) e_) (fun e_ => (fun e_ => (Kd.R_ne HO_475002.out BK438.out (by decide)) e_) e_))); have n7_ := Aside0.mk (blk_kept (by (with_reducible repeat (first | refine qe ?_ _ | refine qf ?_ | refine qd ?_ _)); exact BK456.out) hkp (fun hs_ => Or.elim hs_ (fun e_ => (fun e_ => (Kd.R_ne HO_475001.out BK456.out (by decide)) e_) e_) (fun e_ => (fun e_ => (Kd.R_ne HO_475002.out BK456.out (by decide)) e_) e_))); have n8_ := Aside0.mk (blk_kept (by (with_reducible repeat (first | refine qe ?_ _ | refine qf ?_ | refine qd ?_ _)); exact BK464.out) hkp (fun hs_ => Or.elim hs_ (fun e_ => (fun e_ => (Kd.R_ne HO_475001.out BK464.out (by decide)) e_) e_) (fun e_ => (fun e_ => (Kd.R_ne HO_475002.out BK464.out (by decide)) e_) e_))); have n9_ := Aside0.mk (blk_kept (by (with_reducible repeat (first | refine qe ?_ _ | refine qf ?_ | refine qd ?_ _)); exact BK474.out) hkp (fun hs_ => Or.elim hs_ (fun e_ => (fun e_ => (Kd.R_ne HO_475001.out BK474.out (by decide)) e_) e_) (fun e_ => (fun e_ => (Kd.R_ne HO_475002.out BK474.out (by decide)) e_) e_))); have n10_ := Aside0.mk (hb); clear HO_457001; clear HO_457002; clear HO_465001; clear HO_465002; clear HO_475001; clear HO_475002; clear BK438; clear BK456; clear BK464; clear BK474; clear HB; have HO_457001 := n0_; have HO_457002 := n1_; have HO_465001 := n2_; have HO_465002 := n3_; have HO_475001 := n4_; have HO_475002 := n5_; have BK438 := n6_; have BK456 := n7_; have BK464 := n8_; have BK474 := n9_; have HB := n10_; clear n0_ n1_ n2_ n3_ n4_ n5_ n6_ n7_ n8_ n9_ n10_; (try clear hb); (try clear hkp); (try clear hy0); (try clear hy1); have hcz125_0 : w124.cell? ⟨gb474, 0, none⟩ = some (.int .i64 t465) := (blk_cell BK474.out 0).trans rfl; have hcz125_1 : w124.cell? ⟨gb474, 1, none⟩ = some (.slice Ao39 t466.length co39) := (blk_cell BK474.out 1).trans rfl; have hcz125_2 : w124.cell? ⟨gb474, 2, none⟩ = some (.slice Ao40 t469.length co40) := (blk_cell BK474.out 2).trans rfl; have hfz125_0 := blk_frozen BK474.out 0; have hfz125_1 := blk_frozen BK474.out 1; have hfz125_2 := blk_frozen BK474.out 2) | ((with_reducible refine gate_callee (f := 31) rfl ?_); refine goesL_ (some 82) rfl rfl Try.func31 (by kernel_rfl) rfl #[.agg #[.int .i64 t465, .slice Ao39 t489.length co39, .slice Ao40 t490.length co40], .int .i64 1] rfl (by (try simp only [List.map_toArray, List.map_cons, List.map_nil]); first | done | (rw [show t489.length = t466.length from (Kd.R_reads' HO_475001.out).1.symm, show t490.length = t469.length from (Kd.R_reads' HO_475002.out).1.symm] <;> rfl) | rfl | (simp only [List.length_drop, List.length_take]; rfl)) ?_; (with_reducible refine (laws_heldLog.calls kj72 t465 _ _ t489 _ _ t490 1 t491 _ ?side1 ?side2 ?side3 ?side4 A114.out).mono ?_); (case side1 => repeat (first | exact (Kd.R_reads' HO_475001.out).2.2 | (with_reducible refine Kd.C_alloc ?_ _) | (with_reducible refine Kd.C_drewN ?_ _) | (with_reducible refine Kd.C_drew ?_))); (case side2 => rw [show t489.length = t466.length from (Kd.R_reads' HO_475001.out).1.symm]; exact (Kd.R_reads' HO_475001.out).2.1); (case side3 => repeat (first | exact (Kd.R_reads' HO_475002.out).2.2 | (with_reducible refine Kd.C_alloc ?_ _) | (with_reducible refine Kd.C_drewN ?_ _) | (with_reducible refine Kd.C_drew ?_))); (case side4 => rw [show t490.length = t469.length from (Kd.R_reads' HO_475002.out).1.symm]; exact (Kd.R_reads' HO_475002.out).2.1); rintro e w126 ⟨rfl, hb⟩; refine ⟨_, rfl, ?_⟩; have n0_ := Aside0.mk (Kd.R_below (by (with_reducible repeat (first | apply qa | apply qb | apply qc)); exact HO_457001.out) hb); have n1_ := Aside0.mk (Kd.R_below (by (with_reducible repeat (first | apply qa | apply qb | apply qc)); exact HO_457002.out) hb); have n2_ := Aside0.mk (Kd.R_below (by (with_reducible repeat (first | apply qa | apply qb | apply qc)); exact HO_465001.out) hb); have n3_ := Aside0.mk (Kd.R_below (by (with_reducible repeat (first | apply qa | apply qb | apply qc)); exact HO_465002.out) hb); have n4_ := Aside0.mk (Kd.R_below (by (with_reducible repeat (first | apply qa | apply qb | apply qc)); exact HO_475001.out) hb); have n5_ := Aside0.mk (Kd.R_below (by (with_reducible repeat (first | apply qa | apply qb | apply qc)); exact HO_475002.out) hb); have n6_ := Aside0.mk (blk_below (g := gb438) (o := .cells #[.int .i64 a0_0, .slice A0_1 l0_1.length c0_1, .slice A0_2 l0_2.length c0_2] 25 (0, 0)) (by (with_reducible repeat (first | refine qe ?_ _ | refine qf ?_ | refine qd ?_ _)); exact BK438.out) hb); have n7_ := Aside0.mk (blk_below (g := gb456) (o := .cells #[.int .i64 t447, .slice Ao23 t448.length co23, .slice Ao24 t451.length co24] 31 (0, 0)) (by (with_reducible repeat (first | refine qe ?_ _ | refine qf ?_ | refine qd ?_ _)); exact BK456.out) hb); have n8_ := Aside0.mk (blk_below (g := gb464) (o := .cells #[.int .i64 t457, .slice Ao31 t485.length co31, .slice Ao32 t486.length co32] 31 (0, 0)) (by (with_reducible repeat (first | refine qe ?_ _ | refine qf ?_ | refine qd ?_ _)); exact BK464.out) hb); have n9_ := Aside0.mk (blk_below (g := gb474) (o := .cells #[.int .i64 t465, .slice Ao39 t466.length co39, .slice Ao40 t469.length co40] 31 (0, 0)) (by (with_reducible repeat (first | refine qe ?_ _ | refine qf ?_ | refine qd ?_ _)); exact BK474.out) hb); have n10_ := Aside0.mk (below_step (by repeat (first | (with_reducible first | exact HB.out | apply below_alloc | apply pw_below_drewN | apply below_drew1 | refine below_set ?_ GE438.out | refine below_set ?_ GE456.out | refine below_set ?_ GE464.out | refine below_set ?_ GE474.out) | exact HB.out)) hb); clear HO_457001; clear HO_457002; clear HO_465001; clear HO_465002; clear HO_475001; clear HO_475002; clear BK438; clear BK456; clear BK464; clear BK474; clear HB; have HO_457001 := n0_; have HO_457002 := n1_; have HO_465001 := n2_; have HO_465002 := n3_; have HO_475001 := n4_; have HO_475002 := n5_; have BK438 := n6_; have BK456 := n7_; have BK464 := n8_; have BK474 := n9_; have HB := n10_; clear n0_ n1_ n2_ n3_ n4_ n5_ n6_ n7_ n8_ n9_ n10_; (try clear hb); (try clear hb2); (try clear hk); (try clear hi); have hnb127 := NB438_456.out; have hnc127 := NB456_438.out; have hnb128 := NB438_464.out; have hnc128 := NB464_438.out; have hcz129_0 : w126.cell? ⟨gb438, 0, none⟩ = some (.int .i64 a0_0) := (blk_cell BK438.out 0).trans rfl; have hcz129_1 : w126.cell? ⟨gb438, 1, none⟩ = some (.slice A0_1 l0_1.length c0_1) := (blk_cell BK438.out 1).trans rfl; have hcz129_2 : w126.cell? ⟨gb438, 2, none⟩ = some (.slice A0_2 l0_2.length c0_2) := (blk_cell BK438.out 2).trans rfl; have hfz129_0 := blk_frozen BK438.out 0; have hfz129_1 := blk_frozen BK438.out 1; have hfz129_2 := blk_frozen BK438.out 2) | ((with_reducible refine gate_callee (f := 15) rfl ?_); refine goesL_ (some 90) rfl rfl Try.func15 (by kernel_rfl) rfl #[.agg #[.int .i64 a0_0, .slice A0_1 l0_1.length c0_1, .slice A0_2 l0_2.length c0_2]] rfl (by (try simp only [List.map_toArray, List.map_cons, List.map_nil]); first | done | rfl | (simp only [List.length_drop, List.length_take]; rfl)) ?_; (with_reducible refine (laws_toLog.calls kj72 a0_0 _ _ l0_1 _ _ l0_2 t492 t493 t496 _ ?side1 ?side2 ?side3 ?side4 A117.out).mono ?_); (case side1 => repeat (first | exact (Kd.C_below HR0_1.out HB.out) | (with_reducible refine Kd.C_alloc ?_ _) | (with_reducible refine Kd.C_drewN ?_ _) | (with_reducible refine Kd.C_drew ?_))); (case side2 => exact HC0_1.out); (case side3 => repeat (first | exact (Kd.C_below HR0_2.out HB.out) | (with_reducible refine Kd.C_alloc ?_ _) | (with_reducible refine Kd.C_drewN ?_ _) | (with_reducible refine Kd.C_drew ?_))); (case side4 => exact HC0_2.out); rintro e w130 ⟨v494, v497, rfl, ho0, ho1, hb⟩; refine ⟨_, rfl, ?_⟩; have n0_ := Aside0.mk (Kd.R_elder' (by (with_reducible repeat (first | apply qa | apply qb | apply qc)); exact HO_457001.out) (Kd.R_base ho0) hb); have n1_ := Aside0.mk (Kd.R_elder' (by (with_reducible repeat (first | apply qa | apply qb | apply qc)); exact HO_457002.out) (Kd.R_base ho1) hb); have n2_ := Aside0.mk (Kd.R_elder' (by (with_reducible repeat (first | apply qa | apply qb | apply qc)); exact HO_465001.out) (Kd.R_base ho0) hb); have n3_ := Aside0.mk (Kd.R_elder' (by (with_reducible repeat (first | apply qa | apply qb | apply qc)); exact HO_465002.out) (Kd.R_base ho1) hb); have n4_ := Aside0.mk (Kd.R_elder' (by (with_reducible repeat (first | apply qa | apply qb | apply qc)); exact HO_475001.out) (Kd.R_base ho0) hb); have n5_ := Aside0.mk (Kd.R_elder' (by (with_reducible repeat (first | apply qa | apply qb | apply qc)); exact HO_475002.out) (Kd.R_base ho1) hb); have n6_ := Aside0.mk (Kd.R_lower (Kd.R_new' (Kd.R_new' (Kd.R_new' ho0 (Kd.R_lt (by (with_reducible repeat (first | apply qa | apply qb | apply qc)); exact HO_457001.out))) (Kd.R_lt (by (with_reducible repeat (first | apply qa | apply qb | apply qc)); exact HO_465001.out))) (Kd.R_lt (by (with_reducible repeat (first | apply qa | apply qb | apply qc)); exact HO_475001.out))) (below_size (by repeat (first | (with_reducible first | exact HB.out | apply below_alloc | apply pw_below_drewN | apply below_drew1 | refine below_set ?_ GE438.out | refine below_set ?_ GE456.out | refine below_set ?_ GE464.out | refine below_set ?_ GE474.out) | exact HB.out)))); have n7_ := Aside0.mk (Kd.R_lower (Kd.R_new' (Kd.R_new' (Kd.R_new' ho1 (Kd.R_lt (by (with_reducible repeat (first | apply qa | apply qb | apply qc)); exact HO_457002.out))) (Kd.R_lt (by (with_reducible repeat (first | apply qa | apply qb | apply qc)); exact HO_465002.out))) (Kd.R_lt (by (with_reducible repeat (first | apply qa | apply qb | apply qc)); exact HO_475002.out))) (below_size (by repeat (first | (with_reducible first | exact HB.out | apply below_alloc | apply pw_below_drewN | apply below_drew1 | refine below_set ?_ GE438.out | refine below_set ?_ GE456.out | refine below_set ?_ GE464.out | refine below_set ?_ GE474.out) | exact HB.out)))); have n8_ := Aside0.mk (blk_below (g := gb438) (o := .cells #[.int .i64 a0_0, .slice A0_1 l0_1.length c0_1, .slice A0_2 l0_2.length c0_2] 25 (0, 0)) (by (with_reducible repeat (first | refine qe ?_ _ | refine qf ?_ | refine qd ?_ _)); exact BK438.out) hb); have n9_ := Aside0.mk (blk_below (g := gb456) (o := .cells #[.int .i64 t447, .slice Ao23 t448.length co23, .slice Ao24 t451.length co24] 31 (0, 0)) (by (with_reducible repeat (first | refine qe ?_ _ | refine qf ?_ | refine qd ?_ _)); exact BK456.out) hb); have n10_ := Aside0.mk (blk_below (g := gb464) (o := .cells #[.int .i64 t457, .slice Ao31 t485.length co31, .slice Ao32 t486.length co32] 31 (0, 0)) (by (with_reducible repeat (first | refine qe ?_ _ | refine qf ?_ | refine qd ?_ _)); exact BK464.out) hb); have n11_ := Aside0.mk (blk_below (g := gb474) (o := .cells #[.int .i64 t465, .slice Ao39 t466.length co39, .slice Ao40 t469.length co40] 31 (0, 0)) (by (with_reducible repeat (first | refine qe ?_ _ | refine qf ?_ | refine qd ?_ _)); exact BK474.out) hb); have n12_ := Aside0.mk (below_step (by repeat (first | (with_reducible first | exact HB.out | apply below_alloc | apply pw_below_drewN | apply below_drew1 | refine below_set ?_ GE438.out | refine below_set ?_ GE456.out | refine below_set ?_ GE464.out | refine below_set ?_ GE474.out) | exact HB.out)) hb); clear HO_457001; clear HO_457002; clear HO_465001; clear HO_465002; clear HO_475001; clear HO_475002; clear BK438; clear BK456; clear BK464; clear BK474; clear HB; have HO_457001 := n0_; have HO_457002 := n1_; have HO_465001 := n2_; have HO_465002 := n3_; have HO_475001 := n4_; have HO_475002 := n5_; have HO495 := n6_; have HO498 := n7_; have BK438 := n8_; have BK456 := n9_; have BK464 := n10_; have BK474 := n11_; have HB := n12_; clear n0_ n1_ n2_ n3_ n4_ n5_ n6_ n7_ n8_ n9_ n10_ n11_ n12_; (try clear hb); (try clear hb2); (try clear hk); (try clear hi); (try clear ho0); (try clear ho1); obtain ⟨Ao131, co131, eo131⟩ := Kd.R_slice HO495.out; subst eo131; obtain ⟨Ao132, co132, eo132⟩ := Kd.R_slice HO498.out; subst eo132) | ((with_reducible refine gate_callee (f := 29) rfl ?_); refine goesL_ (some 91) rfl rfl Try.func29 (by kernel_rfl) rfl #[.agg #[.int .i64 t492, .slice Ao131 t493.length co131, .slice Ao132 t496.length co132]] rfl (by (try simp only [List.map_toArray, List.map_cons, List.map_nil]); first | done | rfl | (simp only [List.length_drop, List.length_take]; rfl)) ?_; (with_reducible refine (impl_RepairCounts.calls kj72 t492 _ _ t493 _ _ t496 t499 t500 t503 t506 t507 _ ?side1 ?side2 ?side3 ?side4 A118.out).mono ?_); (case side1 => repeat (first | exact (Kd.R_reads' HO495.out).2.2 | (with_reducible refine Kd.C_alloc ?_ _) | (with_reducible refine Kd.C_drewN ?_ _) | (with_reducible refine Kd.C_drew ?_))); (case side2 => exact (Kd.R_reads' HO495.out).2.1); (case side3 => repeat (first | exact (Kd.R_reads' HO498.out).2.2 | (with_reducible refine Kd.C_alloc ?_ _) | (with_reducible refine Kd.C_drewN ?_ _) | (with_reducible refine Kd.C_drew ?_))); (case side4 => exact (Kd.R_reads' HO498.out).2.1); rintro e w133 ⟨v501, v504, rfl, ho0, ho1, hb⟩; refine ⟨_, rfl, ?_⟩; have n0_ := Aside0.mk (Kd.R_elder' (by (with_reducible repeat (first | apply qa | apply qb | apply qc)); exact HO_457001.out) (Kd.R_base ho0) hb); have n1_ := Aside0.mk (Kd.R_elder' (by (with_reducible repeat (first | apply qa | apply qb | apply qc)); exact HO_457002.out) (Kd.R_base ho1) hb); have n2_ := Aside0.mk (Kd.R_elder' (by (with_reducible repeat (first | apply qa | apply qb | apply qc)); exact HO_465001.out) (Kd.R_base ho0) hb); have n3_ := Aside0.mk (Kd.R_elder' (by (with_reducible repeat (first | apply qa | apply qb | apply qc)); exact HO_465002.out) (Kd.R_base ho1) hb); have n4_ := Aside0.mk (Kd.R_elder' (by (with_reducible repeat (first | apply qa | apply qb | apply qc)); exact HO_475001.out) (Kd.R_base ho0) hb); have n5_ := Aside0.mk (Kd.R_elder' (by (with_reducible repeat (first | apply qa | apply qb | apply qc)); exact HO_475002.out) (Kd.R_base ho1) hb); have n6_ := Aside0.mk (Kd.R_elder' (by (with_reducible repeat (first | apply qa | apply qb | apply qc)); exact HO495.out) (Kd.R_base ho0) hb); have n7_ := Aside0.mk (Kd.R_elder' (by (with_reducible repeat (first | apply qa | apply qb | apply qc)); exact HO498.out) (Kd.R_base ho1) hb); have n8_ := Aside0.mk (Kd.R_lower (Kd.R_new' (Kd.R_new' (Kd.R_new' (Kd.R_new' ho0 (Kd.R_lt (by (with_reducible repeat (first | apply qa | apply qb | apply qc)); exact HO_457001.out))) (Kd.R_lt (by (with_reducible repeat (first | apply qa | apply qb | apply qc)); exact HO_465001.out))) (Kd.R_lt (by (with_reducible repeat (first | apply qa | apply qb | apply qc)); exact HO_475001.out))) (Kd.R_lt (by (with_reducible repeat (first | apply qa | apply qb | apply qc)); exact HO495.out))) (below_size (by repeat (first | (with_reducible first | exact HB.out | apply below_alloc | apply pw_below_drewN | apply below_drew1 | refine below_set ?_ GE438.out | refine below_set ?_ GE456.out | refine below_set ?_ GE464.out | refine below_set ?_ GE474.out) | exact HB.out)))); have n9_ := Aside0.mk (Kd.R_lower (Kd.R_new' (Kd.R_new' (Kd.R_new' (Kd.R_new' ho1 (Kd.R_lt (by (with_reducible repeat (first | apply qa | apply qb | apply qc)); exact HO_457002.out))) (Kd.R_lt (by (with_reducible repeat (first | apply qa | apply qb | apply qc)); exact HO_465002.out))) (Kd.R_lt (by (with_reducible repeat (first | apply qa | apply qb | apply qc)); exact HO_475002.out))) (Kd.R_lt (by (with_reducible repeat (first | apply qa | apply qb | apply qc)); exact HO498.out))) (below_size (by repeat (first | (with_reducible first | exact HB.out | apply below_alloc | apply pw_below_drewN | apply below_drew1 | refine below_set ?_ GE438.out | refine below_set ?_ GE456.out | refine below_set ?_ GE464.out | refine below_set ?_ GE474.out) | exact HB.out)))); have n10_ := Aside0.mk (blk_below (g := gb438) (o := .cells #[.int .i64 a0_0, .slice A0_1 l0_1.length c0_1, .slice A0_2 l0_2.length c0_2] 25 (0, 0)) (by (with_reducible repeat (first | refine qe ?_ _ | refine qf ?_ | refine qd ?_ _)); exact BK438.out) hb); have n11_ := Aside0.mk (blk_below (g := gb456) (o := .cells #[.int .i64 t447, .slice Ao23 t448.length co23, .slice Ao24 t451.length co24] 31 (0, 0)) (by (with_reducible repeat (first | refine qe ?_ _ | refine qf ?_ | refine qd ?_ _)); exact BK456.out) hb); have n12_ := Aside0.mk (blk_below (g := gb464) (o := .cells #[.int .i64 t457, .slice Ao31 t485.length co31, .slice Ao32 t486.length co32] 31 (0, 0)) (by (with_reducible repeat (first | refine qe ?_ _ | refine qf ?_ | refine qd ?_ _)); exact BK464.out) hb); have n13_ := Aside0.mk (blk_below (g := gb474) (o := .cells #[.int .i64 t465, .slice Ao39 t466.length co39, .slice Ao40 t469.length co40] 31 (0, 0)) (by (with_reducible repeat (first | refine qe ?_ _ | refine qf ?_ | refine qd ?_ _)); exact BK474.out) hb); have n14_ := Aside0.mk (below_step (by repeat (first | (with_reducible first | exact HB.out | apply below_alloc | apply pw_below_drewN | apply below_drew1 | refine below_set ?_ GE438.out | refine below_set ?_ GE456.out | refine below_set ?_ GE464.out | refine below_set ?_ GE474.out) | exact HB.out)) hb); clear HO_457001; clear HO_457002; clear HO_465001; clear HO_465002; clear HO_475001; clear HO_475002; clear HO495; clear HO498; clear BK438; clear BK456; clear BK464; clear BK474; clear HB; have HO_457001 := n0_; have HO_457002 := n1_; have HO_465001 := n2_; have HO_465002 := n3_; have HO_475001 := n4_; have HO_475002 := n5_; have HO495 := n6_; have HO498 := n7_; have HO502 := n8_; have HO505 := n9_; have BK438 := n10_; have BK456 := n11_; have BK464 := n12_; have BK474 := n13_; have HB := n14_; clear n0_ n1_ n2_ n3_ n4_ n5_ n6_ n7_ n8_ n9_ n10_ n11_ n12_ n13_ n14_; (try clear hb); (try clear hb2); (try clear hk); (try clear hi); (try clear ho0); (try clear ho1)) | ((with_reducible refine gate_dst (N := 14) rfl ?_); refine box_event ?hg (N := 14) ?hd (cs := #[.int .i64 0, .slice none 0 0, .slice none 0 0]) (t := 31) ?hr ?_; (case hd => rfl); (case hg => rfl); (case hr => first | (go_simp; done) | (go_simp; rfl)); intro gb508 hg w134 hbox hb; have n0_ := Aside0.mk (Kd.R_below (by (with_reducible repeat (first | apply qa | apply qb | apply qc)); exact HO_457001.out) hb); have n1_ := Aside0.mk (Kd.R_below (by (with_reducible repeat (first | apply qa | apply qb | apply qc)); exact HO_457002.out) hb); have n2_ := Aside0.mk (Kd.R_below (by (with_reducible repeat (first | apply qa | apply qb | apply qc)); exact HO_465001.out) hb); have n3_ := Aside0.mk (Kd.R_below (by (with_reducible repeat (first | apply qa | apply qb | apply qc)); exact HO_465002.out) hb); have n4_ := Aside0.mk (Kd.R_below (by (with_reducible repeat (first | apply qa | apply qb | apply qc)); exact HO_475001.out) hb); have n5_ := Aside0.mk (Kd.R_below (by (with_reducible repeat (first | apply qa | apply qb | apply qc)); exact HO_475002.out) hb); have n6_ := Aside0.mk (Kd.R_below (by (with_reducible repeat (first | apply qa | apply qb | apply qc)); exact HO495.out) hb); have n7_ := Aside0.mk (Kd.R_below (by (with_reducible repeat (first | apply qa | apply qb | apply qc)); exact HO498.out) hb); have n8_ := Aside0.mk (Kd.R_below (by (with_reducible repeat (first | apply qa | apply qb | apply qc)); exact HO502.out) hb); have n9_ := Aside0.mk (Kd.R_below (by (with_reducible repeat (first | apply qa | apply qb | apply qc)); exact HO505.out) hb); have n10_ := Aside0.mk (blk_below (g := gb438) (o := .cells #[.int .i64 a0_0, .slice A0_1 l0_1.length c0_1, .slice A0_2 l0_2.length c0_2] 25 (0, 0)) (by (with_reducible repeat (first | refine qe ?_ _ | refine qf ?_ | refine qd ?_ _)); exact BK438.out) hb); have n11_ := Aside0.mk (blk_below (g := gb456) (o := .cells #[.int .i64 t447, .slice Ao23 t448.length co23, .slice Ao24 t451.length co24] 31 (0, 0)) (by (with_reducible repeat (first | refine qe ?_ _ | refine qf ?_ | refine qd ?_ _)); exact BK456.out) hb); have n12_ := Aside0.mk (blk_below (g := gb464) (o := .cells #[.int .i64 t457, .slice Ao31 t485.length co31, .slice Ao32 t486.length co32] 31 (0, 0)) (by (with_reducible repeat (first | refine qe ?_ _ | refine qf ?_ | refine qd ?_ _)); exact BK464.out) hb); have n13_ := Aside0.mk (blk_below (g := gb474) (o := .cells #[.int .i64 t465, .slice Ao39 t466.length co39, .slice Ao40 t469.length co40] 31 (0, 0)) (by (with_reducible repeat (first | refine qe ?_ _ | refine qf ?_ | refine qd ?_ _)); exact BK474.out) hb); have n14_ := Aside0.mk (below_step (by repeat (first | (with_reducible first | exact HB.out | apply below_alloc | apply pw_below_drewN | apply below_drew1 | refine below_set ?_ GE438.out | refine below_set ?_ GE456.out | refine below_set ?_ GE464.out | refine below_set ?_ GE474.out) | exact HB.out)) hb); have n15_ := Aside0.mk (hbox); have n16_ := Aside0.mk ((by rw [hg]; exact (below_size (by repeat (first | (with_reducible first | exact HB.out | apply below_alloc | apply pw_below_drewN | apply below_drew1 | refine below_set ?_ GE438.out | refine below_set ?_ GE456.out | refine below_set ?_ GE464.out | refine below_set ?_ GE474.out) | exact HB.out))) : w.heap.size ≤ gb508)); have n17_ := Aside0.mk ((by rw [hg]; exact (below_size (by repeat (first | (with_reducible first | exact HB.out | apply below_alloc | apply pw_below_drewN | apply below_drew1 | refine below_set ?_ GE438.out | refine below_set ?_ GE456.out | refine below_set ?_ GE464.out | refine below_set ?_ GE474.out) | exact HB.out))) : w.heap.size ≤ gb508)); have n18_ := Aside0.mk ((by rw [hg]; exact Nat.ne_of_lt (blk_lt (g := gb438) (o := .cells #[.int .i64 a0_0, .slice A0_1 l0_1.length c0_1, .slice A0_2 l0_2.length c0_2] 25 (0, 0)) (by (with_reducible repeat (first | refine qe ?_ _ | refine qf ?_ | refine qd ?_ _)); exact BK438.out)) : gb438 ≠ gb508)); have n19_ := Aside0.mk ((by rw [hg]; exact Nat.ne_of_gt (blk_lt (g := gb438) (o := .cells #[.int .i64 a0_0, .slice A0_1 l0_1.length c0_1, .slice A0_2 l0_2.length c0_2] 25 (0, 0)) (by (with_reducible repeat (first | refine qe ?_ _ | refine qf ?_ | refine qd ?_ _)); exact BK438.out)) : gb508 ≠ gb438)); have n20_ := Aside0.mk ((by rw [hg]; exact Nat.ne_of_lt (blk_lt (g := gb456) (o := .cells #[.int .i64 t447, .slice Ao23 t448.length co23, .slice Ao24 t451.length co24] 31 (0, 0)) (by (with_reducible repeat (first | refine qe ?_ _ | refine qf ?_ | refine qd ?_ _)); exact BK456.out)) : gb456 ≠ gb508)); have n21_ := Aside0.mk ((by rw [hg]; exact Nat.ne_of_gt (blk_lt (g := gb456) (o := .cells #[.int .i64 t447, .slice Ao23 t448.length co23, .slice Ao24 t451.length co24] 31 (0, 0)) (by (with_reducible repeat (first | refine qe ?_ _ | refine qf ?_ | refine qd ?_ _)); exact BK456.out)) : gb508 ≠ gb456)); have n22_ := Aside0.mk ((by rw [hg]; exact Nat.ne_of_lt (blk_lt (g := gb464) (o := .cells #[.int .i64 t457, .slice Ao31 t485.length co31, .slice Ao32 t486.length co32] 31 (0, 0)) (by (with_reducible repeat (first | refine qe ?_ _ | refine qf ?_ | refine qd ?_ _)); exact BK464.out)) : gb464 ≠ gb508)); have n23_ := Aside0.mk ((by rw [hg]; exact Nat.ne_of_gt (blk_lt (g := gb464) (o := .cells #[.int .i64 t457, .slice Ao31 t485.length co31, .slice Ao32 t486.length co32] 31 (0, 0)) (by (with_reducible repeat (first | refine qe ?_ _ | refine qf ?_ | refine qd ?_ _)); exact BK464.out)) : gb508 ≠ gb464)); have n24_ := Aside0.mk ((by rw [hg]; exact Nat.ne_of_lt (blk_lt (g := gb474) (o := .cells #[.int .i64 t465, .slice Ao39 t466.length co39, .slice Ao40 t469.length co40] 31 (0, 0)) (by (with_reducible repeat (first | refine qe ?_ _ | refine qf ?_ | refine qd ?_ _)); exact BK474.out)) : gb474 ≠ gb508)); have n25_ := Aside0.mk ((by rw [hg]; exact Nat.ne_of_gt (blk_lt (g := gb474) (o := .cells #[.int .i64 t465, .slice Ao39 t466.length co39, .slice Ao40 t469.length co40] 31 (0, 0)) (by (with_reducible repeat (first | refine qe ?_ _ | refine qf ?_ | refine qd ?_ _)); exact BK474.out)) : gb508 ≠ gb474)); clear HO_457001; clear HO_457002; clear HO_465001; clear HO_465002; clear HO_475001; clear HO_475002; clear HO495; clear HO498; clear HO502; clear HO505; clear BK438; clear BK456; clear BK464; clear BK474; clear HB; have HO_457001 := n0_; have HO_457002 := n1_; have HO_465001 := n2_; have HO_465002 := n3_; have HO_475001 := n4_; have HO_475002 := n5_; have HO495 := n6_; have HO498 := n7_; have HO502 := n8_; have HO505 := n9_; have BK438 := n10_; have BK456 := n11_; have BK464 := n12_; have BK474 := n13_; have HB := n14_; have BK508 := n15_; have GW508 := n16_; have GE508 := n17_; have NB438_508 := n18_; have NB508_438 := n19_; have NB456_508 := n20_; have NB508_456 := n21_; have NB464_508 := n22_; have NB508_464 := n23_; have NB474_508 := n24_; have NB508_474 := n25_; clear n0_ n1_ n2_ n3_ n4_ n5_ n6_ n7_ n8_ n9_ n10_ n11_ n12_ n13_ n14_ n15_ n16_ n17_ n18_ n19_ n20_ n21_ n22_ n23_ n24_ n25_; clear hb hbox hg; have hnb135 := NB508_438.out; have hnc135 := NB438_508.out; have hnb136 := NB508_456.out; have hnc136 := NB456_508.out; have hnb137 := NB508_464.out; have hnc137 := NB464_508.out; have hnb138 := NB508_474.out; have hnc138 := NB474_508.out; have hcz139_0 : w134.cell? ⟨gb508, 0, none⟩ = some (.int .i64 0) := (blk_cell BK508.out 0).trans rfl; have hcz139_1 : w134.cell? ⟨gb508, 1, none⟩ = some (.slice none 0 0) := (blk_cell BK508.out 1).trans rfl; have hcz139_2 : w134.cell? ⟨gb508, 2, none⟩ = some (.slice none 0 0) := (blk_cell BK508.out 2).trans rfl; have hfz139_0 := blk_frozen BK508.out 0; have hfz139_1 := blk_frozen BK508.out 1; have hfz139_2 := blk_frozen BK508.out 2; obtain ⟨Ao140, co140, eo140⟩ := Kd.R_slice HO502.out; subst eo140; obtain ⟨Ao141, co141, eo141⟩ := Kd.R_slice HO505.out; subst eo141))
                      (try simp only [Act.put, List.setIfInBounds_toArray, List.set_cons_zero, List.set_cons_succ])
                      go_cut [108] (fun v108 wc => ∃ (kq : Nat) (x108_118 : Bool), v108 = .bool x108_118 ∧ Aside0 (laws_FnExactRepairCounts.j2 kq t488 x108_118 t465 t489 t490 = some r) ∧ Aside0 (kq ≤ kj72) ∧ Aside0 (Kd.R (Kd.int .u16) 42 wc w.heap.size (fun k_ => some k_ ≠ ((.slice Ao31 t485.length co31) : Value).ownBlock ∧ some k_ ≠ ((.slice Ao39 t466.length co39) : Value).ownBlock ∧ some k_ ≠ ((.slice Ao140 t500.length co140) : Value).ownBlock) (.slice Ao23 t448.length co23) t448) ∧ Aside0 (Kd.R (Kd.int .i16) 71 wc w.heap.size (fun k_ => some k_ ≠ ((.slice Ao32 t486.length co32) : Value).ownBlock ∧ some k_ ≠ ((.slice Ao40 t469.length co40) : Value).ownBlock ∧ some k_ ≠ ((.slice Ao141 t503.length co141) : Value).ownBlock) (.slice Ao24 t451.length co24) t451) ∧ Aside0 (Kd.R (Kd.int .u16) 42 wc w.heap.size (fun k_ => some k_ ≠ ((.slice Ao23 t448.length co23) : Value).ownBlock ∧ some k_ ≠ ((.slice Ao39 t466.length co39) : Value).ownBlock ∧ some k_ ≠ ((.slice Ao140 t500.length co140) : Value).ownBlock) (.slice Ao31 t485.length co31) t485) ∧ Aside0 (Kd.R (Kd.int .i16) 71 wc w.heap.size (fun k_ => some k_ ≠ ((.slice Ao24 t451.length co24) : Value).ownBlock ∧ some k_ ≠ ((.slice Ao40 t469.length co40) : Value).ownBlock ∧ some k_ ≠ ((.slice Ao141 t503.length co141) : Value).ownBlock) (.slice Ao32 t486.length co32) t486) ∧ Aside0 (Kd.R (Kd.int .u16) 42 wc w.heap.size (fun k_ => some k_ ≠ ((.slice Ao23 t448.length co23) : Value).ownBlock ∧ some k_ ≠ ((.slice Ao31 t485.length co31) : Value).ownBlock ∧ some k_ ≠ ((.slice Ao140 t500.length co140) : Value).ownBlock) (.slice Ao39 t466.length co39) t489) ∧ Aside0 (Kd.R (Kd.int .i16) 71 wc w.heap.size (fun k_ => some k_ ≠ ((.slice Ao24 t451.length co24) : Value).ownBlock ∧ some k_ ≠ ((.slice Ao32 t486.length co32) : Value).ownBlock ∧ some k_ ≠ ((.slice Ao141 t503.length co141) : Value).ownBlock) (.slice Ao40 t469.length co40) t490) ∧ Aside0 (Kd.R (Kd.int .u16) 42 wc w.heap.size (fun k_ => some k_ ≠ ((.slice Ao23 t448.length co23) : Value).ownBlock ∧ some k_ ≠ ((.slice Ao31 t485.length co31) : Value).ownBlock ∧ some k_ ≠ ((.slice Ao39 t466.length co39) : Value).ownBlock) (.slice Ao140 t500.length co140) t500) ∧ Aside0 (Kd.R (Kd.int .i16) 71 wc w.heap.size (fun k_ => some k_ ≠ ((.slice Ao24 t451.length co24) : Value).ownBlock ∧ some k_ ≠ ((.slice Ao32 t486.length co32) : Value).ownBlock ∧ some k_ ≠ ((.slice Ao40 t469.length co40) : Value).ownBlock) (.slice Ao141 t503.length co141) t503) ∧ Aside0 (wc.heap[gb438]? = some (.cells #[.int .i64 a0_0, (.slice A0_1 l0_1.length c0_1), (.slice A0_2 l0_2.length c0_2)] 25 (0, 0))) ∧ Aside0 (wc.heap[gb456]? = some (.cells #[.int .i64 t447, (.slice Ao23 t448.length co23), (.slice Ao24 t451.length co24)] 31 (0, 0))) ∧ Aside0 (wc.heap[gb464]? = some (.cells #[.int .i64 t457, (.slice Ao31 t485.length co31), (.slice Ao32 t486.length co32)] 31 (0, 0))) ∧ Aside0 (wc.heap[gb474]? = some (.cells #[.int .i64 t465, (.slice Ao39 t466.length co39), (.slice Ao40 t469.length co40)] 31 (0, 0))) ∧ Aside0 (wc.heap[gb508]? = some (.cells #[.int .i64 t499, (.slice Ao140 t500.length co140), (.slice Ao141 t503.length co141)] 31 (0, 0))) ∧ Aside0 (Below w.heap.size w wc))
                      case first =>
                        have H := HC119.out
                        clear HC119
                        replace H := Option.bind_eq_some_iff.mp H
                        obtain ⟨t509, A1420, H⟩ := H
                        replace H : (if t509 = true then (if t506 = t454 then (laws_FnExactRepairCounts.j2 kj72 t488 (t507 != t455) t465 t489 t490) else (laws_FnExactRepairCounts.j2 kj72 t488 true t465 t489 t490)) else (laws_FnExactRepairCounts.j2 kj72 t488 true t465 t489 t490)) = some r := H
                        have A142 := Aside0.mk A1420
                        clear A1420
                        by_cases c143 : t509 = true
                        · subst c143
                          have H1 : (if t506 = t454 then (laws_FnExactRepairCounts.j2 kj72 t488 (t507 != t455) t465 t489 t490) else (laws_FnExactRepairCounts.j2 kj72 t488 true t465 t489 t490)) = some r := by rw [if_pos rfl] at H; exact H
                          clear H
                          have H := H1
                          clear H1
                          by_cases c144 : t506 = t454
                          · rw [if_pos c144] at H
                            have c144b0 : (t506 == t454) = true := beq_iff_eq.mpr c144
                            have c144b1 : (t506 != t454) = false := bne_eq_false_iff_eq.mpr c144
                            clear c144
                            (first | rw [c144b0] | (simp only [i64_w, i32_w]; rw [c144b0]) | skip)
                            have H' := Aside0.mk H
                            clear H
                            have hnb145 := NB508_438.out
                            have hnc145 := NB438_508.out
                            have hnb146 := NB508_456.out
                            have hnc146 := NB456_508.out
                            have hnb147 := NB508_464.out
                            have hnc147 := NB464_508.out
                            have hnb148 := NB508_474.out
                            have hnc148 := NB474_508.out
                            have hcz149_0 : w134.cell? ⟨gb508, 0, none⟩ = some (.int .i64 0) := (blk_cell BK508.out 0).trans rfl
                            have hcz149_1 : w134.cell? ⟨gb508, 1, none⟩ = some (.slice none 0 0) := (blk_cell BK508.out 1).trans rfl
                            have hcz149_2 : w134.cell? ⟨gb508, 2, none⟩ = some (.slice none 0 0) := (blk_cell BK508.out 2).trans rfl
                            have hfz149_0 := blk_frozen BK508.out 0
                            have hfz149_1 := blk_frozen BK508.out 1
                            have hfz149_2 := blk_frozen BK508.out 2
                            have hnb150 := NB456_438.out
                            have hnc150 := NB438_456.out
                            have hnb151 := NB456_464.out
                            have hnc151 := NB464_456.out
                            have hnb152 := NB456_474.out
                            have hnc152 := NB474_456.out
                            have hcz153_0 : w134.cell? ⟨gb456, 0, none⟩ = some (.int .i64 t447) := (blk_cell BK456.out 0).trans rfl
                            have hcz153_1 : w134.cell? ⟨gb456, 1, none⟩ = some (.slice Ao23 t448.length co23) := (blk_cell BK456.out 1).trans rfl
                            have hcz153_2 : w134.cell? ⟨gb456, 2, none⟩ = some (.slice Ao24 t451.length co24) := (blk_cell BK456.out 2).trans rfl
                            have hfz153_0 := blk_frozen BK456.out 0
                            have hfz153_1 := blk_frozen BK456.out 1
                            have hfz153_2 := blk_frozen BK456.out 2
                            go_wp2_with (first | ((with_reducible refine gate_callee (f := 17) rfl ?_); refine goesL_ (some 97) rfl rfl Try.func17 (by kernel_rfl) rfl #[.agg #[.int .i64 t499, .slice Ao140 t500.length co140, .slice Ao141 t503.length co141], .agg #[.int .i64 t447, .slice Ao23 t448.length co23, .slice Ao24 t451.length co24]] rfl (by (try simp only [List.map_toArray, List.map_cons, List.map_nil]); first | done | rfl | (simp only [List.length_drop, List.length_take]; rfl)) ?_; (with_reducible refine (laws_eqLog.calls kj72 t499 _ _ t500 _ _ t503 t447 _ _ t448 _ _ t451 true _ ?side1 ?side2 ?side3 ?side4 ?side5 ?side6 ?side7 ?side8 A142.out).mono ?_); (case side1 => refine (Kd.R_reads' (e := 42) (base := w.heap.size) (ok := fun k_ => ((((True ∧ some k_ ≠ (.slice Ao23 t448.length co23 : Value).ownBlock) ∧ some k_ ≠ (.slice Ao31 t485.length co31 : Value).ownBlock) ∧ some k_ ≠ (.slice Ao39 t466.length co39 : Value).ownBlock) ∧ some k_ ≠ (.slice Ao131 t493.length co131 : Value).ownBlock)) (n := t500.length) (c := co140) ?_).2.2; exact (by (with_reducible repeat (first | apply qa | apply qb | apply qc)); exact (Kd.R_mono (Kd.R_far (p := ⟨gb508, 2, none⟩) (Kd.R_far (p := ⟨gb508, 1, none⟩) (Kd.R_far (p := ⟨gb508, 0, none⟩) (Kd.R_types HO502.out BK508.out (by decide)) (fun _ hk => hk.2) (.int .i64 t499)) (fun _ hk => hk.2) (.slice Ao140 t500.length co140)) (fun _ hk => hk.2) (.slice Ao141 t503.length co141)) (fun _ h_ => h_.1)))); (case side2 => exact (Kd.R_reads' HO502.out).2.1); (case side3 => refine (Kd.R_reads' (e := 71) (base := w.heap.size) (ok := fun k_ => ((((True ∧ some k_ ≠ (.slice Ao24 t451.length co24 : Value).ownBlock) ∧ some k_ ≠ (.slice Ao32 t486.length co32 : Value).ownBlock) ∧ some k_ ≠ (.slice Ao40 t469.length co40 : Value).ownBlock) ∧ some k_ ≠ (.slice Ao132 t496.length co132 : Value).ownBlock)) (n := t503.length) (c := co141) ?_).2.2; exact (by (with_reducible repeat (first | apply qa | apply qb | apply qc)); exact (Kd.R_mono (Kd.R_far (p := ⟨gb508, 2, none⟩) (Kd.R_far (p := ⟨gb508, 1, none⟩) (Kd.R_far (p := ⟨gb508, 0, none⟩) (Kd.R_types HO505.out BK508.out (by decide)) (fun _ hk => hk.2) (.int .i64 t499)) (fun _ hk => hk.2) (.slice Ao140 t500.length co140)) (fun _ hk => hk.2) (.slice Ao141 t503.length co141)) (fun _ h_ => h_.1)))); (case side4 => exact (Kd.R_reads' HO505.out).2.1); (case side5 => refine (Kd.R_reads' (e := 42) (base := w.heap.size) (ok := fun k_ => (((some k_ ≠ (.slice Ao31 t485.length co31 : Value).ownBlock ∧ some k_ ≠ (.slice Ao39 t466.length co39 : Value).ownBlock) ∧ some k_ ≠ (.slice Ao131 t493.length co131 : Value).ownBlock) ∧ some k_ ≠ (.slice Ao140 t500.length co140 : Value).ownBlock)) (n := t448.length) (c := co23) ?_).2.2; exact (by (with_reducible repeat (first | apply qa | apply qb | apply qc)); exact (Kd.R_mono (Kd.R_far (p := ⟨gb508, 2, none⟩) (Kd.R_far (p := ⟨gb508, 1, none⟩) (Kd.R_far (p := ⟨gb508, 0, none⟩) (Kd.R_types HO_457001.out BK508.out (by decide)) (fun _ hk => hk.2) (.int .i64 t499)) (fun _ hk => hk.2) (.slice Ao140 t500.length co140)) (fun _ hk => hk.2) (.slice Ao141 t503.length co141)) (fun _ h_ => h_.1)))); (case side6 => exact (Kd.R_reads' HO_457001.out).2.1); (case side7 => refine (Kd.R_reads' (e := 71) (base := w.heap.size) (ok := fun k_ => (((some k_ ≠ (.slice Ao32 t486.length co32 : Value).ownBlock ∧ some k_ ≠ (.slice Ao40 t469.length co40 : Value).ownBlock) ∧ some k_ ≠ (.slice Ao132 t496.length co132 : Value).ownBlock) ∧ some k_ ≠ (.slice Ao141 t503.length co141 : Value).ownBlock)) (n := t451.length) (c := co24) ?_).2.2; exact (by (with_reducible repeat (first | apply qa | apply qb | apply qc)); exact (Kd.R_mono (Kd.R_far (p := ⟨gb508, 2, none⟩) (Kd.R_far (p := ⟨gb508, 1, none⟩) (Kd.R_far (p := ⟨gb508, 0, none⟩) (Kd.R_types HO_457002.out BK508.out (by decide)) (fun _ hk => hk.2) (.int .i64 t499)) (fun _ hk => hk.2) (.slice Ao140 t500.length co140)) (fun _ hk => hk.2) (.slice Ao141 t503.length co141)) (fun _ h_ => h_.1)))); (case side8 => exact (Kd.R_reads' HO_457002.out).2.1); rintro e w154 ⟨rfl, hb⟩; refine ⟨_, rfl, ?_⟩; have n0_ := Aside0.mk (Kd.R_below (by (with_reducible repeat (first | apply qa | apply qb | apply qc)); exact (Kd.R_mono (Kd.R_far (p := ⟨gb508, 2, none⟩) (Kd.R_far (p := ⟨gb508, 1, none⟩) (Kd.R_far (p := ⟨gb508, 0, none⟩) (Kd.R_types HO_457001.out BK508.out (by decide)) (fun _ hk => hk.2) (.int .i64 t499)) (fun _ hk => hk.2) (.slice Ao140 t500.length co140)) (fun _ hk => hk.2) (.slice Ao141 t503.length co141)) (fun _ h_ => h_.1))) hb); have n1_ := Aside0.mk (Kd.R_below (by (with_reducible repeat (first | apply qa | apply qb | apply qc)); exact (Kd.R_mono (Kd.R_far (p := ⟨gb508, 2, none⟩) (Kd.R_far (p := ⟨gb508, 1, none⟩) (Kd.R_far (p := ⟨gb508, 0, none⟩) (Kd.R_types HO_457002.out BK508.out (by decide)) (fun _ hk => hk.2) (.int .i64 t499)) (fun _ hk => hk.2) (.slice Ao140 t500.length co140)) (fun _ hk => hk.2) (.slice Ao141 t503.length co141)) (fun _ h_ => h_.1))) hb); have n2_ := Aside0.mk (Kd.R_below (by (with_reducible repeat (first | apply qa | apply qb | apply qc)); exact (Kd.R_mono (Kd.R_far (p := ⟨gb508, 2, none⟩) (Kd.R_far (p := ⟨gb508, 1, none⟩) (Kd.R_far (p := ⟨gb508, 0, none⟩) (Kd.R_types HO_465001.out BK508.out (by decide)) (fun _ hk => hk.2) (.int .i64 t499)) (fun _ hk => hk.2) (.slice Ao140 t500.length co140)) (fun _ hk => hk.2) (.slice Ao141 t503.length co141)) (fun _ h_ => h_.1))) hb); have n3_ := Aside0.mk (Kd.R_below (by (with_reducible repeat (first | apply qa | apply qb | apply qc)); exact (Kd.R_mono (Kd.R_far (p := ⟨gb508, 2, none⟩) (Kd.R_far (p := ⟨gb508, 1, none⟩) (Kd.R_far (p := ⟨gb508, 0, none⟩) (Kd.R_types HO_465002.out BK508.out (by decide)) (fun _ hk => hk.2) (.int .i64 t499)) (fun _ hk => hk.2) (.slice Ao140 t500.length co140)) (fun _ hk => hk.2) (.slice Ao141 t503.length co141)) (fun _ h_ => h_.1))) hb); have n4_ := Aside0.mk (Kd.R_below (by (with_reducible repeat (first | apply qa | apply qb | apply qc)); exact (Kd.R_mono (Kd.R_far (p := ⟨gb508, 2, none⟩) (Kd.R_far (p := ⟨gb508, 1, none⟩) (Kd.R_far (p := ⟨gb508, 0, none⟩) (Kd.R_types HO_475001.out BK508.out (by decide)) (fun _ hk => hk.2) (.int .i64 t499)) (fun _ hk => hk.2) (.slice Ao140 t500.length co140)) (fun _ hk => hk.2) (.slice Ao141 t503.length co141)) (fun _ h_ => h_.1))) hb); have n5_ := Aside0.mk (Kd.R_below (by (with_reducible repeat (first | apply qa | apply qb | apply qc)); exact (Kd.R_mono (Kd.R_far (p := ⟨gb508, 2, none⟩) (Kd.R_far (p := ⟨gb508, 1, none⟩) (Kd.R_far (p := ⟨gb508, 0, none⟩) (Kd.R_types HO_475002.out BK508.out (by decide)) (fun _ hk => hk.2) (.int .i64 t499)) (fun _ hk => hk.2) (.slice Ao140 t500.length co140)) (fun _ hk => hk.2) (.slice Ao141 t503.length co141)) (fun _ h_ => h_.1))) hb); have n6_ := Aside0.mk (Kd.R_below (by (with_reducible repeat (first | apply qa | apply qb | apply qc)); exact (Kd.R_mono (Kd.R_far (p := ⟨gb508, 2, none⟩) (Kd.R_far (p := ⟨gb508, 1, none⟩) (Kd.R_far (p := ⟨gb508, 0, none⟩) (Kd.R_types HO495.out BK508.out (by decide)) (fun _ hk => hk.2) (.int .i64 t499)) (fun _ hk => hk.2) (.slice Ao140 t500.length co140)) (fun _ hk => hk.2) (.slice Ao141 t503.length co141)) (fun _ h_ => h_.1))) hb); have n7_ := Aside0.mk (Kd.R_below (by (with_reducible repeat (first | apply qa | apply qb | apply qc)); exact (Kd.R_mono (Kd.R_far (p := ⟨gb508, 2, none⟩) (Kd.R_far (p := ⟨gb508, 1, none⟩) (Kd.R_far (p := ⟨gb508, 0, none⟩) (Kd.R_types HO498.out BK508.out (by decide)) (fun _ hk => hk.2) (.int .i64 t499)) (fun _ hk => hk.2) (.slice Ao140 t500.length co140)) (fun _ hk => hk.2) (.slice Ao141 t503.length co141)) (fun _ h_ => h_.1))) hb); have n8_ := Aside0.mk (Kd.R_below (by (with_reducible repeat (first | apply qa | apply qb | apply qc)); exact (Kd.R_mono (Kd.R_far (p := ⟨gb508, 2, none⟩) (Kd.R_far (p := ⟨gb508, 1, none⟩) (Kd.R_far (p := ⟨gb508, 0, none⟩) (Kd.R_types HO502.out BK508.out (by decide)) (fun _ hk => hk.2) (.int .i64 t499)) (fun _ hk => hk.2) (.slice Ao140 t500.length co140)) (fun _ hk => hk.2) (.slice Ao141 t503.length co141)) (fun _ h_ => h_.1))) hb); have n9_ := Aside0.mk (Kd.R_below (by (with_reducible repeat (first | apply qa | apply qb | apply qc)); exact (Kd.R_mono (Kd.R_far (p := ⟨gb508, 2, none⟩) (Kd.R_far (p := ⟨gb508, 1, none⟩) (Kd.R_far (p := ⟨gb508, 0, none⟩) (Kd.R_types HO505.out BK508.out (by decide)) (fun _ hk => hk.2) (.int .i64 t499)) (fun _ hk => hk.2) (.slice Ao140 t500.length co140)) (fun _ hk => hk.2) (.slice Ao141 t503.length co141)) (fun _ h_ => h_.1))) hb); have n10_ := Aside0.mk (blk_below (g := gb438) (o := .cells #[.int .i64 a0_0, .slice A0_1 l0_1.length c0_1, .slice A0_2 l0_2.length c0_2] 25 (0, 0)) (by (with_reducible repeat (first | refine qe ?_ _ | refine qf ?_ | refine qd ?_ _)); refine blk_far ?_ NB438_508.out _; (with_reducible repeat (first | refine qe ?_ _ | refine qf ?_ | refine qd ?_ _)); refine blk_far ?_ NB438_508.out _; (with_reducible repeat (first | refine qe ?_ _ | refine qf ?_ | refine qd ?_ _)); refine blk_far ?_ NB438_508.out _; (with_reducible repeat (first | refine qe ?_ _ | refine qf ?_ | refine qd ?_ _)); exact BK438.out) hb); have n11_ := Aside0.mk (blk_below (g := gb456) (o := .cells #[.int .i64 t447, .slice Ao23 t448.length co23, .slice Ao24 t451.length co24] 31 (0, 0)) (by (with_reducible repeat (first | refine qe ?_ _ | refine qf ?_ | refine qd ?_ _)); refine blk_far ?_ NB456_508.out _; (with_reducible repeat (first | refine qe ?_ _ | refine qf ?_ | refine qd ?_ _)); refine blk_far ?_ NB456_508.out _; (with_reducible repeat (first | refine qe ?_ _ | refine qf ?_ | refine qd ?_ _)); refine blk_far ?_ NB456_508.out _; (with_reducible repeat (first | refine qe ?_ _ | refine qf ?_ | refine qd ?_ _)); exact BK456.out) hb); have n12_ := Aside0.mk (blk_below (g := gb464) (o := .cells #[.int .i64 t457, .slice Ao31 t485.length co31, .slice Ao32 t486.length co32] 31 (0, 0)) (by (with_reducible repeat (first | refine qe ?_ _ | refine qf ?_ | refine qd ?_ _)); refine blk_far ?_ NB464_508.out _; (with_reducible repeat (first | refine qe ?_ _ | refine qf ?_ | refine qd ?_ _)); refine blk_far ?_ NB464_508.out _; (with_reducible repeat (first | refine qe ?_ _ | refine qf ?_ | refine qd ?_ _)); refine blk_far ?_ NB464_508.out _; (with_reducible repeat (first | refine qe ?_ _ | refine qf ?_ | refine qd ?_ _)); exact BK464.out) hb); have n13_ := Aside0.mk (blk_below (g := gb474) (o := .cells #[.int .i64 t465, .slice Ao39 t466.length co39, .slice Ao40 t469.length co40] 31 (0, 0)) (by (with_reducible repeat (first | refine qe ?_ _ | refine qf ?_ | refine qd ?_ _)); refine blk_far ?_ NB474_508.out _; (with_reducible repeat (first | refine qe ?_ _ | refine qf ?_ | refine qd ?_ _)); refine blk_far ?_ NB474_508.out _; (with_reducible repeat (first | refine qe ?_ _ | refine qf ?_ | refine qd ?_ _)); refine blk_far ?_ NB474_508.out _; (with_reducible repeat (first | refine qe ?_ _ | refine qf ?_ | refine qd ?_ _)); exact BK474.out) hb); have n14_ := Aside0.mk (blk_below (g := gb508) (o := .cells #[.int .i64 t499, .slice Ao140 t500.length co140, .slice Ao141 t503.length co141] 31 (0, 0)) (by (with_reducible repeat (first | refine qe ?_ _ | refine qf ?_ | refine qd ?_ _)); refine blk_put (cs := #[.int .i64 t499, .slice Ao140 t500.length co140, .slice none 0 0]) ?_ 2 _ rfl; (with_reducible repeat (first | refine qe ?_ _ | refine qf ?_ | refine qd ?_ _)); refine blk_put (cs := #[.int .i64 t499, .slice none 0 0, .slice none 0 0]) ?_ 1 _ rfl; (with_reducible repeat (first | refine qe ?_ _ | refine qf ?_ | refine qd ?_ _)); refine blk_put (cs := #[.int .i64 0, .slice none 0 0, .slice none 0 0]) ?_ 0 _ rfl; (with_reducible repeat (first | refine qe ?_ _ | refine qf ?_ | refine qd ?_ _)); exact BK508.out) hb); have n15_ := Aside0.mk (below_step (by repeat (first | (with_reducible first | exact HB.out | apply below_alloc | apply pw_below_drewN | apply below_drew1 | refine below_set ?_ GE438.out | refine below_set ?_ GE456.out | refine below_set ?_ GE464.out | refine below_set ?_ GE474.out | refine below_set ?_ GE508.out) | exact HB.out)) hb); clear HO_457001; clear HO_457002; clear HO_465001; clear HO_465002; clear HO_475001; clear HO_475002; clear HO495; clear HO498; clear HO502; clear HO505; clear BK438; clear BK456; clear BK464; clear BK474; clear BK508; clear HB; have HO_457001 := n0_; have HO_457002 := n1_; have HO_465001 := n2_; have HO_465002 := n3_; have HO_475001 := n4_; have HO_475002 := n5_; have HO495 := n6_; have HO498 := n7_; have HO502 := n8_; have HO505 := n9_; have BK438 := n10_; have BK456 := n11_; have BK464 := n12_; have BK474 := n13_; have BK508 := n14_; have HB := n15_; clear n0_ n1_ n2_ n3_ n4_ n5_ n6_ n7_ n8_ n9_ n10_ n11_ n12_ n13_ n14_ n15_; (try clear hb); (try clear hb2); (try clear hk); (try clear hi)))
                            go_meet
                            case rel => exact ⟨_, ((t507 != t455)), (by first | rfl | (simp; done) | (simp [*]; done)), H', ⟨by have := HJ10.out; have := HJ72.out; first | omega | exact Nat.le_refl _⟩, ⟨by (try simp only [hl465001_72]); (try simp only [hl465002_72]); (with_reducible repeat (first | apply qa | apply qb | apply qc)); exact Kd.R_mono HO_457001.out (fun _ hk => ⟨hk.1.1.1, ⟨hk.1.1.2, hk.2⟩⟩)⟩, ⟨by (try simp only [hl465001_72]); (try simp only [hl465002_72]); (with_reducible repeat (first | apply qa | apply qb | apply qc)); exact Kd.R_mono HO_457002.out (fun _ hk => ⟨hk.1.1.1, ⟨hk.1.1.2, hk.2⟩⟩)⟩, ⟨by (try simp only [hl465001_72]); (try simp only [hl465002_72]); (with_reducible repeat (first | apply qa | apply qb | apply qc)); exact Kd.R_mono HO_465001.out (fun _ hk => ⟨hk.1.1.1, ⟨hk.1.1.2, hk.2⟩⟩)⟩, ⟨by (try simp only [hl465001_72]); (try simp only [hl465002_72]); (with_reducible repeat (first | apply qa | apply qb | apply qc)); exact Kd.R_mono HO_465002.out (fun _ hk => ⟨hk.1.1.1, ⟨hk.1.1.2, hk.2⟩⟩)⟩, ⟨by (try simp only [hl465001_72]); (try simp only [hl465002_72]); (with_reducible repeat (first | apply qa | apply qb | apply qc)); exact Kd.R_mono HO_475001.out (fun _ hk => ⟨hk.1.1.1, ⟨hk.1.1.2, hk.2⟩⟩)⟩, ⟨by (try simp only [hl465001_72]); (try simp only [hl465002_72]); (with_reducible repeat (first | apply qa | apply qb | apply qc)); exact Kd.R_mono HO_475002.out (fun _ hk => ⟨hk.1.1.1, ⟨hk.1.1.2, hk.2⟩⟩)⟩, ⟨by (try simp only [hl465001_72]); (try simp only [hl465002_72]); (with_reducible repeat (first | apply qa | apply qb | apply qc)); exact Kd.R_mono HO502.out (fun _ hk => ⟨hk.1.1.1.2, ⟨hk.1.1.2, hk.1.2⟩⟩)⟩, ⟨by (try simp only [hl465001_72]); (try simp only [hl465002_72]); (with_reducible repeat (first | apply qa | apply qb | apply qc)); exact Kd.R_mono HO505.out (fun _ hk => ⟨hk.1.1.1.2, ⟨hk.1.1.2, hk.1.2⟩⟩)⟩, ⟨by (try simp only [hl465001_72]); (try simp only [hl465002_72]); (with_reducible repeat (first | refine qe ?_ _ | refine qf ?_ | refine qd ?_ _)); exact BK438.out⟩, ⟨by (try simp only [hl465001_72]); (try simp only [hl465002_72]); (with_reducible repeat (first | refine qe ?_ _ | refine qf ?_ | refine qd ?_ _)); exact BK456.out⟩, ⟨by (try simp only [hl465001_72]); (try simp only [hl465002_72]); (with_reducible repeat (first | refine qe ?_ _ | refine qf ?_ | refine qd ?_ _)); exact BK464.out⟩, ⟨by (try simp only [hl465001_72]); (try simp only [hl465002_72]); (with_reducible repeat (first | refine qe ?_ _ | refine qf ?_ | refine qd ?_ _)); exact BK474.out⟩, ⟨by (try simp only [hl465001_72]); (try simp only [hl465002_72]); (with_reducible repeat (first | refine qe ?_ _ | refine qf ?_ | refine qd ?_ _)); exact BK508.out⟩, ⟨by repeat (first | (with_reducible first | exact HB.out | apply below_alloc | apply pw_below_drewN | apply below_drew1 | refine below_set ?_ GE438.out | refine below_set ?_ GE456.out | refine below_set ?_ GE464.out | refine below_set ?_ GE474.out | refine below_set ?_ GE508.out) | exact HB.out)⟩⟩
                          · rw [if_neg c144] at H
                            have c144b0 : (t506 == t454) = false := beq_eq_false_iff_ne.mpr c144
                            have c144b1 : (t506 != t454) = true := bne_iff_ne.mpr c144
                            (first | rw [c144b0] | (simp only [i64_w, i32_w]; rw [c144b0]) | skip)
                            have H' := Aside0.mk H
                            clear H
                            have hnb155 := NB508_438.out
                            have hnc155 := NB438_508.out
                            have hnb156 := NB508_456.out
                            have hnc156 := NB456_508.out
                            have hnb157 := NB508_464.out
                            have hnc157 := NB464_508.out
                            have hnb158 := NB508_474.out
                            have hnc158 := NB474_508.out
                            have hcz159_0 : w134.cell? ⟨gb508, 0, none⟩ = some (.int .i64 0) := (blk_cell BK508.out 0).trans rfl
                            have hcz159_1 : w134.cell? ⟨gb508, 1, none⟩ = some (.slice none 0 0) := (blk_cell BK508.out 1).trans rfl
                            have hcz159_2 : w134.cell? ⟨gb508, 2, none⟩ = some (.slice none 0 0) := (blk_cell BK508.out 2).trans rfl
                            have hfz159_0 := blk_frozen BK508.out 0
                            have hfz159_1 := blk_frozen BK508.out 1
                            have hfz159_2 := blk_frozen BK508.out 2
                            have hnb160 := NB456_438.out
                            have hnc160 := NB438_456.out
                            have hnb161 := NB456_464.out
                            have hnc161 := NB464_456.out
                            have hnb162 := NB456_474.out
                            have hnc162 := NB474_456.out
                            have hcz163_0 : w134.cell? ⟨gb456, 0, none⟩ = some (.int .i64 t447) := (blk_cell BK456.out 0).trans rfl
                            have hcz163_1 : w134.cell? ⟨gb456, 1, none⟩ = some (.slice Ao23 t448.length co23) := (blk_cell BK456.out 1).trans rfl
                            have hcz163_2 : w134.cell? ⟨gb456, 2, none⟩ = some (.slice Ao24 t451.length co24) := (blk_cell BK456.out 2).trans rfl
                            have hfz163_0 := blk_frozen BK456.out 0
                            have hfz163_1 := blk_frozen BK456.out 1
                            have hfz163_2 := blk_frozen BK456.out 2
                            go_wp2_with (first | ((with_reducible refine gate_callee (f := 17) rfl ?_); refine goesL_ (some 97) rfl rfl Try.func17 (by kernel_rfl) rfl #[.agg #[.int .i64 t499, .slice Ao140 t500.length co140, .slice Ao141 t503.length co141], .agg #[.int .i64 t447, .slice Ao23 t448.length co23, .slice Ao24 t451.length co24]] rfl (by (try simp only [List.map_toArray, List.map_cons, List.map_nil]); first | done | rfl | (simp only [List.length_drop, List.length_take]; rfl)) ?_; (with_reducible refine (laws_eqLog.calls kj72 t499 _ _ t500 _ _ t503 t447 _ _ t448 _ _ t451 true _ ?side1 ?side2 ?side3 ?side4 ?side5 ?side6 ?side7 ?side8 A142.out).mono ?_); (case side1 => refine (Kd.R_reads' (e := 42) (base := w.heap.size) (ok := fun k_ => ((((True ∧ some k_ ≠ (.slice Ao23 t448.length co23 : Value).ownBlock) ∧ some k_ ≠ (.slice Ao31 t485.length co31 : Value).ownBlock) ∧ some k_ ≠ (.slice Ao39 t466.length co39 : Value).ownBlock) ∧ some k_ ≠ (.slice Ao131 t493.length co131 : Value).ownBlock)) (n := t500.length) (c := co140) ?_).2.2; exact (by (with_reducible repeat (first | apply qa | apply qb | apply qc)); exact (Kd.R_mono (Kd.R_far (p := ⟨gb508, 2, none⟩) (Kd.R_far (p := ⟨gb508, 1, none⟩) (Kd.R_far (p := ⟨gb508, 0, none⟩) (Kd.R_types HO502.out BK508.out (by decide)) (fun _ hk => hk.2) (.int .i64 t499)) (fun _ hk => hk.2) (.slice Ao140 t500.length co140)) (fun _ hk => hk.2) (.slice Ao141 t503.length co141)) (fun _ h_ => h_.1)))); (case side2 => exact (Kd.R_reads' HO502.out).2.1); (case side3 => refine (Kd.R_reads' (e := 71) (base := w.heap.size) (ok := fun k_ => ((((True ∧ some k_ ≠ (.slice Ao24 t451.length co24 : Value).ownBlock) ∧ some k_ ≠ (.slice Ao32 t486.length co32 : Value).ownBlock) ∧ some k_ ≠ (.slice Ao40 t469.length co40 : Value).ownBlock) ∧ some k_ ≠ (.slice Ao132 t496.length co132 : Value).ownBlock)) (n := t503.length) (c := co141) ?_).2.2; exact (by (with_reducible repeat (first | apply qa | apply qb | apply qc)); exact (Kd.R_mono (Kd.R_far (p := ⟨gb508, 2, none⟩) (Kd.R_far (p := ⟨gb508, 1, none⟩) (Kd.R_far (p := ⟨gb508, 0, none⟩) (Kd.R_types HO505.out BK508.out (by decide)) (fun _ hk => hk.2) (.int .i64 t499)) (fun _ hk => hk.2) (.slice Ao140 t500.length co140)) (fun _ hk => hk.2) (.slice Ao141 t503.length co141)) (fun _ h_ => h_.1)))); (case side4 => exact (Kd.R_reads' HO505.out).2.1); (case side5 => refine (Kd.R_reads' (e := 42) (base := w.heap.size) (ok := fun k_ => (((some k_ ≠ (.slice Ao31 t485.length co31 : Value).ownBlock ∧ some k_ ≠ (.slice Ao39 t466.length co39 : Value).ownBlock) ∧ some k_ ≠ (.slice Ao131 t493.length co131 : Value).ownBlock) ∧ some k_ ≠ (.slice Ao140 t500.length co140 : Value).ownBlock)) (n := t448.length) (c := co23) ?_).2.2; exact (by (with_reducible repeat (first | apply qa | apply qb | apply qc)); exact (Kd.R_mono (Kd.R_far (p := ⟨gb508, 2, none⟩) (Kd.R_far (p := ⟨gb508, 1, none⟩) (Kd.R_far (p := ⟨gb508, 0, none⟩) (Kd.R_types HO_457001.out BK508.out (by decide)) (fun _ hk => hk.2) (.int .i64 t499)) (fun _ hk => hk.2) (.slice Ao140 t500.length co140)) (fun _ hk => hk.2) (.slice Ao141 t503.length co141)) (fun _ h_ => h_.1)))); (case side6 => exact (Kd.R_reads' HO_457001.out).2.1); (case side7 => refine (Kd.R_reads' (e := 71) (base := w.heap.size) (ok := fun k_ => (((some k_ ≠ (.slice Ao32 t486.length co32 : Value).ownBlock ∧ some k_ ≠ (.slice Ao40 t469.length co40 : Value).ownBlock) ∧ some k_ ≠ (.slice Ao132 t496.length co132 : Value).ownBlock) ∧ some k_ ≠ (.slice Ao141 t503.length co141 : Value).ownBlock)) (n := t451.length) (c := co24) ?_).2.2; exact (by (with_reducible repeat (first | apply qa | apply qb | apply qc)); exact (Kd.R_mono (Kd.R_far (p := ⟨gb508, 2, none⟩) (Kd.R_far (p := ⟨gb508, 1, none⟩) (Kd.R_far (p := ⟨gb508, 0, none⟩) (Kd.R_types HO_457002.out BK508.out (by decide)) (fun _ hk => hk.2) (.int .i64 t499)) (fun _ hk => hk.2) (.slice Ao140 t500.length co140)) (fun _ hk => hk.2) (.slice Ao141 t503.length co141)) (fun _ h_ => h_.1)))); (case side8 => exact (Kd.R_reads' HO_457002.out).2.1); rintro e w164 ⟨rfl, hb⟩; refine ⟨_, rfl, ?_⟩; have n0_ := Aside0.mk (Kd.R_below (by (with_reducible repeat (first | apply qa | apply qb | apply qc)); exact (Kd.R_mono (Kd.R_far (p := ⟨gb508, 2, none⟩) (Kd.R_far (p := ⟨gb508, 1, none⟩) (Kd.R_far (p := ⟨gb508, 0, none⟩) (Kd.R_types HO_457001.out BK508.out (by decide)) (fun _ hk => hk.2) (.int .i64 t499)) (fun _ hk => hk.2) (.slice Ao140 t500.length co140)) (fun _ hk => hk.2) (.slice Ao141 t503.length co141)) (fun _ h_ => h_.1))) hb); have n1_ := Aside0.mk (Kd.R_below (by (with_reducible repeat (first | apply qa | apply qb | apply qc)); exact (Kd.R_mono (Kd.R_far (p := ⟨gb508, 2, none⟩) (Kd.R_far (p := ⟨gb508, 1, none⟩) (Kd.R_far (p := ⟨gb508, 0, none⟩) (Kd.R_types HO_457002.out BK508.out (by decide)) (fun _ hk => hk.2) (.int .i64 t499)) (fun _ hk => hk.2) (.slice Ao140 t500.length co140)) (fun _ hk => hk.2) (.slice Ao141 t503.length co141)) (fun _ h_ => h_.1))) hb); have n2_ := Aside0.mk (Kd.R_below (by (with_reducible repeat (first | apply qa | apply qb | apply qc)); exact (Kd.R_mono (Kd.R_far (p := ⟨gb508, 2, none⟩) (Kd.R_far (p := ⟨gb508, 1, none⟩) (Kd.R_far (p := ⟨gb508, 0, none⟩) (Kd.R_types HO_465001.out BK508.out (by decide)) (fun _ hk => hk.2) (.int .i64 t499)) (fun _ hk => hk.2) (.slice Ao140 t500.length co140)) (fun _ hk => hk.2) (.slice Ao141 t503.length co141)) (fun _ h_ => h_.1))) hb); have n3_ := Aside0.mk (Kd.R_below (by (with_reducible repeat (first | apply qa | apply qb | apply qc)); exact (Kd.R_mono (Kd.R_far (p := ⟨gb508, 2, none⟩) (Kd.R_far (p := ⟨gb508, 1, none⟩) (Kd.R_far (p := ⟨gb508, 0, none⟩) (Kd.R_types HO_465002.out BK508.out (by decide)) (fun _ hk => hk.2) (.int .i64 t499)) (fun _ hk => hk.2) (.slice Ao140 t500.length co140)) (fun _ hk => hk.2) (.slice Ao141 t503.length co141)) (fun _ h_ => h_.1))) hb); have n4_ := Aside0.mk (Kd.R_below (by (with_reducible repeat (first | apply qa | apply qb | apply qc)); exact (Kd.R_mono (Kd.R_far (p := ⟨gb508, 2, none⟩) (Kd.R_far (p := ⟨gb508, 1, none⟩) (Kd.R_far (p := ⟨gb508, 0, none⟩) (Kd.R_types HO_475001.out BK508.out (by decide)) (fun _ hk => hk.2) (.int .i64 t499)) (fun _ hk => hk.2) (.slice Ao140 t500.length co140)) (fun _ hk => hk.2) (.slice Ao141 t503.length co141)) (fun _ h_ => h_.1))) hb); have n5_ := Aside0.mk (Kd.R_below (by (with_reducible repeat (first | apply qa | apply qb | apply qc)); exact (Kd.R_mono (Kd.R_far (p := ⟨gb508, 2, none⟩) (Kd.R_far (p := ⟨gb508, 1, none⟩) (Kd.R_far (p := ⟨gb508, 0, none⟩) (Kd.R_types HO_475002.out BK508.out (by decide)) (fun _ hk => hk.2) (.int .i64 t499)) (fun _ hk => hk.2) (.slice Ao140 t500.length co140)) (fun _ hk => hk.2) (.slice Ao141 t503.length co141)) (fun _ h_ => h_.1))) hb); have n6_ := Aside0.mk (Kd.R_below (by (with_reducible repeat (first | apply qa | apply qb | apply qc)); exact (Kd.R_mono (Kd.R_far (p := ⟨gb508, 2, none⟩) (Kd.R_far (p := ⟨gb508, 1, none⟩) (Kd.R_far (p := ⟨gb508, 0, none⟩) (Kd.R_types HO495.out BK508.out (by decide)) (fun _ hk => hk.2) (.int .i64 t499)) (fun _ hk => hk.2) (.slice Ao140 t500.length co140)) (fun _ hk => hk.2) (.slice Ao141 t503.length co141)) (fun _ h_ => h_.1))) hb); have n7_ := Aside0.mk (Kd.R_below (by (with_reducible repeat (first | apply qa | apply qb | apply qc)); exact (Kd.R_mono (Kd.R_far (p := ⟨gb508, 2, none⟩) (Kd.R_far (p := ⟨gb508, 1, none⟩) (Kd.R_far (p := ⟨gb508, 0, none⟩) (Kd.R_types HO498.out BK508.out (by decide)) (fun _ hk => hk.2) (.int .i64 t499)) (fun _ hk => hk.2) (.slice Ao140 t500.length co140)) (fun _ hk => hk.2) (.slice Ao141 t503.length co141)) (fun _ h_ => h_.1))) hb); have n8_ := Aside0.mk (Kd.R_below (by (with_reducible repeat (first | apply qa | apply qb | apply qc)); exact (Kd.R_mono (Kd.R_far (p := ⟨gb508, 2, none⟩) (Kd.R_far (p := ⟨gb508, 1, none⟩) (Kd.R_far (p := ⟨gb508, 0, none⟩) (Kd.R_types HO502.out BK508.out (by decide)) (fun _ hk => hk.2) (.int .i64 t499)) (fun _ hk => hk.2) (.slice Ao140 t500.length co140)) (fun _ hk => hk.2) (.slice Ao141 t503.length co141)) (fun _ h_ => h_.1))) hb); have n9_ := Aside0.mk (Kd.R_below (by (with_reducible repeat (first | apply qa | apply qb | apply qc)); exact (Kd.R_mono (Kd.R_far (p := ⟨gb508, 2, none⟩) (Kd.R_far (p := ⟨gb508, 1, none⟩) (Kd.R_far (p := ⟨gb508, 0, none⟩) (Kd.R_types HO505.out BK508.out (by decide)) (fun _ hk => hk.2) (.int .i64 t499)) (fun _ hk => hk.2) (.slice Ao140 t500.length co140)) (fun _ hk => hk.2) (.slice Ao141 t503.length co141)) (fun _ h_ => h_.1))) hb); have n10_ := Aside0.mk (blk_below (g := gb438) (o := .cells #[.int .i64 a0_0, .slice A0_1 l0_1.length c0_1, .slice A0_2 l0_2.length c0_2] 25 (0, 0)) (by (with_reducible repeat (first | refine qe ?_ _ | refine qf ?_ | refine qd ?_ _)); refine blk_far ?_ NB438_508.out _; (with_reducible repeat (first | refine qe ?_ _ | refine qf ?_ | refine qd ?_ _)); refine blk_far ?_ NB438_508.out _; (with_reducible repeat (first | refine qe ?_ _ | refine qf ?_ | refine qd ?_ _)); refine blk_far ?_ NB438_508.out _; (with_reducible repeat (first | refine qe ?_ _ | refine qf ?_ | refine qd ?_ _)); exact BK438.out) hb); have n11_ := Aside0.mk (blk_below (g := gb456) (o := .cells #[.int .i64 t447, .slice Ao23 t448.length co23, .slice Ao24 t451.length co24] 31 (0, 0)) (by (with_reducible repeat (first | refine qe ?_ _ | refine qf ?_ | refine qd ?_ _)); refine blk_far ?_ NB456_508.out _; (with_reducible repeat (first | refine qe ?_ _ | refine qf ?_ | refine qd ?_ _)); refine blk_far ?_ NB456_508.out _; (with_reducible repeat (first | refine qe ?_ _ | refine qf ?_ | refine qd ?_ _)); refine blk_far ?_ NB456_508.out _; (with_reducible repeat (first | refine qe ?_ _ | refine qf ?_ | refine qd ?_ _)); exact BK456.out) hb); have n12_ := Aside0.mk (blk_below (g := gb464) (o := .cells #[.int .i64 t457, .slice Ao31 t485.length co31, .slice Ao32 t486.length co32] 31 (0, 0)) (by (with_reducible repeat (first | refine qe ?_ _ | refine qf ?_ | refine qd ?_ _)); refine blk_far ?_ NB464_508.out _; (with_reducible repeat (first | refine qe ?_ _ | refine qf ?_ | refine qd ?_ _)); refine blk_far ?_ NB464_508.out _; (with_reducible repeat (first | refine qe ?_ _ | refine qf ?_ | refine qd ?_ _)); refine blk_far ?_ NB464_508.out _; (with_reducible repeat (first | refine qe ?_ _ | refine qf ?_ | refine qd ?_ _)); exact BK464.out) hb); have n13_ := Aside0.mk (blk_below (g := gb474) (o := .cells #[.int .i64 t465, .slice Ao39 t466.length co39, .slice Ao40 t469.length co40] 31 (0, 0)) (by (with_reducible repeat (first | refine qe ?_ _ | refine qf ?_ | refine qd ?_ _)); refine blk_far ?_ NB474_508.out _; (with_reducible repeat (first | refine qe ?_ _ | refine qf ?_ | refine qd ?_ _)); refine blk_far ?_ NB474_508.out _; (with_reducible repeat (first | refine qe ?_ _ | refine qf ?_ | refine qd ?_ _)); refine blk_far ?_ NB474_508.out _; (with_reducible repeat (first | refine qe ?_ _ | refine qf ?_ | refine qd ?_ _)); exact BK474.out) hb); have n14_ := Aside0.mk (blk_below (g := gb508) (o := .cells #[.int .i64 t499, .slice Ao140 t500.length co140, .slice Ao141 t503.length co141] 31 (0, 0)) (by (with_reducible repeat (first | refine qe ?_ _ | refine qf ?_ | refine qd ?_ _)); refine blk_put (cs := #[.int .i64 t499, .slice Ao140 t500.length co140, .slice none 0 0]) ?_ 2 _ rfl; (with_reducible repeat (first | refine qe ?_ _ | refine qf ?_ | refine qd ?_ _)); refine blk_put (cs := #[.int .i64 t499, .slice none 0 0, .slice none 0 0]) ?_ 1 _ rfl; (with_reducible repeat (first | refine qe ?_ _ | refine qf ?_ | refine qd ?_ _)); refine blk_put (cs := #[.int .i64 0, .slice none 0 0, .slice none 0 0]) ?_ 0 _ rfl; (with_reducible repeat (first | refine qe ?_ _ | refine qf ?_ | refine qd ?_ _)); exact BK508.out) hb); have n15_ := Aside0.mk (below_step (by repeat (first | (with_reducible first | exact HB.out | apply below_alloc | apply pw_below_drewN | apply below_drew1 | refine below_set ?_ GE438.out | refine below_set ?_ GE456.out | refine below_set ?_ GE464.out | refine below_set ?_ GE474.out | refine below_set ?_ GE508.out) | exact HB.out)) hb); clear HO_457001; clear HO_457002; clear HO_465001; clear HO_465002; clear HO_475001; clear HO_475002; clear HO495; clear HO498; clear HO502; clear HO505; clear BK438; clear BK456; clear BK464; clear BK474; clear BK508; clear HB; have HO_457001 := n0_; have HO_457002 := n1_; have HO_465001 := n2_; have HO_465002 := n3_; have HO_475001 := n4_; have HO_475002 := n5_; have HO495 := n6_; have HO498 := n7_; have HO502 := n8_; have HO505 := n9_; have BK438 := n10_; have BK456 := n11_; have BK464 := n12_; have BK474 := n13_; have BK508 := n14_; have HB := n15_; clear n0_ n1_ n2_ n3_ n4_ n5_ n6_ n7_ n8_ n9_ n10_ n11_ n12_ n13_ n14_ n15_; (try clear hb); (try clear hb2); (try clear hk); (try clear hi)))
                            go_meet
                            case rel => exact ⟨_, (true), (by first | rfl | (simp; done) | (simp [*]; done)), H', ⟨by have := HJ10.out; have := HJ72.out; first | omega | exact Nat.le_refl _⟩, ⟨by (try simp only [hl465001_72]); (try simp only [hl465002_72]); (with_reducible repeat (first | apply qa | apply qb | apply qc)); exact Kd.R_mono HO_457001.out (fun _ hk => ⟨hk.1.1.1, ⟨hk.1.1.2, hk.2⟩⟩)⟩, ⟨by (try simp only [hl465001_72]); (try simp only [hl465002_72]); (with_reducible repeat (first | apply qa | apply qb | apply qc)); exact Kd.R_mono HO_457002.out (fun _ hk => ⟨hk.1.1.1, ⟨hk.1.1.2, hk.2⟩⟩)⟩, ⟨by (try simp only [hl465001_72]); (try simp only [hl465002_72]); (with_reducible repeat (first | apply qa | apply qb | apply qc)); exact Kd.R_mono HO_465001.out (fun _ hk => ⟨hk.1.1.1, ⟨hk.1.1.2, hk.2⟩⟩)⟩, ⟨by (try simp only [hl465001_72]); (try simp only [hl465002_72]); (with_reducible repeat (first | apply qa | apply qb | apply qc)); exact Kd.R_mono HO_465002.out (fun _ hk => ⟨hk.1.1.1, ⟨hk.1.1.2, hk.2⟩⟩)⟩, ⟨by (try simp only [hl465001_72]); (try simp only [hl465002_72]); (with_reducible repeat (first | apply qa | apply qb | apply qc)); exact Kd.R_mono HO_475001.out (fun _ hk => ⟨hk.1.1.1, ⟨hk.1.1.2, hk.2⟩⟩)⟩, ⟨by (try simp only [hl465001_72]); (try simp only [hl465002_72]); (with_reducible repeat (first | apply qa | apply qb | apply qc)); exact Kd.R_mono HO_475002.out (fun _ hk => ⟨hk.1.1.1, ⟨hk.1.1.2, hk.2⟩⟩)⟩, ⟨by (try simp only [hl465001_72]); (try simp only [hl465002_72]); (with_reducible repeat (first | apply qa | apply qb | apply qc)); exact Kd.R_mono HO502.out (fun _ hk => ⟨hk.1.1.1.2, ⟨hk.1.1.2, hk.1.2⟩⟩)⟩, ⟨by (try simp only [hl465001_72]); (try simp only [hl465002_72]); (with_reducible repeat (first | apply qa | apply qb | apply qc)); exact Kd.R_mono HO505.out (fun _ hk => ⟨hk.1.1.1.2, ⟨hk.1.1.2, hk.1.2⟩⟩)⟩, ⟨by (try simp only [hl465001_72]); (try simp only [hl465002_72]); (with_reducible repeat (first | refine qe ?_ _ | refine qf ?_ | refine qd ?_ _)); exact BK438.out⟩, ⟨by (try simp only [hl465001_72]); (try simp only [hl465002_72]); (with_reducible repeat (first | refine qe ?_ _ | refine qf ?_ | refine qd ?_ _)); exact BK456.out⟩, ⟨by (try simp only [hl465001_72]); (try simp only [hl465002_72]); (with_reducible repeat (first | refine qe ?_ _ | refine qf ?_ | refine qd ?_ _)); exact BK464.out⟩, ⟨by (try simp only [hl465001_72]); (try simp only [hl465002_72]); (with_reducible repeat (first | refine qe ?_ _ | refine qf ?_ | refine qd ?_ _)); exact BK474.out⟩, ⟨by (try simp only [hl465001_72]); (try simp only [hl465002_72]); (with_reducible repeat (first | refine qe ?_ _ | refine qf ?_ | refine qd ?_ _)); exact BK508.out⟩, ⟨by repeat (first | (with_reducible first | exact HB.out | apply below_alloc | apply pw_below_drewN | apply below_drew1 | refine below_set ?_ GE438.out | refine below_set ?_ GE456.out | refine below_set ?_ GE464.out | refine below_set ?_ GE474.out | refine below_set ?_ GE508.out) | exact HB.out)⟩⟩
                        · replace c143 := Bool.eq_false_iff.mpr c143
                          subst c143
                          have H1 : (laws_FnExactRepairCounts.j2 kj72 t488 true t465 t489 t490) = some r := by rw [if_neg (show ¬ (false = true) by decide)] at H; exact H
                          clear H
                          have H := H1
                          clear H1
                          have H' := Aside0.mk H
                          clear H
                          have hnb165 := NB508_438.out
                          have hnc165 := NB438_508.out
                          have hnb166 := NB508_456.out
                          have hnc166 := NB456_508.out
                          have hnb167 := NB508_464.out
                          have hnc167 := NB464_508.out
                          have hnb168 := NB508_474.out
                          have hnc168 := NB474_508.out
                          have hcz169_0 : w134.cell? ⟨gb508, 0, none⟩ = some (.int .i64 0) := (blk_cell BK508.out 0).trans rfl
                          have hcz169_1 : w134.cell? ⟨gb508, 1, none⟩ = some (.slice none 0 0) := (blk_cell BK508.out 1).trans rfl
                          have hcz169_2 : w134.cell? ⟨gb508, 2, none⟩ = some (.slice none 0 0) := (blk_cell BK508.out 2).trans rfl
                          have hfz169_0 := blk_frozen BK508.out 0
                          have hfz169_1 := blk_frozen BK508.out 1
                          have hfz169_2 := blk_frozen BK508.out 2
                          have hnb170 := NB456_438.out
                          have hnc170 := NB438_456.out
                          have hnb171 := NB456_464.out
                          have hnc171 := NB464_456.out
                          have hnb172 := NB456_474.out
                          have hnc172 := NB474_456.out
                          have hcz173_0 : w134.cell? ⟨gb456, 0, none⟩ = some (.int .i64 t447) := (blk_cell BK456.out 0).trans rfl
                          have hcz173_1 : w134.cell? ⟨gb456, 1, none⟩ = some (.slice Ao23 t448.length co23) := (blk_cell BK456.out 1).trans rfl
                          have hcz173_2 : w134.cell? ⟨gb456, 2, none⟩ = some (.slice Ao24 t451.length co24) := (blk_cell BK456.out 2).trans rfl
                          have hfz173_0 := blk_frozen BK456.out 0
                          have hfz173_1 := blk_frozen BK456.out 1
                          have hfz173_2 := blk_frozen BK456.out 2
                          go_wp2_with (first | ((with_reducible refine gate_callee (f := 17) rfl ?_); refine goesL_ (some 97) rfl rfl Try.func17 (by kernel_rfl) rfl #[.agg #[.int .i64 t499, .slice Ao140 t500.length co140, .slice Ao141 t503.length co141], .agg #[.int .i64 t447, .slice Ao23 t448.length co23, .slice Ao24 t451.length co24]] rfl (by (try simp only [List.map_toArray, List.map_cons, List.map_nil]); first | done | rfl | (simp only [List.length_drop, List.length_take]; rfl)) ?_; (with_reducible refine (laws_eqLog.calls kj72 t499 _ _ t500 _ _ t503 t447 _ _ t448 _ _ t451 false _ ?side1 ?side2 ?side3 ?side4 ?side5 ?side6 ?side7 ?side8 A142.out).mono ?_); (case side1 => refine (Kd.R_reads' (e := 42) (base := w.heap.size) (ok := fun k_ => ((((True ∧ some k_ ≠ (.slice Ao23 t448.length co23 : Value).ownBlock) ∧ some k_ ≠ (.slice Ao31 t485.length co31 : Value).ownBlock) ∧ some k_ ≠ (.slice Ao39 t466.length co39 : Value).ownBlock) ∧ some k_ ≠ (.slice Ao131 t493.length co131 : Value).ownBlock)) (n := t500.length) (c := co140) ?_).2.2; exact (by (with_reducible repeat (first | apply qa | apply qb | apply qc)); exact (Kd.R_mono (Kd.R_far (p := ⟨gb508, 2, none⟩) (Kd.R_far (p := ⟨gb508, 1, none⟩) (Kd.R_far (p := ⟨gb508, 0, none⟩) (Kd.R_types HO502.out BK508.out (by decide)) (fun _ hk => hk.2) (.int .i64 t499)) (fun _ hk => hk.2) (.slice Ao140 t500.length co140)) (fun _ hk => hk.2) (.slice Ao141 t503.length co141)) (fun _ h_ => h_.1)))); (case side2 => exact (Kd.R_reads' HO502.out).2.1); (case side3 => refine (Kd.R_reads' (e := 71) (base := w.heap.size) (ok := fun k_ => ((((True ∧ some k_ ≠ (.slice Ao24 t451.length co24 : Value).ownBlock) ∧ some k_ ≠ (.slice Ao32 t486.length co32 : Value).ownBlock) ∧ some k_ ≠ (.slice Ao40 t469.length co40 : Value).ownBlock) ∧ some k_ ≠ (.slice Ao132 t496.length co132 : Value).ownBlock)) (n := t503.length) (c := co141) ?_).2.2; exact (by (with_reducible repeat (first | apply qa | apply qb | apply qc)); exact (Kd.R_mono (Kd.R_far (p := ⟨gb508, 2, none⟩) (Kd.R_far (p := ⟨gb508, 1, none⟩) (Kd.R_far (p := ⟨gb508, 0, none⟩) (Kd.R_types HO505.out BK508.out (by decide)) (fun _ hk => hk.2) (.int .i64 t499)) (fun _ hk => hk.2) (.slice Ao140 t500.length co140)) (fun _ hk => hk.2) (.slice Ao141 t503.length co141)) (fun _ h_ => h_.1)))); (case side4 => exact (Kd.R_reads' HO505.out).2.1); (case side5 => refine (Kd.R_reads' (e := 42) (base := w.heap.size) (ok := fun k_ => (((some k_ ≠ (.slice Ao31 t485.length co31 : Value).ownBlock ∧ some k_ ≠ (.slice Ao39 t466.length co39 : Value).ownBlock) ∧ some k_ ≠ (.slice Ao131 t493.length co131 : Value).ownBlock) ∧ some k_ ≠ (.slice Ao140 t500.length co140 : Value).ownBlock)) (n := t448.length) (c := co23) ?_).2.2; exact (by (with_reducible repeat (first | apply qa | apply qb | apply qc)); exact (Kd.R_mono (Kd.R_far (p := ⟨gb508, 2, none⟩) (Kd.R_far (p := ⟨gb508, 1, none⟩) (Kd.R_far (p := ⟨gb508, 0, none⟩) (Kd.R_types HO_457001.out BK508.out (by decide)) (fun _ hk => hk.2) (.int .i64 t499)) (fun _ hk => hk.2) (.slice Ao140 t500.length co140)) (fun _ hk => hk.2) (.slice Ao141 t503.length co141)) (fun _ h_ => h_.1)))); (case side6 => exact (Kd.R_reads' HO_457001.out).2.1); (case side7 => refine (Kd.R_reads' (e := 71) (base := w.heap.size) (ok := fun k_ => (((some k_ ≠ (.slice Ao32 t486.length co32 : Value).ownBlock ∧ some k_ ≠ (.slice Ao40 t469.length co40 : Value).ownBlock) ∧ some k_ ≠ (.slice Ao132 t496.length co132 : Value).ownBlock) ∧ some k_ ≠ (.slice Ao141 t503.length co141 : Value).ownBlock)) (n := t451.length) (c := co24) ?_).2.2; exact (by (with_reducible repeat (first | apply qa | apply qb | apply qc)); exact (Kd.R_mono (Kd.R_far (p := ⟨gb508, 2, none⟩) (Kd.R_far (p := ⟨gb508, 1, none⟩) (Kd.R_far (p := ⟨gb508, 0, none⟩) (Kd.R_types HO_457002.out BK508.out (by decide)) (fun _ hk => hk.2) (.int .i64 t499)) (fun _ hk => hk.2) (.slice Ao140 t500.length co140)) (fun _ hk => hk.2) (.slice Ao141 t503.length co141)) (fun _ h_ => h_.1)))); (case side8 => exact (Kd.R_reads' HO_457002.out).2.1); rintro e w174 ⟨rfl, hb⟩; refine ⟨_, rfl, ?_⟩; have n0_ := Aside0.mk (Kd.R_below (by (with_reducible repeat (first | apply qa | apply qb | apply qc)); exact (Kd.R_mono (Kd.R_far (p := ⟨gb508, 2, none⟩) (Kd.R_far (p := ⟨gb508, 1, none⟩) (Kd.R_far (p := ⟨gb508, 0, none⟩) (Kd.R_types HO_457001.out BK508.out (by decide)) (fun _ hk => hk.2) (.int .i64 t499)) (fun _ hk => hk.2) (.slice Ao140 t500.length co140)) (fun _ hk => hk.2) (.slice Ao141 t503.length co141)) (fun _ h_ => h_.1))) hb); have n1_ := Aside0.mk (Kd.R_below (by (with_reducible repeat (first | apply qa | apply qb | apply qc)); exact (Kd.R_mono (Kd.R_far (p := ⟨gb508, 2, none⟩) (Kd.R_far (p := ⟨gb508, 1, none⟩) (Kd.R_far (p := ⟨gb508, 0, none⟩) (Kd.R_types HO_457002.out BK508.out (by decide)) (fun _ hk => hk.2) (.int .i64 t499)) (fun _ hk => hk.2) (.slice Ao140 t500.length co140)) (fun _ hk => hk.2) (.slice Ao141 t503.length co141)) (fun _ h_ => h_.1))) hb); have n2_ := Aside0.mk (Kd.R_below (by (with_reducible repeat (first | apply qa | apply qb | apply qc)); exact (Kd.R_mono (Kd.R_far (p := ⟨gb508, 2, none⟩) (Kd.R_far (p := ⟨gb508, 1, none⟩) (Kd.R_far (p := ⟨gb508, 0, none⟩) (Kd.R_types HO_465001.out BK508.out (by decide)) (fun _ hk => hk.2) (.int .i64 t499)) (fun _ hk => hk.2) (.slice Ao140 t500.length co140)) (fun _ hk => hk.2) (.slice Ao141 t503.length co141)) (fun _ h_ => h_.1))) hb); have n3_ := Aside0.mk (Kd.R_below (by (with_reducible repeat (first | apply qa | apply qb | apply qc)); exact (Kd.R_mono (Kd.R_far (p := ⟨gb508, 2, none⟩) (Kd.R_far (p := ⟨gb508, 1, none⟩) (Kd.R_far (p := ⟨gb508, 0, none⟩) (Kd.R_types HO_465002.out BK508.out (by decide)) (fun _ hk => hk.2) (.int .i64 t499)) (fun _ hk => hk.2) (.slice Ao140 t500.length co140)) (fun _ hk => hk.2) (.slice Ao141 t503.length co141)) (fun _ h_ => h_.1))) hb); have n4_ := Aside0.mk (Kd.R_below (by (with_reducible repeat (first | apply qa | apply qb | apply qc)); exact (Kd.R_mono (Kd.R_far (p := ⟨gb508, 2, none⟩) (Kd.R_far (p := ⟨gb508, 1, none⟩) (Kd.R_far (p := ⟨gb508, 0, none⟩) (Kd.R_types HO_475001.out BK508.out (by decide)) (fun _ hk => hk.2) (.int .i64 t499)) (fun _ hk => hk.2) (.slice Ao140 t500.length co140)) (fun _ hk => hk.2) (.slice Ao141 t503.length co141)) (fun _ h_ => h_.1))) hb); have n5_ := Aside0.mk (Kd.R_below (by (with_reducible repeat (first | apply qa | apply qb | apply qc)); exact (Kd.R_mono (Kd.R_far (p := ⟨gb508, 2, none⟩) (Kd.R_far (p := ⟨gb508, 1, none⟩) (Kd.R_far (p := ⟨gb508, 0, none⟩) (Kd.R_types HO_475002.out BK508.out (by decide)) (fun _ hk => hk.2) (.int .i64 t499)) (fun _ hk => hk.2) (.slice Ao140 t500.length co140)) (fun _ hk => hk.2) (.slice Ao141 t503.length co141)) (fun _ h_ => h_.1))) hb); have n6_ := Aside0.mk (Kd.R_below (by (with_reducible repeat (first | apply qa | apply qb | apply qc)); exact (Kd.R_mono (Kd.R_far (p := ⟨gb508, 2, none⟩) (Kd.R_far (p := ⟨gb508, 1, none⟩) (Kd.R_far (p := ⟨gb508, 0, none⟩) (Kd.R_types HO495.out BK508.out (by decide)) (fun _ hk => hk.2) (.int .i64 t499)) (fun _ hk => hk.2) (.slice Ao140 t500.length co140)) (fun _ hk => hk.2) (.slice Ao141 t503.length co141)) (fun _ h_ => h_.1))) hb); have n7_ := Aside0.mk (Kd.R_below (by (with_reducible repeat (first | apply qa | apply qb | apply qc)); exact (Kd.R_mono (Kd.R_far (p := ⟨gb508, 2, none⟩) (Kd.R_far (p := ⟨gb508, 1, none⟩) (Kd.R_far (p := ⟨gb508, 0, none⟩) (Kd.R_types HO498.out BK508.out (by decide)) (fun _ hk => hk.2) (.int .i64 t499)) (fun _ hk => hk.2) (.slice Ao140 t500.length co140)) (fun _ hk => hk.2) (.slice Ao141 t503.length co141)) (fun _ h_ => h_.1))) hb); have n8_ := Aside0.mk (Kd.R_below (by (with_reducible repeat (first | apply qa | apply qb | apply qc)); exact (Kd.R_mono (Kd.R_far (p := ⟨gb508, 2, none⟩) (Kd.R_far (p := ⟨gb508, 1, none⟩) (Kd.R_far (p := ⟨gb508, 0, none⟩) (Kd.R_types HO502.out BK508.out (by decide)) (fun _ hk => hk.2) (.int .i64 t499)) (fun _ hk => hk.2) (.slice Ao140 t500.length co140)) (fun _ hk => hk.2) (.slice Ao141 t503.length co141)) (fun _ h_ => h_.1))) hb); have n9_ := Aside0.mk (Kd.R_below (by (with_reducible repeat (first | apply qa | apply qb | apply qc)); exact (Kd.R_mono (Kd.R_far (p := ⟨gb508, 2, none⟩) (Kd.R_far (p := ⟨gb508, 1, none⟩) (Kd.R_far (p := ⟨gb508, 0, none⟩) (Kd.R_types HO505.out BK508.out (by decide)) (fun _ hk => hk.2) (.int .i64 t499)) (fun _ hk => hk.2) (.slice Ao140 t500.length co140)) (fun _ hk => hk.2) (.slice Ao141 t503.length co141)) (fun _ h_ => h_.1))) hb); have n10_ := Aside0.mk (blk_below (g := gb438) (o := .cells #[.int .i64 a0_0, .slice A0_1 l0_1.length c0_1, .slice A0_2 l0_2.length c0_2] 25 (0, 0)) (by (with_reducible repeat (first | refine qe ?_ _ | refine qf ?_ | refine qd ?_ _)); refine blk_far ?_ NB438_508.out _; (with_reducible repeat (first | refine qe ?_ _ | refine qf ?_ | refine qd ?_ _)); refine blk_far ?_ NB438_508.out _; (with_reducible repeat (first | refine qe ?_ _ | refine qf ?_ | refine qd ?_ _)); refine blk_far ?_ NB438_508.out _; (with_reducible repeat (first | refine qe ?_ _ | refine qf ?_ | refine qd ?_ _)); exact BK438.out) hb); have n11_ := Aside0.mk (blk_below (g := gb456) (o := .cells #[.int .i64 t447, .slice Ao23 t448.length co23, .slice Ao24 t451.length co24] 31 (0, 0)) (by (with_reducible repeat (first | refine qe ?_ _ | refine qf ?_ | refine qd ?_ _)); refine blk_far ?_ NB456_508.out _; (with_reducible repeat (first | refine qe ?_ _ | refine qf ?_ | refine qd ?_ _)); refine blk_far ?_ NB456_508.out _; (with_reducible repeat (first | refine qe ?_ _ | refine qf ?_ | refine qd ?_ _)); refine blk_far ?_ NB456_508.out _; (with_reducible repeat (first | refine qe ?_ _ | refine qf ?_ | refine qd ?_ _)); exact BK456.out) hb); have n12_ := Aside0.mk (blk_below (g := gb464) (o := .cells #[.int .i64 t457, .slice Ao31 t485.length co31, .slice Ao32 t486.length co32] 31 (0, 0)) (by (with_reducible repeat (first | refine qe ?_ _ | refine qf ?_ | refine qd ?_ _)); refine blk_far ?_ NB464_508.out _; (with_reducible repeat (first | refine qe ?_ _ | refine qf ?_ | refine qd ?_ _)); refine blk_far ?_ NB464_508.out _; (with_reducible repeat (first | refine qe ?_ _ | refine qf ?_ | refine qd ?_ _)); refine blk_far ?_ NB464_508.out _; (with_reducible repeat (first | refine qe ?_ _ | refine qf ?_ | refine qd ?_ _)); exact BK464.out) hb); have n13_ := Aside0.mk (blk_below (g := gb474) (o := .cells #[.int .i64 t465, .slice Ao39 t466.length co39, .slice Ao40 t469.length co40] 31 (0, 0)) (by (with_reducible repeat (first | refine qe ?_ _ | refine qf ?_ | refine qd ?_ _)); refine blk_far ?_ NB474_508.out _; (with_reducible repeat (first | refine qe ?_ _ | refine qf ?_ | refine qd ?_ _)); refine blk_far ?_ NB474_508.out _; (with_reducible repeat (first | refine qe ?_ _ | refine qf ?_ | refine qd ?_ _)); refine blk_far ?_ NB474_508.out _; (with_reducible repeat (first | refine qe ?_ _ | refine qf ?_ | refine qd ?_ _)); exact BK474.out) hb); have n14_ := Aside0.mk (blk_below (g := gb508) (o := .cells #[.int .i64 t499, .slice Ao140 t500.length co140, .slice Ao141 t503.length co141] 31 (0, 0)) (by (with_reducible repeat (first | refine qe ?_ _ | refine qf ?_ | refine qd ?_ _)); refine blk_put (cs := #[.int .i64 t499, .slice Ao140 t500.length co140, .slice none 0 0]) ?_ 2 _ rfl; (with_reducible repeat (first | refine qe ?_ _ | refine qf ?_ | refine qd ?_ _)); refine blk_put (cs := #[.int .i64 t499, .slice none 0 0, .slice none 0 0]) ?_ 1 _ rfl; (with_reducible repeat (first | refine qe ?_ _ | refine qf ?_ | refine qd ?_ _)); refine blk_put (cs := #[.int .i64 0, .slice none 0 0, .slice none 0 0]) ?_ 0 _ rfl; (with_reducible repeat (first | refine qe ?_ _ | refine qf ?_ | refine qd ?_ _)); exact BK508.out) hb); have n15_ := Aside0.mk (below_step (by repeat (first | (with_reducible first | exact HB.out | apply below_alloc | apply pw_below_drewN | apply below_drew1 | refine below_set ?_ GE438.out | refine below_set ?_ GE456.out | refine below_set ?_ GE464.out | refine below_set ?_ GE474.out | refine below_set ?_ GE508.out) | exact HB.out)) hb); clear HO_457001; clear HO_457002; clear HO_465001; clear HO_465002; clear HO_475001; clear HO_475002; clear HO495; clear HO498; clear HO502; clear HO505; clear BK438; clear BK456; clear BK464; clear BK474; clear BK508; clear HB; have HO_457001 := n0_; have HO_457002 := n1_; have HO_465001 := n2_; have HO_465002 := n3_; have HO_475001 := n4_; have HO_475002 := n5_; have HO495 := n6_; have HO498 := n7_; have HO502 := n8_; have HO505 := n9_; have BK438 := n10_; have BK456 := n11_; have BK464 := n12_; have BK474 := n13_; have BK508 := n14_; have HB := n15_; clear n0_ n1_ n2_ n3_ n4_ n5_ n6_ n7_ n8_ n9_ n10_ n11_ n12_ n13_ n14_ n15_; (try clear hb); (try clear hb2); (try clear hk); (try clear hi)))
                          go_meet
                          case rel => exact ⟨_, (true), (by first | rfl | (simp; done) | (simp [*]; done)), H', ⟨by have := HJ10.out; have := HJ72.out; first | omega | exact Nat.le_refl _⟩, ⟨by (try simp only [hl465001_72]); (try simp only [hl465002_72]); (with_reducible repeat (first | apply qa | apply qb | apply qc)); exact Kd.R_mono HO_457001.out (fun _ hk => ⟨hk.1.1.1, ⟨hk.1.1.2, hk.2⟩⟩)⟩, ⟨by (try simp only [hl465001_72]); (try simp only [hl465002_72]); (with_reducible repeat (first | apply qa | apply qb | apply qc)); exact Kd.R_mono HO_457002.out (fun _ hk => ⟨hk.1.1.1, ⟨hk.1.1.2, hk.2⟩⟩)⟩, ⟨by (try simp only [hl465001_72]); (try simp only [hl465002_72]); (with_reducible repeat (first | apply qa | apply qb | apply qc)); exact Kd.R_mono HO_465001.out (fun _ hk => ⟨hk.1.1.1, ⟨hk.1.1.2, hk.2⟩⟩)⟩, ⟨by (try simp only [hl465001_72]); (try simp only [hl465002_72]); (with_reducible repeat (first | apply qa | apply qb | apply qc)); exact Kd.R_mono HO_465002.out (fun _ hk => ⟨hk.1.1.1, ⟨hk.1.1.2, hk.2⟩⟩)⟩, ⟨by (try simp only [hl465001_72]); (try simp only [hl465002_72]); (with_reducible repeat (first | apply qa | apply qb | apply qc)); exact Kd.R_mono HO_475001.out (fun _ hk => ⟨hk.1.1.1, ⟨hk.1.1.2, hk.2⟩⟩)⟩, ⟨by (try simp only [hl465001_72]); (try simp only [hl465002_72]); (with_reducible repeat (first | apply qa | apply qb | apply qc)); exact Kd.R_mono HO_475002.out (fun _ hk => ⟨hk.1.1.1, ⟨hk.1.1.2, hk.2⟩⟩)⟩, ⟨by (try simp only [hl465001_72]); (try simp only [hl465002_72]); (with_reducible repeat (first | apply qa | apply qb | apply qc)); exact Kd.R_mono HO502.out (fun _ hk => ⟨hk.1.1.1.2, ⟨hk.1.1.2, hk.1.2⟩⟩)⟩, ⟨by (try simp only [hl465001_72]); (try simp only [hl465002_72]); (with_reducible repeat (first | apply qa | apply qb | apply qc)); exact Kd.R_mono HO505.out (fun _ hk => ⟨hk.1.1.1.2, ⟨hk.1.1.2, hk.1.2⟩⟩)⟩, ⟨by (try simp only [hl465001_72]); (try simp only [hl465002_72]); (with_reducible repeat (first | refine qe ?_ _ | refine qf ?_ | refine qd ?_ _)); exact BK438.out⟩, ⟨by (try simp only [hl465001_72]); (try simp only [hl465002_72]); (with_reducible repeat (first | refine qe ?_ _ | refine qf ?_ | refine qd ?_ _)); exact BK456.out⟩, ⟨by (try simp only [hl465001_72]); (try simp only [hl465002_72]); (with_reducible repeat (first | refine qe ?_ _ | refine qf ?_ | refine qd ?_ _)); exact BK464.out⟩, ⟨by (try simp only [hl465001_72]); (try simp only [hl465002_72]); (with_reducible repeat (first | refine qe ?_ _ | refine qf ?_ | refine qd ?_ _)); exact BK474.out⟩, ⟨by (try simp only [hl465001_72]); (try simp only [hl465002_72]); (with_reducible repeat (first | refine qe ?_ _ | refine qf ?_ | refine qd ?_ _)); exact BK508.out⟩, ⟨by repeat (first | (with_reducible first | exact HB.out | apply below_alloc | apply pw_below_drewN | apply below_drew1 | refine below_set ?_ GE438.out | refine below_set ?_ GE456.out | refine below_set ?_ GE464.out | refine below_set ?_ GE474.out | refine below_set ?_ GE508.out) | exact HB.out)⟩⟩
                      case rest =>
                        clear HC119
                        try clear c1
                        try clear c2
                        try clear p2
                        try clear c3
                        try clear c3b0
                        try clear c4
                        try clear c5
                        try clear c6
                        try clear c7
                        try clear c8
                        try clear c9
                        try clear c10
                        try clear c11
                        try clear c12
                        try clear c13
                        try clear c14
                        try clear c15
                        try clear c16
                        try clear c17
                        try clear c21
                        try clear c28
                        try clear c29
                        try clear c30
                        try clear c31
                        try clear c35
                        try clear c36
                        try clear c37
                        try clear c42
                        try clear c43
                        try clear c43b0
                        try clear c43b1
                        try clear c44
                        try clear c45
                        try clear c46
                        try clear c48
                        try clear c49
                        try clear c52
                        try clear c53
                        try clear c54
                        try clear c56
                        try clear c57
                        try clear c60
                        try clear c61
                        try clear c62
                        try clear c64
                        try clear c65
                        try clear c68
                        try clear c71
                        try clear c79
                        try clear c80
                        try clear c81
                        try clear c84
                        try clear c84b0
                        try clear c86
                        try clear c87
                        try clear c87b0
                        try clear c87b1
                        try clear c88
                        try clear c89
                        try clear c90
                        try clear c92
                        try clear c93
                        try clear c96
                        try clear c97
                        try clear c98
                        try clear c100
                        try clear c101
                        try clear c104
                        try clear c105
                        try clear c106
                        try clear c108
                        try clear c109
                        try clear c112
                        try clear c115
                        try clear c115b0
                        try clear c116
                        try clear c116b0
                        try clear c116b1
                        try clear c120
                        try clear c121
                        try clear c122
                        try clear c127
                        try clear c128
                        try clear c135
                        try clear c136
                        try clear c137
                        try clear c138
                        try clear c143
                        try clear c144
                        try clear c144b0
                        try clear c144b1
                        try clear c145
                        try clear c146
                        try clear c147
                        try clear c148
                        try clear c150
                        try clear c151
                        try clear c152
                        try clear c155
                        try clear c156
                        try clear c157
                        try clear c158
                        try clear c160
                        try clear c161
                        try clear c162
                        try clear c165
                        try clear c166
                        try clear c167
                        try clear c168
                        try clear c170
                        try clear c171
                        try clear c172
                        try clear hcz102_0
                        try clear hcz102_1
                        try clear hcz102_2
                        try clear hcz107_0
                        try clear hcz107_1
                        try clear hcz107_2
                        try clear hcz110_0
                        try clear hcz110_1
                        try clear hcz110_2
                        try clear hcz123_0
                        try clear hcz123_1
                        try clear hcz123_2
                        try clear hcz125_0
                        try clear hcz125_1
                        try clear hcz125_2
                        try clear hcz129_0
                        try clear hcz129_1
                        try clear hcz129_2
                        try clear hcz139_0
                        try clear hcz139_1
                        try clear hcz139_2
                        try clear hcz13_0
                        try clear hcz13_1
                        try clear hcz13_2
                        try clear hcz149_0
                        try clear hcz149_1
                        try clear hcz149_2
                        try clear hcz153_0
                        try clear hcz153_1
                        try clear hcz153_2
                        try clear hcz159_0
                        try clear hcz159_1
                        try clear hcz159_2
                        try clear hcz15_0
                        try clear hcz15_1
                        try clear hcz15_2
                        try clear hcz163_0
                        try clear hcz163_1
                        try clear hcz163_2
                        try clear hcz169_0
                        try clear hcz169_1
                        try clear hcz169_2
                        try clear hcz173_0
                        try clear hcz173_1
                        try clear hcz173_2
                        try clear hcz22_0
                        try clear hcz22_1
                        try clear hcz22_2
                        try clear hcz25_0
                        try clear hcz25_1
                        try clear hcz25_2
                        try clear hcz30_0
                        try clear hcz30_1
                        try clear hcz30_2
                        try clear hcz38_0
                        try clear hcz38_1
                        try clear hcz38_2
                        try clear hcz47_0
                        try clear hcz47_1
                        try clear hcz47_2
                        try clear hcz50_0
                        try clear hcz50_1
                        try clear hcz50_2
                        try clear hcz55_0
                        try clear hcz55_1
                        try clear hcz55_2
                        try clear hcz58_0
                        try clear hcz58_1
                        try clear hcz58_2
                        try clear hcz5_0
                        try clear hcz5_1
                        try clear hcz5_2
                        try clear hcz63_0
                        try clear hcz63_1
                        try clear hcz63_2
                        try clear hcz66_0
                        try clear hcz66_1
                        try clear hcz66_2
                        try clear hcz82_0
                        try clear hcz82_1
                        try clear hcz82_2
                        try clear hcz91_0
                        try clear hcz91_1
                        try clear hcz91_2
                        try clear hcz94_0
                        try clear hcz94_1
                        try clear hcz94_2
                        try clear hcz99_0
                        try clear hcz99_1
                        try clear hcz99_2
                        try clear hfz102_0
                        try clear hfz102_1
                        try clear hfz102_2
                        try clear hfz107_0
                        try clear hfz107_1
                        try clear hfz107_2
                        try clear hfz110_0
                        try clear hfz110_1
                        try clear hfz110_2
                        try clear hfz123_0
                        try clear hfz123_1
                        try clear hfz123_2
                        try clear hfz125_0
                        try clear hfz125_1
                        try clear hfz125_2
                        try clear hfz129_0
                        try clear hfz129_1
                        try clear hfz129_2
                        try clear hfz139_0
                        try clear hfz139_1
                        try clear hfz139_2
                        try clear hfz13_0
                        try clear hfz13_1
                        try clear hfz13_2
                        try clear hfz149_0
                        try clear hfz149_1
                        try clear hfz149_2
                        try clear hfz153_0
                        try clear hfz153_1
                        try clear hfz153_2
                        try clear hfz159_0
                        try clear hfz159_1
                        try clear hfz159_2
                        try clear hfz15_0
                        try clear hfz15_1
                        try clear hfz15_2
                        try clear hfz163_0
                        try clear hfz163_1
                        try clear hfz163_2
                        try clear hfz169_0
                        try clear hfz169_1
                        try clear hfz169_2
                        try clear hfz173_0
                        try clear hfz173_1
                        try clear hfz173_2
                        try clear hfz22_0
                        try clear hfz22_1
                        try clear hfz22_2
                        try clear hfz25_0
                        try clear hfz25_1
                        try clear hfz25_2
                        try clear hfz30_0
                        try clear hfz30_1
                        try clear hfz30_2
                        try clear hfz38_0
                        try clear hfz38_1
                        try clear hfz38_2
                        try clear hfz47_0
                        try clear hfz47_1
                        try clear hfz47_2
                        try clear hfz50_0
                        try clear hfz50_1
                        try clear hfz50_2
                        try clear hfz55_0
                        try clear hfz55_1
                        try clear hfz55_2
                        try clear hfz58_0
                        try clear hfz58_1
                        try clear hfz58_2
                        try clear hfz5_0
                        try clear hfz5_1
                        try clear hfz5_2
                        try clear hfz63_0
                        try clear hfz63_1
                        try clear hfz63_2
                        try clear hfz66_0
                        try clear hfz66_1
                        try clear hfz66_2
                        try clear hfz82_0
                        try clear hfz82_1
                        try clear hfz82_2
                        try clear hfz91_0
                        try clear hfz91_1
                        try clear hfz91_2
                        try clear hfz94_0
                        try clear hfz94_1
                        try clear hfz94_2
                        try clear hfz99_0
                        try clear hfz99_1
                        try clear hfz99_2
                        try clear p2
                        obtain ⟨kq, x108_118, rfl, HA, HJ118, HO_457001, HO_457002, HO_465001, HO_465002, HO_475001, HO_475002, HO_509001, HO_509002, BK438, BK456, BK464, BK474, BK508, HB⟩ := hcut
                        have hl475001_118 := (Kd.R_reads' HO_475001.out).1
                        rw [hl475001_118] at HO_475001
                        (try simp only [hl475001_118])
                        (try simp only [hl475001_118] at BK438)
                        (try simp only [hl475001_118] at BK456)
                        (try simp only [hl475001_118] at BK464)
                        (try simp only [hl475001_118] at BK474)
                        (try simp only [hl475001_118] at BK508)
                        (try simp only [hl475001_118] at HO_457001)
                        (try simp only [hl475001_118] at HO_457002)
                        (try simp only [hl475001_118] at HO_465001)
                        (try simp only [hl475001_118] at HO_465002)
                        (try simp only [hl475001_118] at HO_475002)
                        (try simp only [hl475001_118] at HO_509001)
                        (try simp only [hl475001_118] at HO_509002)
                        have hl475002_118 := (Kd.R_reads' HO_475002.out).1
                        rw [hl475002_118] at HO_475002
                        (try simp only [hl475002_118])
                        (try simp only [hl475002_118] at BK438)
                        (try simp only [hl475002_118] at BK456)
                        (try simp only [hl475002_118] at BK464)
                        (try simp only [hl475002_118] at BK474)
                        (try simp only [hl475002_118] at BK508)
                        (try simp only [hl475002_118] at HO_457001)
                        (try simp only [hl475002_118] at HO_457002)
                        (try simp only [hl475002_118] at HO_465001)
                        (try simp only [hl475002_118] at HO_465002)
                        (try simp only [hl475002_118] at HO_475001)
                        (try simp only [hl475002_118] at HO_509001)
                        (try simp only [hl475002_118] at HO_509002)
                        cases kq with
                        | zero => exact absurd HA.out (by simp [laws_FnExactRepairCounts.j2])
                        | succ kj118 =>
                          have H := HA.out
                          clear HA
                          simp only [laws_FnExactRepairCounts.j2] at H
                          by_cases c175 : x108_118 = true
                          · subst c175
                            have H1 : (some false) = some r := by rw [if_pos rfl] at H; exact H
                            clear H
                            have H := H1
                            clear H1
                            exact absurd ((Option.some.inj H).trans HT.out) (by decide)
                          · replace c175 := Bool.eq_false_iff.mpr c175
                            subst c175
                            have H1 : ((laws_heldLog.f kj118 t465 t489 t490 1).bind fun t510 => (if t510 < 0 then (some false) else (if t510 = t488 then (some true) else (some false)))) = some r := by rw [if_neg (show ¬ (false = true) by decide)] at H; exact H
                            clear H
                            have H := H1
                            clear H1
                            replace H := Option.bind_eq_some_iff.mp H
                            obtain ⟨t510, A1760, H⟩ := H
                            replace H : (if t510 < 0 then (some false) else (if t510 = t488 then (some true) else (some false))) = some r := H
                            have A176 := Aside0.mk A1760
                            clear A1760
                            by_cases c177 : t510 < 0
                            · rw [if_pos c177] at H
                              have c177b0 : decide (t510 < 0) = true := decide_eq_true c177
                              clear c177
                              exact absurd ((Option.some.inj H).trans HT.out) (by decide)
                            · rw [if_neg c177] at H
                              have c177b0 : decide (t510 < 0) = false := decide_eq_false c177
                              clear c177
                              by_cases c178 : t510 = t488
                              · rw [if_pos c178] at H
                                have c178b0 : (t510 == t488) = true := beq_iff_eq.mpr c178
                                have c178b1 : (t510 != t488) = false := bne_eq_false_iff_eq.mpr c178
                                clear c178
                                obtain rfl := Option.some.inj H
                                have hnb179 := NB474_438.out
                                have hnc179 := NB438_474.out
                                have hnb180 := NB474_456.out
                                have hnc180 := NB456_474.out
                                have hnb181 := NB474_464.out
                                have hnc181 := NB464_474.out
                                have hnb182 := NB474_508.out
                                have hnc182 := NB508_474.out
                                have hcz183_0 : wc.cell? ⟨gb474, 0, none⟩ = some (.int .i64 t465) := (blk_cell BK474.out 0).trans rfl
                                have hcz183_1 : wc.cell? ⟨gb474, 1, none⟩ = some (.slice Ao39 t489.length co39) := (blk_cell BK474.out 1).trans rfl
                                have hcz183_2 : wc.cell? ⟨gb474, 2, none⟩ = some (.slice Ao40 t490.length co40) := (blk_cell BK474.out 2).trans rfl
                                have hfz183_0 := blk_frozen BK474.out 0
                                have hfz183_1 := blk_frozen BK474.out 1
                                have hfz183_2 := blk_frozen BK474.out 2
                                go_wp2_with (first | ((with_reducible refine gate_callee (f := 31) rfl ?_); refine goesL_ (some 111) rfl rfl Try.func31 (by kernel_rfl) rfl #[.agg #[.int .i64 t465, .slice Ao39 t489.length co39, .slice Ao40 t490.length co40], .int .i64 1] rfl (by (try simp only [List.map_toArray, List.map_cons, List.map_nil]); first | done | rfl | (simp only [List.length_drop, List.length_take]; rfl)) ?_; (with_reducible refine (laws_heldLog.calls kj118 t465 _ _ t489 _ _ t490 1 t510 _ ?side1 ?side2 ?side3 ?side4 A176.out).mono ?_); (case side1 => repeat (first | exact (Kd.R_reads' HO_475001.out).2.2 | (with_reducible refine Kd.C_alloc ?_ _) | (with_reducible refine Kd.C_drewN ?_ _) | (with_reducible refine Kd.C_drew ?_))); (case side2 => exact (Kd.R_reads' HO_475001.out).2.1); (case side3 => repeat (first | exact (Kd.R_reads' HO_475002.out).2.2 | (with_reducible refine Kd.C_alloc ?_ _) | (with_reducible refine Kd.C_drewN ?_ _) | (with_reducible refine Kd.C_drew ?_))); (case side4 => exact (Kd.R_reads' HO_475002.out).2.1); rintro e w184 ⟨rfl, hb⟩; refine ⟨_, rfl, ?_⟩; have n0_ := Aside0.mk (Kd.R_below (by (with_reducible repeat (first | apply qa | apply qb | apply qc)); exact HO_457001.out) hb); have n1_ := Aside0.mk (Kd.R_below (by (with_reducible repeat (first | apply qa | apply qb | apply qc)); exact HO_457002.out) hb); have n2_ := Aside0.mk (Kd.R_below (by (with_reducible repeat (first | apply qa | apply qb | apply qc)); exact HO_465001.out) hb); have n3_ := Aside0.mk (Kd.R_below (by (with_reducible repeat (first | apply qa | apply qb | apply qc)); exact HO_465002.out) hb); have n4_ := Aside0.mk (Kd.R_below (by (with_reducible repeat (first | apply qa | apply qb | apply qc)); exact HO_475001.out) hb); have n5_ := Aside0.mk (Kd.R_below (by (with_reducible repeat (first | apply qa | apply qb | apply qc)); exact HO_475002.out) hb); have n6_ := Aside0.mk (Kd.R_below (by (with_reducible repeat (first | apply qa | apply qb | apply qc)); exact HO_509001.out) hb); have n7_ := Aside0.mk (Kd.R_below (by (with_reducible repeat (first | apply qa | apply qb | apply qc)); exact HO_509002.out) hb); have n8_ := Aside0.mk (blk_below (g := gb438) (o := .cells #[.int .i64 a0_0, .slice A0_1 l0_1.length c0_1, .slice A0_2 l0_2.length c0_2] 25 (0, 0)) (by (with_reducible repeat (first | refine qe ?_ _ | refine qf ?_ | refine qd ?_ _)); exact BK438.out) hb); have n9_ := Aside0.mk (blk_below (g := gb456) (o := .cells #[.int .i64 t447, .slice Ao23 t448.length co23, .slice Ao24 t451.length co24] 31 (0, 0)) (by (with_reducible repeat (first | refine qe ?_ _ | refine qf ?_ | refine qd ?_ _)); exact BK456.out) hb); have n10_ := Aside0.mk (blk_below (g := gb464) (o := .cells #[.int .i64 t457, .slice Ao31 t485.length co31, .slice Ao32 t486.length co32] 31 (0, 0)) (by (with_reducible repeat (first | refine qe ?_ _ | refine qf ?_ | refine qd ?_ _)); exact BK464.out) hb); have n11_ := Aside0.mk (blk_below (g := gb474) (o := .cells #[.int .i64 t465, .slice Ao39 t489.length co39, .slice Ao40 t490.length co40] 31 (0, 0)) (by (with_reducible repeat (first | refine qe ?_ _ | refine qf ?_ | refine qd ?_ _)); exact BK474.out) hb); have n12_ := Aside0.mk (blk_below (g := gb508) (o := .cells #[.int .i64 t499, .slice Ao140 t500.length co140, .slice Ao141 t503.length co141] 31 (0, 0)) (by (with_reducible repeat (first | refine qe ?_ _ | refine qf ?_ | refine qd ?_ _)); exact BK508.out) hb); have n13_ := Aside0.mk (below_step (by repeat (first | (with_reducible first | exact HB.out | apply below_alloc | apply pw_below_drewN | apply below_drew1 | refine below_set ?_ GE438.out | refine below_set ?_ GE456.out | refine below_set ?_ GE464.out | refine below_set ?_ GE474.out | refine below_set ?_ GE508.out) | exact HB.out)) hb); clear HO_457001; clear HO_457002; clear HO_465001; clear HO_465002; clear HO_475001; clear HO_475002; clear HO_509001; clear HO_509002; clear BK438; clear BK456; clear BK464; clear BK474; clear BK508; clear HB; have HO_457001 := n0_; have HO_457002 := n1_; have HO_465001 := n2_; have HO_465002 := n3_; have HO_475001 := n4_; have HO_475002 := n5_; have HO_509001 := n6_; have HO_509002 := n7_; have BK438 := n8_; have BK456 := n9_; have BK464 := n10_; have BK474 := n11_; have BK508 := n12_; have HB := n13_; clear n0_ n1_ n2_ n3_ n4_ n5_ n6_ n7_ n8_ n9_ n10_ n11_ n12_ n13_; (try clear hb); (try clear hb2); (try clear hk); (try clear hi)))
                                go_ret
                                exact ⟨by first | rfl | (simp [errW_none, errW_some] <;> rfl) | (simp [*, errW_none, errW_some] <;> rfl), by repeat (first | (with_reducible first | exact HB.out | apply below_alloc | apply pw_below_drewN | apply below_drew1 | refine below_set ?_ GE438.out | refine below_set ?_ GE456.out | refine below_set ?_ GE464.out | refine below_set ?_ GE474.out | refine below_set ?_ GE508.out) | exact HB.out)⟩
                              · rw [if_neg c178] at H
                                have c178b0 : (t510 == t488) = false := beq_eq_false_iff_ne.mpr c178
                                have c178b1 : (t510 != t488) = true := bne_iff_ne.mpr c178
                                exact absurd ((Option.some.inj H).trans HT.out) (by decide)
                    · rw [if_neg c116] at H
                      have c116b0 : (t491 == t488) = false := beq_eq_false_iff_ne.mpr c116
                      have c116b1 : (t491 != t488) = true := bne_iff_ne.mpr c116
                      exact absurd ((Option.some.inj H).trans HT.out) (by decide)
          · replace c71 := Bool.eq_false_iff.mpr c71
            subst c71
            have H1 : (some false) = some r := by rw [if_neg (show ¬ (false = true) by decide)] at H; exact H
            clear H
            have H := H1
            clear H1
            exact absurd ((Option.some.inj H).trans HT.out) (by decide)

/-- THE ONE PURE STATEMENT of laws_FnExactRepairCounts: mine. -/
def laws_FnExactRepairCounts.Pure : Prop := ∀ (a0_0 : Int) (l0_1 : List Int) (l0_2 : List Int), ((Lit.int .i64 a0_0).wf = true) → (l0_1.length ≤ 9223372036854775807 ∧ ∀ x_ ∈ l0_1, ((Lit.int .u16 x_).wf = true)) → (l0_2.length ≤ 9223372036854775807 ∧ ∀ x_ ∈ l0_2, ((Lit.int .i16 x_).wf = true)) → ∃ k, laws_FnExactRepairCounts.f k a0_0 l0_1 l0_2 = some true

end Go.Proofs.Ytfmjfnnkkoekbaa.P
