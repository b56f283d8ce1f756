-- Printed by wip/print (my turned copy of the kit's print) out of the translation; Lean checks it.
import Derived.Test.YtooidjdgfoioiaaP0
import Derived.Test.YtooidjdgfoioiaaP5
namespace Go.Proofs.Ytooidjdgfoioiaa.P
open Go.RowKit Go.Proofs.YtooidjdgfoioiaaW.PrintWords Go.Proofs.YtooidjdgfoioiaaW.PrintLast Go.Proofs.YtooidjdgfoioiaaW.PrintMore
attribute [local go_sem] max2_int min2_int max_two min_two max_three min_three max_four min_four   -- for this text's walks alone
set_option linter.unusedVariables false
set_option linter.unusedSimpArgs false

/-! ### spec_StepsBetween: function 42 -/
def sToS (p : Int × Int) : S62 := ⟨p.1, p.2⟩
def gridA (G : Nat → Int) : Array Value := ((List.range 100).map (fun q => Value.int .i64 (G q))).toArray
theorem salloc_size_ (w : World) (o : Obj) : (w.alloc o).heap.size = w.heap.size + 1 := by rw [World.alloc]; simp only [Array.size_push]
theorem gridA_size (G : Nat → Int) : (gridA G).size = 100 := by simp [gridA]
theorem gridA_get (G : Nat → Int) (p : Nat) (h : p < 100) : (gridA G)[p]? = some (.int .i64 (G p)) := by
  unfold gridA
  rw [List.getElem?_toArray, List.getElem?_map, List.getElem?_range h]; rfl
theorem gridA_congr {G G' : Nat → Int} (h : ∀ q, q < 100 → G q = G' q) : gridA G = gridA G' := by
  unfold gridA
  congr 1
  apply List.map_congr_left
  intro q hq
  rw [h q (List.mem_range.1 hq)]
theorem gridA_set (G : Nat → Int) (p : Nat) (h : p < 100) (v : Int) : (gridA G).setIfInBounds p (.int .i64 v) = gridA (fun q => if q = p then v else G q) := by
  unfold gridA
  rw [List.setIfInBounds_toArray]
  congr 1
  apply List.ext_getElem?
  intro j
  rw [List.getElem?_set, List.getElem?_map]
  by_cases hj : j < 100
  · rw [List.getElem?_map, List.getElem?_range hj]
    by_cases e : p = j
    · subst e; simp [h]
    · simp [e, Ne.symm e]
  · rw [List.getElem?_map, List.getElem?_eq_none (by simp; omega)]
    by_cases e : p = j
    · omega
    · simp [e]
def GR (M : Int × Int → Option Int) : Nat → Int := fun q => (M (((q % 10 : Nat) : Int), ((q / 10 : Nat) : Int))).getD (-1)
theorem GR_at (M : Int × Int → Option Int) (X Y : Nat) (hX : X < 10) : GR M (Y * 10 + X) = (M ((X : Int), (Y : Int))).getD (-1) := by
  unfold GR
  rw [show (Y * 10 + X) % 10 = X by omega, show (Y * 10 + X) / 10 = Y by omega]
theorem GR_put (M : Int × Int → Option Int) (X Y : Nat) (hX : X < 10) (d : Int) : gridA (fun q => if q = Y * 10 + X then d else GR M q) = gridA (GR (H.farPut M ((X : Int), (Y : Int)) d)) := by
  apply gridA_congr
  intro q _
  unfold GR H.farPut
  by_cases e : q = Y * 10 + X
  · subst e
    rw [if_pos rfl, show (Y * 10 + X) % 10 = X by omega, show (Y * 10 + X) / 10 = Y by omega, if_pos rfl]
    rfl
  · rw [if_neg e, if_neg (fun z => e (by have z1 := (Prod.mk.inj z).1; have z2 := (Prod.mk.inj z).2; omega))]
theorem sspot_row (W : World) (base : Nat) (ok : Nat → Prop) (x y : Int) (hb : base ≤ W.heap.size) (hok : ok W.heap.size) : Kd.R k62 62 (W.alloc (.cells #[.int .i8 x, .int .i8 y] 62)) base ok (.slice (some ⟨W.heap.size, 0, none⟩) 1 1) [(⟨x, y⟩ : S62)] := by
  refine ⟨fun k hk => ?_, [.int .i8 x, .int .i8 y], ?_, ?_⟩
  · have : W.heap.size = k := by simpa [Value.ownBlock] using hk
    subst this
    exact hok
  · have h2 := World.ownsRow_lit (base := base) (e := 62) (size := 2) W #[.int .i8 x, .int .i8 y] 1 hb (by simp [maxLen]) (by simp)
    exact (by simpa using h2 : (W.alloc (Obj.cells #[Value.int IntKind.i8 x, Value.int IntKind.i8 y] 62)).ownsRow base 62 2 (Value.slice (some { block := W.heap.size, off := 0 }) 1 1) 1 [Value.int IntKind.i8 x, Value.int IntKind.i8 y])
  · exact Reps.c2 (k62_mkM _ _ _ (⟨x, y⟩ : S62)) (Reps.none _ _)
theorem sR62re {w : World} {base : Nat} {ok ok' : Nat → Prop} {v : Value} {xs : List S62} (h : Kd.R k62 62 w base ok v xs) (h2 : ∀ k, v.ownBlock = some k → ok' k) : Kd.R k62 62 w base ok' v xs := ⟨h2, h.2.imp_ (fun x cs hp => by have := k62_openM hp; subst this; exact k62_mkM _ _ _ _)⟩
theorem gridA_one (G : Nat → Int) : ∀ v ∈ (gridA G).toList, v.oneCell' = true := by
  intro v hv
  unfold gridA at hv
  simp only [List.mem_map] at hv
  obtain ⟨q, _, rfl⟩ := hv
  rfl
theorem sbelow_row_ {B g : Nat} {w0 w : World} (hb : Below B w0 w) (hBg : B ≤ g) (cs : Array Value) : Below B w0 (w.setRow g cs) :=
  ⟨hb.os, hb.tape, hb.output, by rw [size_setRow]; exact hb.size, fun k hk => (setRow_other w g k cs (by omega)).trans (hb.block k hk)⟩
theorem ssetCell_at_ (w : World) (g o : Nat) (v : Value) (e : TypeId) (cur : Array Value) (h : w.heap[g]? = some (.cells cur e (0, 0))) : (w.setCell ⟨g, o, none⟩ v).heap[g]? = some (.cells (cur.setIfInBounds o v) e (0, 0)) := by
  simp [World.setCell, Array.getElem?_modify, h]
set_option maxHeartbeats 8000000 in
set_option maxRecDepth 1000000 in
theorem gsteps_calls (b0 : Nat) (r0 r1 r2 r3 r4 r5 r6 r7 r8 r9 r10 r11 : Int) (bes : Int × Int → Option (List (Int × Int)))
    (hbes : ∀ (W : World) (s : Int × Int) (nx : List (Int × Int)), W.heap[b0]? = some (.cells #[.int .i8 r0, .int .i8 r1, .int .u16 r2, .int .u16 r3, .int .u16 r4, .int .u16 r5, .int .u16 r6, .int .u16 r7, .int .u16 r8, .int .u16 r9, .int .u16 r10, .int .u16 r11] 35 (0, 0)) → bes s = some nx → Calls Try.prog 86 #[.pointer (some ⟨b0, 0, none⟩), .agg #[.int .i8 s.1, .int .i8 s.2]] W fun e w' => ∃ v, e = .returned v ∧ Kd.R k62 62 w' W.heap.size (fun _ => True) v (nx.map sToS) ∧ Below W.heap.size W w')
    (k : Nat) (a : Int × Int) (R : Int × Int → Option Int) (hR : H.bfsFrom bes k a = some R) (w : World) (hbk : w.heap[b0]? = some (.cells #[.int .i8 r0, .int .i8 r1, .int .u16 r2, .int .u16 r3, .int .u16 r4, .int .u16 r5, .int .u16 r6, .int .u16 r7, .int .u16 r8, .int .u16 r9, .int .u16 r10, .int .u16 r11] 35 (0, 0))) :
    Calls Try.prog 63 #[.pointer (some ⟨b0, 0, none⟩), .agg #[.int .i8 a.1, .int .i8 a.2]] w fun e w' => e = .returned (.agg (gridA (fun q => (R (((q % 10 : Nat) : Int), ((q / 10 : Nat) : Int))).getD (-1)))) ∧ Below w.heap.size w w' := by
  have hu62 := Try.underlying62
  have hu102 := Try.underlying102
  have hu101 := Try.underlying101
  have ha : H.inG a = true := by
    unfold H.bfsFrom at hR
    by_cases c : H.inG a = true
    · exact c
    · rw [if_neg c] at hR; cases hR
  have hV : Hid (H.bfs bes k 0 [a] (H.farPut (fun _ => none) a 0) = some R) := by
    unfold H.bfsFrom at hR
    rw [if_pos ha] at hR
    exact hR
  clear hR
  obtain ⟨a1, a2⟩ := a
  dsimp only at *
  have hst : (storeCells ⟨w.heap.size + 1 + 1, 0, none⟩ Try.zeroCells102.toList).run Try.prog (((w.alloc (.cells #[.int .i8 a1, .int .i8 a2] 62)).alloc (.cells Try.zeroCells102 102)).alloc (.cells Try.zeroCells102 102)) = .ok () (((w.alloc (.cells #[.int .i8 a1, .int .i8 a2] 62)).alloc (.cells Try.zeroCells102 102)).alloc (.cells Try.zeroCells102 102)) := by
    have h := run_storeCells_new (P := Try.prog) ((w.alloc (.cells #[.int .i8 a1, .int .i8 a2] 62)).alloc (.cells Try.zeroCells102 102)) 102 Try.zeroCells102 Try.zeroCells102 (by kernel_rfl) rfl (by kernel_rfl)
    rw [salloc_size_, salloc_size_] at h
    exact h
  have hb3 : (((w.alloc (.cells #[.int .i8 a1, .int .i8 a2] 62)).alloc (.cells Try.zeroCells102 102)).alloc (.cells Try.zeroCells102 102)).heap[w.heap.size]? = some (.cells #[.int .i8 a1, .int .i8 a2] 62 (0, 0)) := (Below.heap_alloc _ _ _ (by rw [salloc_size_, salloc_size_]; omega)).trans ((Below.heap_alloc _ _ _ (by rw [salloc_size_]; omega)).trans (heap_alloc_new w _))
  have hb4 : (((w.alloc (.cells #[.int .i8 a1, .int .i8 a2] 62)).alloc (.cells Try.zeroCells102 102)).alloc (.cells Try.zeroCells102 102)).heap[w.heap.size + 1]? = some (.cells Try.zeroCells102 102 (0, 0)) := (Below.heap_alloc _ _ _ (by rw [salloc_size_, salloc_size_]; omega)).trans (by
    have h := heap_alloc_new (w.alloc (.cells #[.int .i8 a1, .int .i8 a2] 62)) (.cells Try.zeroCells102 102)
    rw [salloc_size_] at h
    exact h)
  have hz : Try.zeroCells102 = gridA (fun _ => 0) := by kernel_rfl
  have hb5 : (((w.alloc (.cells #[.int .i8 a1, .int .i8 a2] 62)).alloc (.cells Try.zeroCells102 102)).alloc (.cells Try.zeroCells102 102)).heap[w.heap.size + 1 + 1]? = some (.cells (gridA (fun _ => 0)) 102 (0, 0)) := by
    have h := heap_alloc_new ((w.alloc (.cells #[.int .i8 a1, .int .i8 a2] 62)).alloc (.cells Try.zeroCells102 102)) (.cells Try.zeroCells102 102)
    rw [salloc_size_, salloc_size_, hz] at h
    rw [hz]
    exact h
  clear hz
  have hb0 := blk_lt hbk
  have hbk1 : (((w.alloc (.cells #[.int .i8 a1, .int .i8 a2] 62)).alloc (.cells Try.zeroCells102 102)).alloc (.cells Try.zeroCells102 102)).heap[b0]? = some (.cells #[.int .i8 r0, .int .i8 r1, .int .u16 r2, .int .u16 r3, .int .u16 r4, .int .u16 r5, .int .u16 r6, .int .u16 r7, .int .u16 r8, .int .u16 r9, .int .u16 r10, .int .u16 r11] 35 (0, 0)) := blk_alloc (blk_alloc (blk_alloc hbk _) _) _
  have hB0 : Below w.heap.size w (((w.alloc (.cells #[.int .i8 a1, .int .i8 a2] 62)).alloc (.cells Try.zeroCells102 102)).alloc (.cells Try.zeroCells102 102)) := by repeat (first | exact Below.refl _ _ | exact Below.alloc (Below.refl _ _) (Nat.le_refl _) _ | refine below_alloc ?_ _)
  go_enter Try.func63, Try.ntmps63
  go_wp2
  generalize (((w.alloc (.cells #[.int .i8 a1, .int .i8 a2] 62)).alloc (.cells Try.zeroCells102 102)).alloc (.cells Try.zeroCells102 102)) = W0 at hb3 hb4 hb5 hbk1 hB0 hst ⊢
  clear hst
  go_loopg [6] 10 (fun gq v6 wr => ∃ y : Nat, v6 = .int .i64 (y : Int) ∧ y ≤ 10 ∧ 10 - y ≤ gq ∧ wr.heap[w.heap.size]? = some (.cells #[.int .i8 a1, .int .i8 a2] 62 (0, 0)) ∧ wr.heap[w.heap.size + 1]? = some (.cells Try.zeroCells102 102 (0, 0)) ∧ wr.heap[w.heap.size + 1 + 1]? = some (.cells (gridA (fun q => if q < y * 10 then -1 else 0)) 102 (0, 0)) ∧ wr.heap[b0]? = some (.cells #[.int .i8 r0, .int .i8 r1, .int .u16 r2, .int .u16 r3, .int .u16 r4, .int .u16 r5, .int .u16 r6, .int .u16 r7, .int .u16 r8, .int .u16 r9, .int .u16 r10, .int .u16 r11] 35 (0, 0)) ∧ Below w.heap.size w wr)
  case atStart => exact ⟨0, rfl, by omega, by omega, hb3, hb4, by simpa using hb5, hbk1, hB0⟩
  case round =>
    clear hb3 hb4 hb5 hbk1 hB0
    obtain ⟨y, rfl, hy, hyq, hb3, hb4, hb5, hbk1, hB0⟩ := hrel
    by_cases cy : y < 10
    · have f1 : ((y : Int) < 10) = True := eq_true (by omega)
      have f2 : (0 ≤ (y : Int)) = True := eq_true (by omega)
      go_wp2
      go_loopg [7] 10 (fun gx v7 wx => ∃ x : Nat, v7 = .int .i64 (x : Int) ∧ x ≤ 10 ∧ 10 - x ≤ gx ∧ wx.heap[w.heap.size]? = some (.cells #[.int .i8 a1, .int .i8 a2] 62 (0, 0)) ∧ wx.heap[w.heap.size + 1]? = some (.cells Try.zeroCells102 102 (0, 0)) ∧ wx.heap[w.heap.size + 1 + 1]? = some (.cells (gridA (fun q => if q < y * 10 + x then -1 else 0)) 102 (0, 0)) ∧ wx.heap[b0]? = some (.cells #[.int .i8 r0, .int .i8 r1, .int .u16 r2, .int .u16 r3, .int .u16 r4, .int .u16 r5, .int .u16 r6, .int .u16 r7, .int .u16 r8, .int .u16 r9, .int .u16 r10, .int .u16 r11] 35 (0, 0)) ∧ Below w.heap.size w wx)
      case atStart => exact ⟨0, rfl, by omega, by omega, hb3, hb4, by simpa using hb5, hbk1, hB0⟩
      case round =>
        clear hb3 hb4 hb5 hbk1 hB0
        obtain ⟨x, rfl, hx, hxq, hb3, hb4, hb5, hbk1, hB0⟩ := hrel
        by_cases cx : x < 10
        · have g1 : ((x : Int) < 10) = True := eq_true (by omega)
          have g2 : (0 ≤ (x : Int)) = True := eq_true (by omega)
          have hp : y * 10 + x < 100 := by omega
          have cX : wr.cell? ⟨w.heap.size + 1 + 1, y * 10 + x, none⟩ = some (.int .i64 ((fun q => if q < y * 10 + x then -1 else 0) (y * 10 + x))) := by simp only [World.cell?, hb5]; exact gridA_get _ _ hp
          have fX := blk_frozen hb5 (y * 10 + x)
          have hwx : IntKind.i64.wrap ((x : Int) + 1) = ((x + 1 : Nat) : Int) := by simp [IntKind.wrap, IntKind.bits, IntKind.signed]; omega
          go_wp2
          have hs5 := ssetCell_at_ wr (w.heap.size + 1 + 1) (y * 10 + x) (.int .i64 (-1)) 102 _ hb5
          rw [gridA_set _ _ hp] at hs5
          have hs5' := (gridA_congr (fun q _ => show (if q = y * 10 + x then (-1 : Int) else (if q < y * 10 + x then -1 else 0)) = (if q < y * 10 + (x + 1) then -1 else 0) by split <;> split <;> omega))
          rw [hs5'] at hs5
          go_roundg (10 - (x + 1))
          case measure => omega
          case rel => exact ⟨x + 1, by simp, by omega, by omega, (Below.heap_setCell _ _ _ _ (by show w.heap.size ≠ w.heap.size + 1 + 1; omega)).trans hb3, (Below.heap_setCell _ _ _ _ (by show w.heap.size + 1 ≠ w.heap.size + 1 + 1; omega)).trans hb4, hs5, (Below.heap_setCell _ _ _ _ (by show b0 ≠ w.heap.size + 1 + 1; omega)).trans hbk1, below_set hB0 (by omega)⟩
        · obtain rfl : x = 10 := by omega
          have g1 : (((10 : Nat) : Int) < 10) = False := eq_false (by omega)
          have hwy : IntKind.i64.wrap ((y : Int) + 1) = ((y + 1 : Nat) : Int) := by simp [IntKind.wrap, IntKind.bits, IntKind.signed]; omega
          go_wp2
          go_roundg (10 - (y + 1))
          case measure => omega
          case rel => exact ⟨y + 1, by simp, by omega, by omega, hb3, hb4, by rw [Nat.add_mul]; exact hb5, hbk1, hB0⟩
    · obtain rfl : y = 10 := by omega
      have f1 : (((10 : Nat) : Int) < 10) = False := eq_false (by omega)
      go_wp2
      obtain ⟨hx0, hx1, hy0, hy1⟩ := H.inG_iff.1 ha
      dsimp only at hx0 hx1 hy0 hy1
      obtain ⟨X, rfl⟩ := Int.eq_ofNat_of_zero_le hx0
      obtain ⟨Y, rfl⟩ := Int.eq_ofNat_of_zero_le hy0
      have e1 : (0 ≤ (X : Int)) = True := eq_true (by omega)
      have e2 : ((X : Int) < 10) = True := eq_true (by omega)
      have e3 : (0 ≤ (Y : Int)) = True := eq_true (by omega)
      have e4 : ((Y : Int) < 10) = True := eq_true (by omega)
      have hp : Y * 10 + X < 100 := by omega
      have c0 : wr.cell? ⟨w.heap.size, 0, none⟩ = some (.int .i8 (X : Int)) := (blk_cell hb3 0).trans rfl
      have c1 : wr.cell? ⟨w.heap.size, 1, none⟩ = some (.int .i8 (Y : Int)) := (blk_cell hb3 1).trans rfl
      have cX : wr.cell? ⟨w.heap.size + 1 + 1, Y * 10 + X, none⟩ = some (.int .i64 ((fun q => if q < 10 * 10 then -1 else 0) (Y * 10 + X))) := by simp only [World.cell?, hb5]; exact gridA_get _ _ hp
      have fX := blk_frozen hb5 (Y * 10 + X)
      go_still_tail 6, (by kernel_rfl)
      change wpList _ _ _ _ _ wr.drew
      replace hb3 := blk_drew hb3
      replace hb4 := blk_drew hb4
      replace hb5 := blk_drew hb5
      replace hbk1 := blk_drew hbk1
      replace hB0 := below_drew1 hB0
      clear cX fX c0 c1
      generalize wr.drew = W4 at hb3 hb4 hb5 hbk1 hB0 ⊢
      have cX : W4.cell? ⟨w.heap.size + 1 + 1, Y * 10 + X, none⟩ = some (.int .i64 ((fun q => if q < 10 * 10 then -1 else 0) (Y * 10 + X))) := by simp only [World.cell?, hb5]; exact gridA_get _ _ hp
      have fX := blk_frozen hb5 (Y * 10 + X)
      have hs5 := ssetCell_at_ W4 (w.heap.size + 1 + 1) (Y * 10 + X) (.int .i64 0) 102 _ hb5
      rw [gridA_set _ _ hp] at hs5
      have hs5' := (gridA_congr (fun q hq => show (if q = Y * 10 + X then (0 : Int) else (if q < 10 * 10 then -1 else 0)) = (if q = Y * 10 + X then (0 : Int) else GR (fun _ => none) q) by
        split
        · rfl
        · first | rfl | (rw [if_pos (by omega)]; rfl))).trans (GR_put (fun _ => none) X Y (by omega) 0)
      rw [hs5'] at hs5
      replace hb3 := (Below.heap_setCell W4 ⟨w.heap.size + 1 + 1, Y * 10 + X, none⟩ (.int .i64 0) _ (by show w.heap.size ≠ w.heap.size + 1 + 1; omega)).trans hb3
      replace hb4 := (Below.heap_setCell W4 ⟨w.heap.size + 1 + 1, Y * 10 + X, none⟩ (.int .i64 0) _ (by show w.heap.size + 1 ≠ w.heap.size + 1 + 1; omega)).trans hb4
      replace hbk1 := (Below.heap_setCell W4 ⟨w.heap.size + 1 + 1, Y * 10 + X, none⟩ (.int .i64 0) _ (by show b0 ≠ w.heap.size + 1 + 1; omega)).trans hbk1
      replace hB0 := below_set (g := w.heap.size + 1 + 1) (j := Y * 10 + X) (v := .int .i64 0) hB0 (by omega)
      clear hs5' hb5
      go_upto_region 10 with (fail)
      generalize W4.setCell ⟨w.heap.size + 1 + 1, Y * 10 + X, none⟩ (.int .i64 0) = W5 at hs5 hb3 hb4 hbk1 hB0 ⊢
      clear cX fX
      have c0 : W5.cell? ⟨w.heap.size, 0, none⟩ = some (.int .i8 (X : Int)) := (blk_cell hb3 0).trans rfl
      have c1 : W5.cell? ⟨w.heap.size, 1, none⟩ = some (.int .i8 (Y : Int)) := (blk_cell hb3 1).trans rfl
      have hrow := sspot_row W5 w.heap.size (fun _ => True) (X : Int) (Y : Int) hB0.size trivial
      have hbl : Below W5.heap.size W5 (W5.alloc (.cells #[.int .i8 (X : Int), .int .i8 (Y : Int)] 62)) := Below.alloc (Below.refl _ _) (Nat.le_refl _) _
      replace hs5 := blk_below hs5 hbl
      replace hb4 := blk_below hb4 hbl
      replace hbk1 := blk_below hbk1 hbl
      have hB5 := hB0.trans (hbl.mono hB0.size)
      go_wp2
      generalize W5.alloc (.cells #[.int .i8 (X : Int), .int .i8 (Y : Int)] 62) = W6 at hrow hs5 hb4 hbk1 hB5 ⊢
      clear hbl hb3 c0 c1 hB0
      have hrow1 : Kd.R k62 62 W6 w.heap.size (fun _ => True) (.slice (some ⟨W5.heap.size, 0, none⟩) 1 1) ([((X : Int), (Y : Int))].map sToS) := hrow
      clear hrow e1 e2 e3 e4 f1
      generalize W5.heap.size = g8 at hrow1 ⊢
      go_loopg [8, 9] k (fun kq v8 v9 wr => ∃ (kk i : Nat) (l : List (Int × Int)) (M : Int × Int → Option Int), v9 = .int .i64 (i : Int) ∧ kk ≤ kq ∧ i ≤ l.length ∧ Hid (H.bfs bes kk i l M = some R) ∧ l.length ≤ 1000 ∧ H.FarOk M l.length ∧ Kd.R k62 62 wr w.heap.size (fun _ => True) v8 (l.map sToS) ∧ wr.heap[w.heap.size + 1]? = some (.cells Try.zeroCells102 102 (0, 0)) ∧ wr.heap[w.heap.size + 1 + 1]? = some (.cells (gridA (GR M)) 102 (0, 0)) ∧ wr.heap[b0]? = some (.cells #[.int .i8 r0, .int .i8 r1, .int .u16 r2, .int .u16 r3, .int .u16 r4, .int .u16 r5, .int .u16 r6, .int .u16 r7, .int .u16 r8, .int .u16 r9, .int .u16 r10, .int .u16 r11] 35 (0, 0)) ∧ Below w.heap.size w wr)
      case atStart => exact ⟨k, 0, [((X : Int), (Y : Int))], _, rfl, Nat.le_refl _, Nat.zero_le _, hV, by simp, H.FarOk.one ha, hrow1, hb4, hs5, hbk1, hB5⟩
      case round =>
        clear hrow1 hb4 hs5 hbk1 hB5 hV
        obtain ⟨kk, i, l, M, rfl, hk, hi, hV, hl, hMo, hrow, hb4, hb5, hbk1, hB⟩ := hrel
        cases kk with
        | zero => exact absurd hV (by simp [H.bfs, Hid])
        | succ kk =>
          have hV2 : (if h : i < l.length then (bes l[i]).bind fun nx => (H.bfsIn l[i] nx l M).bind fun p => H.bfs bes kk (i + 1) p.1 p.2 else some M) = some R := hV
          clear hV
          obtain ⟨A8, c8, rfl⟩ := Kd.R_slice hrow
          rw [List.length_map] at hrow ⊢
          by_cases c : i < l.length
          · rw [dif_pos c] at hV2
            obtain ⟨nx, hnx, hV3⟩ := Option.bind_eq_some_iff.1 hV2
            obtain ⟨⟨l2, M2⟩, hin, hV4⟩ := Option.bind_eq_some_iff.1 hV3
            clear hV2 hV3
            have f1 : ((i : Int) < (l.length : Int)) = True := eq_true (by omega)
            have f2 : (0 ≤ (i : Int)) = True := eq_true (by omega)
            obtain ⟨ad, e_, hx0, hx1⟩ := at_T62 (Kd.R_reads' hrow).2.2 (i : Int) (by omega) (by rw [List.length_map]; omega)
            subst e_
            have hrd : rd_T62 (l.map sToS) (i : Int) = sToS l[i] := by simp [rd_T62, List.getD_eq_getElem?_getD, c]
            rw [hrd] at hx0 hx1
            generalize hcur : l[i] = cur at hnx hin hx0 hx1 hrd
            obtain ⟨cx, cy⟩ := cur
            dsimp only [sToS] at hx0 hx1
            rw [Int.toNat_natCast] at hx0 hx1
            go_wp2_with (go_at_call 86; refine (hbes _ (cx, cy) nx hbk1 hnx).mono ?_; rintro e w2 ⟨v10, rfl, ho, hb⟩)
            have hN : Kd.R k62 62 w2 w.heap.size (fun _ => True) v10 (nx.map sToS) := Kd.R_lower ho hB.size
            have hA : ∀ k, (Value.slice (some ad) l.length c8).ownBlock = some k → v10.ownBlock ≠ some k := fun k hk z => by
              have h1 := Kd.R_lt hrow k hk
              have h2 := Kd.R_base ho k z
              omega
            replace hrow := Kd.R_below hrow hb
            replace hb4 := blk_below hb4 hb
            replace hb5 := blk_below hb5 hb
            replace hbk1 := blk_below hbk1 hb
            replace hB := hB.trans (hb.mono hB.size)
            obtain ⟨A10, c10, rfl⟩ := Kd.R_slice hN
            rw [List.length_map] at hN hA ⊢
            have hci : l[i]? = some (cx, cy) := by rw [List.getElem?_eq_getElem c, hcur]
            clear hrd hcur f1 f2 hi c hx0 hx1 ho hb hnx
            go_loopg [8, 11] nx.length (fun gq v8 v11 w3 => ∃ (j : Nat) (l' : List (Int × Int)) (M' : Int × Int → Option Int), v11 = .int .i64 (j : Int) ∧ nx.length - j ≤ gq ∧ j ≤ nx.length ∧ Hid (H.bfsIn (cx, cy) (nx.drop j) l' M' = some (l2, M2)) ∧ l'[i]? = some (cx, cy) ∧ l'.length ≤ 1000 ∧ H.FarOk M' l'.length ∧ Kd.R k62 62 w3 w.heap.size (fun _ => True) v8 (l'.map sToS) ∧ (∀ k, v8.ownBlock = some k → (Value.slice A10 nx.length c10).ownBlock ≠ some k) ∧ Kd.R k62 62 w3 w.heap.size (fun _ => True) (.slice A10 nx.length c10) (nx.map sToS) ∧ w3.heap[w.heap.size + 1]? = some (.cells Try.zeroCells102 102 (0, 0)) ∧ w3.heap[w.heap.size + 1 + 1]? = some (.cells (gridA (GR M')) 102 (0, 0)) ∧ w3.heap[b0]? = some (.cells #[.int .i8 r0, .int .i8 r1, .int .u16 r2, .int .u16 r3, .int .u16 r4, .int .u16 r5, .int .u16 r6, .int .u16 r7, .int .u16 r8, .int .u16 r9, .int .u16 r10, .int .u16 r11] 35 (0, 0)) ∧ Below w.heap.size w w3)
            case atStart => exact ⟨0, l, M, rfl, by omega, Nat.zero_le _, hin, hci, hl, hMo, hrow, hA, hN, hb4, hb5, hbk1, hB⟩
            case round =>
              clear hin hci hl hMo hrow hA hN hb4 hb5 hbk1 hB
              obtain ⟨j, l', M', rfl, hjq, hj, hin, hci, hl, hMo, hrow, hA, hN, hb4, hb5, hbk1, hB⟩ := hrel
              obtain ⟨A8, c8, rfl⟩ := Kd.R_slice hrow
              rw [List.length_map] at hrow hA ⊢
              by_cases cj : j < nx.length
              · have f1 : ((j : Int) < (nx.length : Int)) = True := eq_true (by omega)
                have f2 : (0 ≤ (j : Int)) = True := eq_true (by omega)
                obtain ⟨ad2, e_, hx0, hx1⟩ := at_T62 (Kd.R_reads' hN).2.2 (j : Int) (by omega) (by rw [List.length_map]; omega)
                subst e_
                have hrd : rd_T62 (nx.map sToS) (j : Int) = sToS nx[j] := by simp [rd_T62, List.getD_eq_getElem?_getD, cj]
                rw [hrd] at hx0 hx1
                have hdr : nx.drop j = nx[j] :: nx.drop (j + 1) := List.drop_eq_getElem_cons cj
                rw [hdr] at hin
                generalize nx[j] = s at hx0 hx1 hin hrd hdr
                obtain ⟨sx, sy⟩ := s
                dsimp only [sToS] at hx0 hx1
                rw [Int.toNat_natCast] at hx0 hx1
                have hV5 : (if H.inG (sx, sy) = true then (match M' (sx, sy) with | some _ => H.bfsIn (cx, cy) (nx.drop (j + 1)) l' M' | none => (match M' (cx, cy) with | some d => (if l'.length < 1000 then H.bfsIn (cx, cy) (nx.drop (j + 1)) (l' ++ [(sx, sy)]) (H.farPut M' (sx, sy) (d + 1)) else none) | none => none)) else none) = some (l2, M2) := hin
                have hrdj := ak hrd
                clear hin hrd hdr
                by_cases cg : H.inG (sx, sy) = true
                · rw [if_pos cg] at hV5
                  obtain ⟨p0, p1, p2, p3⟩ := H.inG_iff.1 cg
                  dsimp only at p0 p1 p2 p3
                  obtain ⟨SX, rfl⟩ := Int.eq_ofNat_of_zero_le p0
                  obtain ⟨SY, rfl⟩ := Int.eq_ofNat_of_zero_le p2
                  have e1 : (0 ≤ (SX : Int)) = True := eq_true (by omega)
                  have e2 : ((SX : Int) < 10) = True := eq_true (by omega)
                  have e3 : (0 ≤ (SY : Int)) = True := eq_true (by omega)
                  have e4 : ((SY : Int) < 10) = True := eq_true (by omega)
                  have hps : SY * 10 + SX < 100 := by omega
                  have cS : wr.cell? ⟨w.heap.size + 1 + 1, SY * 10 + SX, none⟩ = some (.int .i64 ((M' ((SX : Int), (SY : Int))).getD (-1))) := by simp only [World.cell?, hb5]; rw [← GR_at M' SX SY (by omega)]; exact gridA_get _ _ hps
                  have hwj : IntKind.i64.wrap ((j : Int) + 1) = ((j + 1 : Nat) : Int) := by have hz := Kd.C_max (Kd.R_reads' hN).2.2; rw [List.length_map] at hz; simp [IntKind.wrap, IntKind.bits, IntKind.signed]; omega
                  cases hq : M' ((SX : Int), (SY : Int)) with
                  | some d =>
                    rw [hq] at hV5 cS
                    dsimp only [Option.getD_some] at hV5 cS
                    have hd0 := (hMo _ _ hq).2.1
                    have hdl : decide (d < 0) = false := decide_eq_false (by omega)
                    have hV6 : Hid (H.bfsIn (cx, cy) (nx.drop (j + 1)) l' M' = some (l2, M2)) := hV5
                    clear hV5
                    go_wp2
                    go_quiet (fail)
                    go_wp2
                    go_roundg (nx.length - (j + 1))
                    case measure => omega
                    case rel => exact ⟨j + 1, l', M', by simp, by omega, by omega, hV6, hci, hl, hMo, Kd.R_drewN hrow _, hA, Kd.R_drewN hN _, blk_drewN hb4 _, blk_drewN hb5 _, blk_drewN hbk1 _, pw_below_drewN hB _⟩
                  | none =>
                    rw [hq] at hV5 cS
                    dsimp only [Option.getD_none] at hV5 cS
                    cases hq2 : M' (cx, cy) with
                    | none => rw [hq2] at hV5; cases hV5
                    | some d =>
                      rw [hq2] at hV5
                      by_cases cl : l'.length < 1000
                      · have hV6 : Hid (H.bfsIn (cx, cy) (nx.drop (j + 1)) (l' ++ [((SX : Int), (SY : Int))]) (H.farPut M' ((SX : Int), (SY : Int)) (d + 1)) = some (l2, M2)) := by
                          have h2 := hV5
                          dsimp only at h2
                          rw [if_pos cl] at h2
                          exact h2
                        have hMo2 := hMo _ _ hq2
                        clear hV5
                        have hdl : decide ((-1 : Int) < 0) = true := by decide
                        go_wp2
                        go_quiet (fail)
                        replace hrow := Kd.R_drewN hrow nq
                        replace hN := Kd.R_drewN hN nq
                        replace hb4 := blk_drewN hb4 nq
                        replace hb5 := blk_drewN hb5 nq
                        replace hbk1 := blk_drewN hbk1 nq
                        replace hB := pw_below_drewN hB nq
                        have hx0' : (wr.drewN nq).cell? (ad2.add (j * 2)) = some (.int .i8 (SX : Int)) := hx0
                        have hx1' : (wr.drewN nq).cell? ⟨(ad2.add (j * 2)).block, (ad2.add (j * 2)).off + 1, none⟩ = some (.int .i8 (SY : Int)) := hx1
                        clear hx0 hx1 cS
                        generalize wr.drewN nq = W3 at hrow hN hb4 hb5 hbk1 hB hx0' hx1' ⊢
                        have hil := (List.getElem?_eq_some_iff.1 hci).1
                        have i1 : ((i : Int) < (l'.length : Int)) = True := eq_true (by omega)
                        have i2 : (0 ≤ (i : Int)) = True := eq_true (by omega)
                        obtain ⟨ad3, e_, hy0, hy1⟩ := at_T62 (Kd.R_reads' hrow).2.2 (i : Int) (by omega) (by rw [List.length_map]; omega)
                        subst e_
                        have hrd : rd_T62 (l'.map sToS) (i : Int) = (⟨cx, cy⟩ : S62) := by
                          have h2 : (l'.map sToS)[i]? = some (sToS (cx, cy)) := by rw [List.getElem?_map, hci]; rfl
                          simp [rd_T62, List.getD_eq_getElem?_getD, h2, sToS]
                        rw [hrd] at hy0 hy1
                        dsimp only at hy0 hy1
                        rw [Int.toNat_natCast] at hy0 hy1
                        obtain ⟨t0, t1, t2, t3⟩ := H.inG_iff.1 hMo2.1
                        dsimp only at t0 t1 t2 t3
                        obtain ⟨CX, rfl⟩ := Int.eq_ofNat_of_zero_le t0
                        obtain ⟨CY, rfl⟩ := Int.eq_ofNat_of_zero_le t2
                        have d1 : (0 ≤ (CX : Int)) = True := eq_true (by omega)
                        have d2 : ((CX : Int) < 10) = True := eq_true (by omega)
                        have d3 : (0 ≤ (CY : Int)) = True := eq_true (by omega)
                        have d4 : ((CY : Int) < 10) = True := eq_true (by omega)
                        have hpc : CY * 10 + CX < 100 := by omega
                        have cC : W3.cell? ⟨w.heap.size + 1 + 1, CY * 10 + CX, none⟩ = some (.int .i64 d) := by
                          simp only [World.cell?, hb5]
                          have h2 := gridA_get (GR M') _ hpc
                          rw [GR_at M' CX CY (by omega), hq2] at h2
                          exact h2
                        have hwd : IntKind.i64.wrap (d + 1) = d + 1 := by have := hMo2.2.1; have := hMo2.2.2; simp [IntKind.wrap, IntKind.bits, IntKind.signed]; omega
                        have hMo5 := hMo.put cg hMo2.2.1 hMo2.2.2
                        clear hrd
                        go_wp2
                        go_still_tail 26, (by kernel_rfl)
                        change wpList _ _ _ _ _ W3.drew
                        replace hrow := Kd.R_drew hrow
                        replace hN := Kd.R_drew hN
                        replace hb4 := blk_drew hb4
                        replace hb5 := blk_drew hb5
                        replace hbk1 := blk_drew hbk1
                        replace hB := below_drew1 hB
                        clear hx0' hx1' hy0 hy1 cC i1 i2 d1 d2 d3 d4 hdl
                        generalize W3.drew = W4 at hrow hN hb4 hb5 hbk1 hB ⊢
                        have cS : W4.cell? ⟨w.heap.size + 1 + 1, SY * 10 + SX, none⟩ = some (.int .i64 (GR M' (SY * 10 + SX))) := by simp only [World.cell?, hb5]; exact gridA_get _ _ hps
                        have fS := blk_frozen hb5 (SY * 10 + SX)
                        have hs5 := ssetCell_at_ W4 (w.heap.size + 1 + 1) (SY * 10 + SX) (.int .i64 (d + 1)) 102 _ hb5
                        rw [gridA_set _ _ hps, GR_put M' SX SY (by omega) (d + 1)] at hs5
                        have hr5 : Kd.R k62 62 (W4.setCell ⟨w.heap.size + 1 + 1, SY * 10 + SX, none⟩ (.int .i64 (d + 1))) w.heap.size (fun k => (Value.slice (some ad2) nx.length c10).ownBlock ≠ some k) (.slice (some ad3) l'.length c8) (l'.map sToS) := sR62re (Kd.R_far (Kd.R_types hrow hb5 (by decide)) (fun k hk => hk.2) _) (fun k hk => hA k hk)
                        have hN5 : Kd.R k62 62 (W4.setCell ⟨w.heap.size + 1 + 1, SY * 10 + SX, none⟩ (.int .i64 (d + 1))) w.heap.size (fun k => (Value.slice (some ad3) l'.length c8).ownBlock ≠ some k) (.slice (some ad2) nx.length c10) (nx.map sToS) := sR62re (Kd.R_far (Kd.R_types hN hb5 (by decide)) (fun k hk => hk.2) _) (fun k hk z => hA k z hk)
                        have hlt0 := blk_lt hbk
                        replace hb4 := (Below.heap_setCell W4 ⟨w.heap.size + 1 + 1, SY * 10 + SX, none⟩ (.int .i64 (d + 1)) _ (by show w.heap.size + 1 ≠ w.heap.size + 1 + 1; omega)).trans hb4
                        replace hbk1 := (Below.heap_setCell W4 ⟨w.heap.size + 1 + 1, SY * 10 + SX, none⟩ (.int .i64 (d + 1)) _ (by show b0 ≠ w.heap.size + 1 + 1; omega)).trans hbk1
                        replace hB := below_set (g := w.heap.size + 1 + 1) (j := SY * 10 + SX) (v := .int .i64 (d + 1)) hB (by omega)
                        clear hb5 hrow hN
                        go_upto_region 20 with (fail)
                        generalize W4.setCell ⟨w.heap.size + 1 + 1, SY * 10 + SX, none⟩ (.int .i64 (d + 1)) = W5 at hs5 hr5 hN5 hb4 hbk1 hB ⊢
                        clear cS fS
                        obtain ⟨ad4, e_, hz0, hz1⟩ := at_T62 (Kd.R_reads' hN5).2.2 (j : Int) (by omega) (by rw [List.length_map]; omega)
                        have e3 := Option.some.inj e_
                        subst e3
                        have hrdj2 : rd_T62 (nx.map sToS) (j : Int) = (⟨(SX : Int), (SY : Int)⟩ : S62) := hrdj.out
                        rw [hrdj2] at hz0 hz1
                        dsimp only at hz0 hz1
                        rw [Int.toNat_natCast] at hz0 hz1
                        clear hrdj2
                        have hlen : (l' ++ [((SX : Int), (SY : Int))]).length = l'.length + 1 := by rw [List.length_append]; rfl
                        have hfr : ∀ k, W5.heap.size ≤ k → (Value.slice (some ad2) nx.length c10).ownBlock ≠ some k := fun k hk z => by have := Kd.R_lt hN5 k z; omega
                        go_wp2_with (((with_reducible refine gate_builtin (b := .append) (xs := #[.tmp 91, .tmp 96]) rfl ?_); at_builtin; refine Kd.R_append k62 (w0 := w) w.heap.size rfl (.tmp 91) (.tmp 96) 37 62 (.agg #[(.int .i8 0), (.int .i8 0)]) 2 rfl Try.underlying37 info62 rfl (by decide) (by omega) (.slice (some ad3) l'.length c8) (l'.map sToS) (⟨(SX : Int), (SY : Int)⟩ : S62) [.int .i8 (SX : Int), .int .i8 (SY : Int)] (fun k => (Value.slice (some ad2) nx.length c10).ownBlock ≠ some k) (fun _ => False) rfl rfl ?aP (fun _ hk => hk.elim) ?aF ?aO ?aB ?aS ?aL ?_; (case aP => exact k62_mkM _ _ _ (⟨(SX : Int), (SY : Int)⟩ : S62)); (case aF => exact hfr); (case aO => exact hr5); (case aB => exact hB); (case aS => exact hB.size); (case aL => rw [List.length_map]; omega); intro v8n W6 ho hb6 hg6 hat))
                        go_roundg (nx.length - (j + 1))
                        case measure => omega
                        case rel => exact ⟨j + 1, l' ++ [((SX : Int), (SY : Int))], _, by simp, by omega, by omega, hV6, by rw [List.getElem?_append_left hil]; exact hci, by omega, by rw [hlen]; exact hMo5, by rw [List.map_append]; exact Kd.R_mono ho (fun k hk => trivial), fun k hk => ho.1 k hk, sR62re (Kd.R_grown hN5 hg6 (fun k hk z => hk z.symm)) (fun k hk => trivial), blk_grown hb4 hg6 (Kd.R_ne hr5 hb4 (by decide)), blk_grown hs5 hg6 (Kd.R_ne hr5 hs5 (by decide)), blk_grown hbk1 hg6 (Kd.R_ne hr5 hbk1 (by decide)), hb6⟩
                      · exfalso
                        dsimp only at hV5
                        rw [if_neg cl] at hV5
                        cases hV5
                · rw [if_neg cg] at hV5; cases hV5
              · obtain rfl : j = nx.length := by omega
                rw [List.drop_length] at hin
                have hin2 : some (l', M') = some (l2, M2) := hin
                injection hin2 with hin2
                injection hin2 with e1 e2
                subst e1
                subst e2
                have f1 : ((nx.length : Int) < (nx.length : Int)) = False := eq_false (by omega)
                have hwi : IntKind.i64.wrap ((i : Int) + 1) = ((i + 1 : Nat) : Int) := by simp [IntKind.wrap, IntKind.bits, IntKind.signed]; have := (List.getElem?_eq_some_iff.1 hci).1; omega
                go_wp2
                go_roundg kk
                case measure => omega
                case rel => exact ⟨kk, i + 1, l', M', by simp, Nat.le_refl _, (List.getElem?_eq_some_iff.1 hci).1, hV4, hl, hMo, hrow, hb4, hb5, hbk1, hB⟩
          · rw [dif_neg c] at hV2
            obtain rfl := Option.some.inj hV2
            have f1 : ((i : Int) < (l.length : Int)) = False := eq_false (by omega)
            have hst2 : (storeCells ⟨w.heap.size + 1, 0, none⟩ (gridA (GR M)).toList).run Try.prog wr = .ok () (wr.setRow (w.heap.size + 1) (gridA (GR M))) := by
              have h := run_storeCells_from (P := Try.prog) (w.heap.size + 1) 102 (gridA (GR M)).toList 0 Try.zeroCells102 wr hb4 (by rw [Nat.zero_add, Array.length_toList, gridA_size]; kernel_rfl) (gridA_one _)
              simpa using h
            go_wp2
            refine wp_load_row 102 (.tmp 5) rfl (w.heap.size + 1 + 1) (by rfl) 102 _ (0, 0) _ hb5 Try.underlying102 rfl (by rw [gridA_size]; kernel_rfl) ?_
            go_wp2
            refine bodyPost_ret (results_cell_row rfl _ _ (w.heap.size + 1) 102 _ (0, 0) _ (by rfl) (setRow_heap wr _ _ _ 102 _ hb4) Try.underlying102 rfl (by rw [gridA_size]; kernel_rfl)) rfl ?_
            exact ⟨rfl, sbelow_row_ hB (by omega) _⟩

def spec_StepsBetween.bes (k : Nat) (a0_0 : Int) (a0_1 : Int) (a0_2 : Int) (a0_3 : Int) (a0_4 : Int) (a0_5 : Int) (a0_6 : Int) (a0_7 : Int) (a0_8 : Int) (a0_9 : Int) (a0_10 : Int) (a0_11 : Int) : Int × Int → Option (List (Int × Int)) := fun s => (spec_l01Beside.f k a0_0 a0_1 a0_2 a0_3 a0_4 a0_5 a0_6 a0_7 a0_8 a0_9 a0_10 a0_11 s.1 s.2).map (List.map (fun x => (x.f0, x.f1)))
theorem spec_StepsBetween.gsteps_ (k b0 : Nat) (a0_0 : Int) (a0_1 : Int) (a0_2 : Int) (a0_3 : Int) (a0_4 : Int) (a0_5 : Int) (a0_6 : Int) (a0_7 : Int) (a0_8 : Int) (a0_9 : Int) (a0_10 : Int) (a0_11 : Int) (a : Int × Int) (R : Int × Int → Option Int) (hR : Go.Proofs.Ytooidjdgfoioiaa.H.bfsFrom (spec_StepsBetween.bes k a0_0 a0_1 a0_2 a0_3 a0_4 a0_5 a0_6 a0_7 a0_8 a0_9 a0_10 a0_11) k a = some R) (w : World) (hbk : w.heap[b0]? = some (.cells #[.int .i8 a0_0, .int .i8 a0_1, .int .u16 a0_2, .int .u16 a0_3, .int .u16 a0_4, .int .u16 a0_5, .int .u16 a0_6, .int .u16 a0_7, .int .u16 a0_8, .int .u16 a0_9, .int .u16 a0_10, .int .u16 a0_11] 35 (0, 0))) :
    Calls Try.prog 63 #[.pointer (some ⟨b0, 0, none⟩), .agg #[.int .i8 a.1, .int .i8 a.2]] w fun e w' => e = .returned (.agg (gridA (GR R))) ∧ Below w.heap.size w w' :=
  gsteps_calls b0 a0_0 a0_1 a0_2 a0_3 a0_4 a0_5 a0_6 a0_7 a0_8 a0_9 a0_10 a0_11 (spec_StepsBetween.bes k a0_0 a0_1 a0_2 a0_3 a0_4 a0_5 a0_6 a0_7 a0_8 a0_9 a0_10 a0_11) (fun W s nx hW hs => by
    obtain ⟨xs, hxs, hmap⟩ := Option.map_eq_some_iff.1 hs
    have hid : nx.map sToS = xs := by rw [← hmap, List.map_map]; exact (List.map_congr_left (fun x _ => rfl)).trans (List.map_id xs)
    refine (spec_l01Beside.calls k b0 a0_0 a0_1 a0_2 a0_3 a0_4 a0_5 a0_6 a0_7 a0_8 a0_9 a0_10 a0_11 s.1 s.2 xs W hW hxs).mono ?_
    rintro e w' ⟨v, h1, h2, h3⟩
    exact ⟨v, h1, by rw [hid]; exact h2, h3⟩) k a R hR w hbk
def spec_StepsBetween.far (k : Nat) (a0_0 : Int) (a0_1 : Int) (a0_2 : Int) (a0_3 : Int) (a0_4 : Int) (a0_5 : Int) (a0_6 : Int) (a0_7 : Int) (a0_8 : Int) (a0_9 : Int) (a0_10 : Int) (a0_11 : Int) (a1_0 a1_1 a2_0 a2_1 : Int) : Option (Int × Int) := (Go.Proofs.Ytooidjdgfoioiaa.H.bfsFrom (spec_StepsBetween.bes k a0_0 a0_1 a0_2 a0_3 a0_4 a0_5 a0_6 a0_7 a0_8 a0_9 a0_10 a0_11) k (a1_0, a1_1)).bind fun R => (if Go.Proofs.Ytooidjdgfoioiaa.H.inG (a2_0, a2_1) = true then some (match R (a2_0, a2_1) with | some d => ((d, 0) : Int × Int) | none => (0, 6)) else none)
theorem spec_StepsBetween.far_mono (a0_0 : Int) (a0_1 : Int) (a0_2 : Int) (a0_3 : Int) (a0_4 : Int) (a0_5 : Int) (a0_6 : Int) (a0_7 : Int) (a0_8 : Int) (a0_9 : Int) (a0_10 : Int) (a0_11 : Int) (a1_0 a1_1 a2_0 a2_1 : Int) (k : Nat) : LeO (spec_StepsBetween.far k a0_0 a0_1 a0_2 a0_3 a0_4 a0_5 a0_6 a0_7 a0_8 a0_9 a0_10 a0_11 a1_0 a1_1 a2_0 a2_1) (spec_StepsBetween.far (k + 1) a0_0 a0_1 a0_2 a0_3 a0_4 a0_5 a0_6 a0_7 a0_8 a0_9 a0_10 a0_11 a1_0 a1_1 a2_0 a2_1) := by
  intro r h
  unfold spec_StepsBetween.far at h ⊢
  obtain ⟨R, h1, h2⟩ := Option.bind_eq_some_iff.mp h
  have h3 : Go.Proofs.Ytooidjdgfoioiaa.H.bfsFrom (spec_StepsBetween.bes (k + 1) a0_0 a0_1 a0_2 a0_3 a0_4 a0_5 a0_6 a0_7 a0_8 a0_9 a0_10 a0_11) (k + 1) (a1_0, a1_1) = some R := by
    unfold Go.Proofs.Ytooidjdgfoioiaa.H.bfsFrom at h1 ⊢
    by_cases c : Go.Proofs.Ytooidjdgfoioiaa.H.inG (a1_0, a1_1) = true
    · rw [if_pos c] at h1 ⊢
      refine Go.Proofs.Ytooidjdgfoioiaa.H.bfs_mono (fun s x hx => ?_) k (k + 1) (by omega) _ _ _ _ h1
      unfold spec_StepsBetween.bes at hx ⊢
      obtain ⟨xs, hxs, hmap⟩ := Option.map_eq_some_iff.1 hx
      rw [spec_l01Beside.mono a0_0 a0_1 a0_2 a0_3 a0_4 a0_5 a0_6 a0_7 a0_8 a0_9 a0_10 a0_11 s.1 s.2 k xs hxs]
      rw [← hmap]; rfl
    · rw [if_neg c] at h1; cases h1
  rw [h3, Option.bind_some]
  exact h2
def spec_StepsBetween.f (k : Nat) (a0_0 : Int) (a0_1 : Int) (a0_2 : Int) (a0_3 : Int) (a0_4 : Int) (a0_5 : Int) (a0_6 : Int) (a0_7 : Int) (a0_8 : Int) (a0_9 : Int) (a0_10 : Int) (a0_11 : Int) (a1_0 : Int) (a1_1 : Int) (a2_0 : Int) (a2_1 : Int) : Option (Int × Int) := (spec_l01Two.f k a0_0 a0_1 a0_2 a0_3 a0_4 a0_5 a0_6 a0_7 a0_8 a0_9 a0_10 a0_11 a1_0 a1_1 a2_0 a2_1).bind fun t148 => (if t148 = 0 then (spec_StepsBetween.far k a0_0 a0_1 a0_2 a0_3 a0_4 a0_5 a0_6 a0_7 a0_8 a0_9 a0_10 a0_11 a1_0 a1_1 a2_0 a2_1) else (some (0, t148)))
theorem spec_StepsBetween.mono : ∀ a0 a1 a2 a3 a4 a5 a6 a7 a8 a9 a10 a11 a12 a13 a14 a15 k, LeO (spec_StepsBetween.f k a0 a1 a2 a3 a4 a5 a6 a7 a8 a9 a10 a11 a12 a13 a14 a15) (spec_StepsBetween.f (k + 1) a0 a1 a2 a3 a4 a5 a6 a7 a8 a9 a10 a11 a12 a13 a14 a15) := by
  intro a0 a1 a2 a3 a4 a5 a6 a7 a8 a9 a10 a11 a12 a13 a14 a15 k
  unfold spec_StepsBetween.f
  repeat' first
      | (with_reducible exact spec_l01Two.mono ..)
      | (with_reducible exact spec_StepsBetween.far_mono ..)
      | (with_reducible exact LeO.refl ..)
      | (with_reducible exact LeO.none ..)
      | (with_reducible refine LeO.ite ?_ ?_)
      | (with_reducible refine LeO.bind ?_ (fun _ => ?_))
set_option maxHeartbeats 8000000 in
set_option maxRecDepth 100000 in
theorem spec_StepsBetween.calls (k : Nat) (a0_0 : Int) (a0_1 : Int) (a0_2 : Int) (a0_3 : Int) (a0_4 : Int) (a0_5 : Int) (a0_6 : Int) (a0_7 : Int) (a0_8 : Int) (a0_9 : Int) (a0_10 : Int) (a0_11 : Int) (a1_0 : Int) (a1_1 : Int) (a2_0 : Int) (a2_1 : Int) (r1 : Int) (r2 : Int) (w : World) (h : spec_StepsBetween.f k a0_0 a0_1 a0_2 a0_3 a0_4 a0_5 a0_6 a0_7 a0_8 a0_9 a0_10 a0_11 a1_0 a1_1 a2_0 a2_1 = some (r1, r2)) :
    Calls Try.prog 42 #[.agg #[.int .i8 a0_0, .int .i8 a0_1, .int .u16 a0_2, .int .u16 a0_3, .int .u16 a0_4, .int .u16 a0_5, .int .u16 a0_6, .int .u16 a0_7, .int .u16 a0_8, .int .u16 a0_9, .int .u16 a0_10, .int .u16 a0_11], .agg #[.int .i8 a1_0, .int .i8 a1_1], .agg #[.int .i8 a2_0, .int .i8 a2_1]] w fun e w' => e = .returned (.tuple #[.int .i64 r1, .int .i64 r2]) ∧ Below w.heap.size w w' := by
 have hu35 := Try.underlying35
 have hu62 := Try.underlying62
 have HB := ak (Below.refl w.heap.size w)
 have H := h
 unfold spec_StepsBetween.f at H
 clear h
 replace H := Option.bind_eq_some_iff.mp H
 obtain ⟨t148, A40, H⟩ := H
 have A4 := ak A40
 clear A40
 by_cases c5 : t148 = 0
 {
 rw [if_pos c5] at H
 have c5b0 : (t148 == 0) = true := beq_iff_eq.mpr c5
 have c5b1 : (t148 != 0) = false := bne_eq_false_iff_eq.mpr c5
 clear c5
 have hF : ((Go.Proofs.Ytooidjdgfoioiaa.H.bfsFrom (spec_StepsBetween.bes k a0_0 a0_1 a0_2 a0_3 a0_4 a0_5 a0_6 a0_7 a0_8 a0_9 a0_10 a0_11) k (a1_0, a1_1)).bind fun R => (if Go.Proofs.Ytooidjdgfoioiaa.H.inG (a2_0, a2_1) = true then some (match R (a2_0, a2_1) with | some d => ((d, 0) : Int × Int) | none => (0, 6)) else none)) = some (r1, r2) := H
 clear H
 obtain ⟨RR, hRR, hF⟩ := Option.bind_eq_some_iff.mp hF
 by_cases cg : Go.Proofs.Ytooidjdgfoioiaa.H.inG (a2_0, a2_1) = true
 {
 rw [if_pos cg] at hF
 obtain ⟨nR, hOK⟩ := Go.Proofs.Ytooidjdgfoioiaa.H.bfsFrom_ok hRR
 obtain ⟨p0, p1, p2, p3⟩ := Go.Proofs.Ytooidjdgfoioiaa.H.inG_iff.1 cg
 dsimp only at p0 p1 p2 p3
 have e1 : (0 ≤ a2_0) = True := eq_true p0
 have e2 : (a2_0 < 10) = True := eq_true p1
 have e3 : (0 ≤ a2_1) = True := eq_true p2
 have e4 : (a2_1 < 10) = True := eq_true p3
 have hgr : GR RR (a2_1.toNat * 10 + a2_0.toNat) = (RR (a2_0, a2_1)).getD (-1) := by {
 rw [GR_at RR _ _ (by omega), Int.toNat_of_nonneg p0, Int.toNat_of_nonneg p2]
 }
 go_enter Try.func42, Try.ntmps42
 go_wp2_with (first | ((with_reducible refine gate_dst (N := 3) rfl ?_); refine box_event ?hg (N := 3) ?hd (cs := #[.int .i8 a0_0, .int .i8 a0_1, .int .u16 a0_2, .int .u16 a0_3, .int .u16 a0_4, .int .u16 a0_5, .int .u16 a0_6, .int .u16 a0_7, .int .u16 a0_8, .int .u16 a0_9, .int .u16 a0_10, .int .u16 a0_11]) (t := 35) ?hr ?_; (case hd => rfl); (case hg => rfl); (case hr => first | (go_simp; done) | (go_simp; rfl)); intro gb145 hg w6 hbox hb; have BK145 := ak (hbox); have GW145 := gS HB hg; have GE145 := gS HB hg; replace HB := kB HB hb; clear hb hbox hg) | ((with_reducible refine gate_dst (N := 4) rfl ?_); refine box_event ?hg (N := 4) ?hd (cs := #[.int .i8 a1_0, .int .i8 a1_1]) (t := 62) ?hr ?_; (case hd => rfl); (case hg => rfl); (case hr => first | (go_simp; done) | (go_simp; rfl)); intro gb146 hg w7 hbox hb; have BK146 := ak (hbox); have GW146 := gS1 HB GE145 hg; have GE146 := gS1 HB GE145 hg; have NB145_146 := nL BK145 hg; have NB146_145 := nG BK145 hg; replace BK145 := kK BK145 hb; replace HB := kB1 HB GE145 hb; clear hb hbox hg) | ((with_reducible refine gate_dst (N := 5) rfl ?_); refine box_event ?hg (N := 5) ?hd (cs := #[.int .i8 a2_0, .int .i8 a2_1]) (t := 62) ?hr ?_; (case hd => rfl); (case hg => rfl); (case hr => first | (go_simp; done) | (go_simp; rfl)); intro gb147 hg w8 hbox hb; have BK147 := ak (hbox); have GW147 := ak ((by rw [hg]; exact (below_size (zH2 HB GE145 GE146)) : w.heap.size ≤ gb147)); have GE147 := ak ((by rw [hg]; exact (below_size (zH2 HB GE145 GE146)) : w.heap.size ≤ gb147)); have NB145_147 := nL BK145 hg; have NB147_145 := nG BK145 hg; have NB146_147 := nL BK146 hg; have NB147_146 := nG BK146 hg; replace BK145 := kK BK145 hb; replace BK146 := kK BK146 hb; replace HB := kB2 HB GE145 GE146 hb; clear hb hbox hg; have hnb9 := NB146_145.out; have hnc9 := NB145_146.out; have hnb10 := NB146_147.out; have hnc10 := NB147_146.out; obtain ⟨hcz11_0, hcz11_1, hfz11_0, hfz11_1⟩ := cz2 w8 BK146; have hnb12 := NB147_145.out; have hnc12 := NB145_147.out; obtain ⟨hcz13_0, hcz13_1, hfz13_0, hfz13_1⟩ := cz2 w8 BK147) | ((with_reducible refine gate_callee (f := 74) rfl ?_); refine goesL_ (some 12) rfl rfl Try.func74 (by kernel_rfl) rfl #[.pointer (some ⟨gb145, 0, none⟩), .agg #[.int .i8 a1_0, .int .i8 a1_1], .agg #[.int .i8 a2_0, .int .i8 a2_1]] rfl gl_ ?_; (with_reducible refine (spec_l01Two.calls k gb145 a0_0 a0_1 a0_2 a0_3 a0_4 a0_5 a0_6 a0_7 a0_8 a0_9 a0_10 a0_11 a1_0 a1_1 a2_0 a2_1 t148 _ ?side1 A4.out).mono ?_); (case side1 => exact (zK BK145.out)); rintro e w14 ⟨rfl, hb⟩; refine ⟨_, rfl, ?_⟩; replace BK145 := kK BK145 hb; replace BK146 := kK BK146 hb; replace BK147 := kK BK147 hb; replace HB := kB3 HB GE145 GE146 GE147 hb; (try clear hb); have zA0 : w14.cell? ⟨gb146, 0, none⟩ = some (.int .i8 a1_0) := (blk_cell BK146.out 0).trans rfl; have zA1 : w14.cell? ⟨gb146, 1, none⟩ = some (.int .i8 a1_1) := (blk_cell BK146.out 1).trans rfl) | (go_at_call 63; (with_reducible refine (spec_StepsBetween.gsteps_ k gb145 a0_0 a0_1 a0_2 a0_3 a0_4 a0_5 a0_6 a0_7 a0_8 a0_9 a0_10 a0_11 (a1_0, a1_1) RR hRR _ BK145.out).mono ?_); rintro e w15 ⟨rfl, hb⟩; have m0_ := blk_below BK147.out hb; have m1_ := HB.out.trans (hb.mono HB.out.size); have hst := run_storeCells_new (P := Try.prog) w15 102 Try.zeroCells102 (gridA (GR RR)) (by rw [gridA_size]; kernel_rfl) (by rw [gridA_size]; kernel_rfl) (Array.all_eq_true_iff_forall_mem.2 (fun v hv => gridA_one _ v (by simpa using hv)))))
 have hg15 := heap_alloc_new w15 (.cells (gridA (GR RR)) 102)
 have hbl : Below w15.heap.size w15 (w15.alloc (.cells (gridA (GR RR)) 102)) := Below.alloc (Below.refl _ _) (Nat.le_refl _) _
 replace m0_ := blk_below m0_ hbl
 replace m1_ := m1_.trans (hbl.mono m1_.size)
 clear hst hbl
 generalize w15.alloc (.cells (gridA (GR RR)) 102) = w16 at hg15 m0_ m1_ ⊢
 generalize w15.heap.size = g15 at hg15 ⊢
 have y0 : w16.cell? ⟨gb147, 0, none⟩ = some (.int .i8 a2_0) := (blk_cell m0_ 0).trans rfl
 have y1 : w16.cell? ⟨gb147, 1, none⟩ = some (.int .i8 a2_1) := (blk_cell m0_ 1).trans rfl
 have y2 : w16.cell? ⟨g15, a2_1.toNat * 10 + a2_0.toNat, none⟩ = some (.int .i64 ((RR (a2_0, a2_1)).getD (-1))) := by {
 rw [← hgr]
 simp only [World.cell?, hg15]
 exact gridA_get _ _ (by omega)
 }
 cases hq : RR (a2_0, a2_1) with
 | some d => (
 rw [hq] at hF y2
 have hz := Option.some.inj hF
 obtain ⟨rfl, rfl⟩ := Prod.mk.inj hz
 have hdl : decide (d < 0) = false := decide_eq_false (by have := (hOK _ _ hq).2.1; omega)
 dsimp only [Option.getD_some] at y2
 clear hz hF hgr
 go_quiet (fail)
 go_wp2
 go_quiet (fail)
 try go_wp2
 go_ret2
 exact ⟨rfl, by repeat (first | exact m1_ | apply pw_below_drewN | apply below_drew1)⟩
 )
 | none => (
 rw [hq] at hF y2
 have hz := Option.some.inj hF
 obtain ⟨rfl, rfl⟩ := Prod.mk.inj hz
 have hdl : decide ((-1 : Int) < 0) = true := by decide
 dsimp only [Option.getD_none] at y2
 clear hz hF hgr
 go_quiet (fail)
 go_wp2
 go_ret2
 exact ⟨rfl, by repeat (first | exact m1_ | apply pw_below_drewN | apply below_drew1)⟩
 )
 }
 · rw [if_neg cg] at hF; cases hF
 }
 {
 rw [if_neg c5] at H
 have c5b0 : (t148 == 0) = false := beq_eq_false_iff_ne.mpr c5
 have c5b1 : (t148 != 0) = true := bne_iff_ne.mpr c5
 simp only [Option.some.injEq, Prod.mk.injEq] at H
 obtain ⟨rfl, rfl⟩ := H
 go_enter Try.func42, Try.ntmps42
 go_wp2_with (first | ((with_reducible refine gate_dst (N := 3) rfl ?_); refine box_event ?hg (N := 3) ?hd (cs := #[.int .i8 a0_0, .int .i8 a0_1, .int .u16 a0_2, .int .u16 a0_3, .int .u16 a0_4, .int .u16 a0_5, .int .u16 a0_6, .int .u16 a0_7, .int .u16 a0_8, .int .u16 a0_9, .int .u16 a0_10, .int .u16 a0_11]) (t := 35) ?hr ?_; (case hd => rfl); (case hg => rfl); (case hr => first | (go_simp; done) | (go_simp; rfl)); intro gb145 hg w15 hbox hb; have BK145 := ak (hbox); have GW145 := gS HB hg; have GE145 := gS HB hg; replace HB := kB HB hb; clear hb hbox hg) | ((with_reducible refine gate_dst (N := 4) rfl ?_); refine box_event ?hg (N := 4) ?hd (cs := #[.int .i8 a1_0, .int .i8 a1_1]) (t := 62) ?hr ?_; (case hd => rfl); (case hg => rfl); (case hr => first | (go_simp; done) | (go_simp; rfl)); intro gb146 hg w16 hbox hb; have BK146 := ak (hbox); have GW146 := gS1 HB GE145 hg; have GE146 := gS1 HB GE145 hg; have NB145_146 := nL BK145 hg; have NB146_145 := nG BK145 hg; replace BK145 := kK BK145 hb; replace HB := kB1 HB GE145 hb; clear hb hbox hg) | ((with_reducible refine gate_dst (N := 5) rfl ?_); refine box_event ?hg (N := 5) ?hd (cs := #[.int .i8 a2_0, .int .i8 a2_1]) (t := 62) ?hr ?_; (case hd => rfl); (case hg => rfl); (case hr => first | (go_simp; done) | (go_simp; rfl)); intro gb147 hg w17 hbox hb; have BK147 := ak (hbox); have GW147 := ak ((by rw [hg]; exact (below_size (zH2 HB GE145 GE146)) : w.heap.size ≤ gb147)); have GE147 := ak ((by rw [hg]; exact (below_size (zH2 HB GE145 GE146)) : w.heap.size ≤ gb147)); have NB145_147 := nL BK145 hg; have NB147_145 := nG BK145 hg; have NB146_147 := nL BK146 hg; have NB147_146 := nG BK146 hg; replace BK145 := kK BK145 hb; replace BK146 := kK BK146 hb; replace HB := kB2 HB GE145 GE146 hb; clear hb hbox hg; have hnb18 := NB146_145.out; have hnc18 := NB145_146.out; have hnb19 := NB146_147.out; have hnc19 := NB147_146.out; obtain ⟨hcz20_0, hcz20_1, hfz20_0, hfz20_1⟩ := cz2 w17 BK146; have hnb21 := NB147_145.out; have hnc21 := NB145_147.out; obtain ⟨hcz22_0, hcz22_1, hfz22_0, hfz22_1⟩ := cz2 w17 BK147) | ((with_reducible refine gate_callee (f := 74) rfl ?_); refine goesL_ (some 12) rfl rfl Try.func74 (by kernel_rfl) rfl #[.pointer (some ⟨gb145, 0, none⟩), .agg #[.int .i8 a1_0, .int .i8 a1_1], .agg #[.int .i8 a2_0, .int .i8 a2_1]] rfl gl_ ?_; (with_reducible refine (spec_l01Two.calls k gb145 a0_0 a0_1 a0_2 a0_3 a0_4 a0_5 a0_6 a0_7 a0_8 a0_9 a0_10 a0_11 a1_0 a1_1 a2_0 a2_1 t148 _ ?side1 A4.out).mono ?_); (case side1 => exact (zK BK145.out)); rintro e w23 ⟨rfl, hb⟩; refine ⟨_, rfl, ?_⟩; replace BK145 := kK BK145 hb; replace BK146 := kK BK146 hb; replace BK147 := kK BK147 hb; replace HB := kB3 HB GE145 GE146 GE147 hb; (try clear hb)))
 go_ret2
 exact ⟨by first | rfl | (simp [errW_none, errW_some] <;> rfl) | (simp [*, errW_none, errW_some] <;> rfl), zH3 HB GE145 GE146 GE147⟩
 }
/-! ### impl_within: function 64 -/
def impl_within.f (a0 : Int) (a1 : Int) (a2 : Int) : Option (Bool) := if a1 ≤ a0 then (some (decide (a0 ≤ a2))) else (some false)
set_option maxHeartbeats 8000000 in
set_option maxRecDepth 100000 in
theorem impl_within.calls (a0 : Int) (a1 : Int) (a2 : Int) (r : Bool) (w : World) (h : impl_within.f a0 a1 a2 = some r) :
    Calls Try.prog 64 #[.int .i64 a0, .int .i64 a1, .int .i64 a2] w fun e w' => e = .returned (.bool r) ∧ Drawn0 w w' := by
 have H := h
 unfold impl_within.f at H
 clear h
 by_cases c4 : a1 ≤ a0
 {
 rw [if_pos c4] at H
 have c4b0 : decide (a1 ≤ a0) = true := decide_eq_true c4
 clear c4
 obtain rfl := Option.some.inj H
 go_enter Try.func64, Try.ntmps64
 go_wp2
 go_ret
 exact ⟨by first | rfl | (simp; done) | (simp [*]; done), by repeat (first | exact Drawn0.refl _ | apply Drawn0.step)⟩
 }
 {
 rw [if_neg c4] at H
 have c4b0 : decide (a1 ≤ a0) = false := decide_eq_false c4
 clear c4
 obtain rfl := Option.some.inj H
 go_enter Try.func64, Try.ntmps64
 go_wp2
 go_ret
 exact ⟨by first | rfl | (simp; done) | (simp [*]; done), by repeat (first | exact Drawn0.refl _ | apply Drawn0.step)⟩
 }
/-! ### impl_ValidRoom: function 45 -/
def impl_ValidRoom.rows (wide high : Int) : Nat → List Int → Bool
  | _, [] => true
  | i, x :: r => if shr .u16 x wide = 0 then (if wrap64 high ≤ (i : Int) then (if x = 0 then impl_ValidRoom.rows wide high (i + 1) r else false) else impl_ValidRoom.rows wide high (i + 1) r) else false
theorem impl_ValidRoom.rows_step (wide high : Int) (l : List Int) (i : Nat) (h : i < l.length) : impl_ValidRoom.rows wide high i (l.drop i) = if shr .u16 (l.getD i 0) wide = 0 then (if wrap64 high ≤ (i : Int) then (if l.getD i 0 = 0 then impl_ValidRoom.rows wide high (i + 1) (l.drop (i + 1)) else false) else impl_ValidRoom.rows wide high (i + 1) (l.drop (i + 1))) else false := by
  rw [List.drop_eq_getElem_cons h, impl_ValidRoom.rows, List.getD_eq_getElem?_getD, List.getElem?_eq_getElem h]; rfl
def impl_ValidRoom.f (a0_0 : Int) (a0_1 : Int) (a0_2 : Int) (a0_3 : Int) (a0_4 : Int) (a0_5 : Int) (a0_6 : Int) (a0_7 : Int) (a0_8 : Int) (a0_9 : Int) (a0_10 : Int) (a0_11 : Int) : Option Bool := (impl_within.f (wrap64 a0_0) 1 10).bind fun t => (if t = true then (impl_within.f (wrap64 a0_1) 1 10).bind fun t2 => (if t2 = true then (if 0 ≤ a0_0 then some (impl_ValidRoom.rows a0_0 a0_1 0 [a0_2, a0_3, a0_4, a0_5, a0_6, a0_7, a0_8, a0_9, a0_10, a0_11]) else none) else some false) else some false)
set_option maxHeartbeats 8000000 in
set_option maxRecDepth 1000000 in
theorem impl_ValidRoom.calls (a0_0 : Int) (a0_1 : Int) (a0_2 : Int) (a0_3 : Int) (a0_4 : Int) (a0_5 : Int) (a0_6 : Int) (a0_7 : Int) (a0_8 : Int) (a0_9 : Int) (a0_10 : Int) (a0_11 : Int) (r : Bool) (w : World) (h : impl_ValidRoom.f a0_0 a0_1 a0_2 a0_3 a0_4 a0_5 a0_6 a0_7 a0_8 a0_9 a0_10 a0_11 = some r) :
    Calls Try.prog 45 #[.agg #[.int .i8 a0_0, .int .i8 a0_1, .int .u16 a0_2, .int .u16 a0_3, .int .u16 a0_4, .int .u16 a0_5, .int .u16 a0_6, .int .u16 a0_7, .int .u16 a0_8, .int .u16 a0_9, .int .u16 a0_10, .int .u16 a0_11]] w fun e w' => e = .returned (.bool r) ∧ Below w.heap.size w w' := by
  unfold impl_ValidRoom.f at h
  have hu := Try.underlying35
  have hu2 := Try.underlying24
  obtain ⟨t, ht, h⟩ := Option.bind_eq_some_iff.mp h
  cases t with
  | false =>
    rw [if_neg (by decide)] at h
    obtain rfl := Option.some.inj h
    go_enter Try.func45, Try.ntmps45
    go_wp2_with (first | (go_at_call 64; (with_reducible refine (impl_within.calls (wrap64 a0_0) 1 10 _ _ ht).mono ?_); rintro e w' ⟨rfl, ⟨nd, rfl⟩⟩))
    go_ret
    exact ⟨rfl, by repeat (first | exact Below.alloc (Below.refl _ _) (Nat.le_refl _) _ | apply pw_below_drewN)⟩
  | true =>
    rw [if_pos rfl] at h
    obtain ⟨t2, ht2, h⟩ := Option.bind_eq_some_iff.mp h
    cases t2 with
    | false =>
      rw [if_neg (by decide)] at h
      obtain rfl := Option.some.inj h
      go_enter Try.func45, Try.ntmps45
      go_wp2_with (first | (go_at_call 64; (with_reducible refine (impl_within.calls (wrap64 a0_0) 1 10 _ _ ht).mono ?_); rintro e w' ⟨rfl, ⟨nd, rfl⟩⟩) | (go_at_call 64; (with_reducible refine (impl_within.calls (wrap64 a0_1) 1 10 _ _ ht2).mono ?_); rintro e w' ⟨rfl, ⟨nd2, rfl⟩⟩))
      go_ret
      exact ⟨rfl, by repeat (first | exact Below.alloc (Below.refl _ _) (Nat.le_refl _) _ | apply pw_below_drewN)⟩
    | true =>
      rw [if_pos rfl] at h
      by_cases c0 : 0 ≤ a0_0
      · rw [if_pos c0] at h
        have c0b0 := eq_true c0
        have c0b1 : decide (0 ≤ a0_0) = true := decide_eq_true c0
        have hV0 : Aside0 (impl_ValidRoom.rows a0_0 a0_1 0 ([a0_2, a0_3, a0_4, a0_5, a0_6, a0_7, a0_8, a0_9, a0_10, a0_11].drop 0) = r) := ⟨Option.some.inj h⟩
        clear h c0
        go_enter Try.func45, Try.ntmps45
        go_wp2_with (first | (go_at_call 64; (with_reducible refine (impl_within.calls (wrap64 a0_0) 1 10 _ _ ht).mono ?_); rintro e w' ⟨rfl, ⟨nd, rfl⟩⟩) | (go_at_call 64; (with_reducible refine (impl_within.calls (wrap64 a0_1) 1 10 _ _ ht2).mono ?_); rintro e w' ⟨rfl, ⟨nd2, rfl⟩⟩))
        go_loopg [19] 10 (fun gk s19 wr => ∃ i : Nat, s19 = .int .i64 (i : Int) ∧ i ≤ 10 ∧ 10 - i ≤ gk ∧ Aside0 (impl_ValidRoom.rows a0_0 a0_1 i ([a0_2, a0_3, a0_4, a0_5, a0_6, a0_7, a0_8, a0_9, a0_10, a0_11].drop i) = r) ∧ wr.heap[w.heap.size]? = some (.cells #[.int .i8 a0_0, .int .i8 a0_1, .int .u16 a0_2, .int .u16 a0_3, .int .u16 a0_4, .int .u16 a0_5, .int .u16 a0_6, .int .u16 a0_7, .int .u16 a0_8, .int .u16 a0_9, .int .u16 a0_10, .int .u16 a0_11] 35 (0, 0)) ∧ Below w.heap.size w wr)
        case atStart => exact ⟨0, rfl, by omega, by omega, hV0, heap_alloc_new w _, by repeat (first | exact Below.alloc (Below.refl _ _) (Nat.le_refl _) _ | apply pw_below_drewN)⟩
        case round =>
          clear hV0
          obtain ⟨i, rfl, hi, hm, hV, hbox, hB⟩ := hrel
          have q0 : wr.cell? ⟨w.heap.size, 0, none⟩ = some (.int .i8 a0_0) := (blk_cell hbox 0).trans rfl
          have q1 : wr.cell? ⟨w.heap.size, 1, none⟩ = some (.int .i8 a0_1) := (blk_cell hbox 1).trans rfl
          by_cases hlt : i < 10
          · have hstep := impl_ValidRoom.rows_step a0_0 a0_1 [a0_2, a0_3, a0_4, a0_5, a0_6, a0_7, a0_8, a0_9, a0_10, a0_11] i hlt
            obtain ⟨x, hx⟩ : ∃ x, x = [a0_2, a0_3, a0_4, a0_5, a0_6, a0_7, a0_8, a0_9, a0_10, a0_11].getD i 0 := ⟨_, rfl⟩
            rw [← hx] at hstep
            have hV2 := hV.out
            rw [hstep] at hV2
            clear hstep hV
            obtain ⟨nx, hnx⟩ : ∃ nx : List Int, nx = [a0_2, a0_3, a0_4, a0_5, a0_6, a0_7, a0_8, a0_9, a0_10, a0_11].drop (i + 1) := ⟨_, rfl⟩
            rw [← hnx] at hV2
            have hm2 : 10 - (i + 1) < 10 - i := by omega
            have hrun0 : (Instr.index 24 (.agg #[.int .u16 a0_2, .int .u16 a0_3, .int .u16 a0_4, .int .u16 a0_5, .int .u16 a0_6, .int .u16 a0_7, .int .u16 a0_8, .int .u16 a0_9, .int .u16 a0_10, .int .u16 a0_11]) (.int .i64 0)).run Try.prog wr = .ok (.int .u16 a0_2) wr := by kernel_rfl
            have hrun1 : (Instr.index 24 (.agg #[.int .u16 a0_2, .int .u16 a0_3, .int .u16 a0_4, .int .u16 a0_5, .int .u16 a0_6, .int .u16 a0_7, .int .u16 a0_8, .int .u16 a0_9, .int .u16 a0_10, .int .u16 a0_11]) (.int .i64 1)).run Try.prog wr = .ok (.int .u16 a0_3) wr := by kernel_rfl
            have hrun2 : (Instr.index 24 (.agg #[.int .u16 a0_2, .int .u16 a0_3, .int .u16 a0_4, .int .u16 a0_5, .int .u16 a0_6, .int .u16 a0_7, .int .u16 a0_8, .int .u16 a0_9, .int .u16 a0_10, .int .u16 a0_11]) (.int .i64 2)).run Try.prog wr = .ok (.int .u16 a0_4) wr := by kernel_rfl
            have hrun3 : (Instr.index 24 (.agg #[.int .u16 a0_2, .int .u16 a0_3, .int .u16 a0_4, .int .u16 a0_5, .int .u16 a0_6, .int .u16 a0_7, .int .u16 a0_8, .int .u16 a0_9, .int .u16 a0_10, .int .u16 a0_11]) (.int .i64 3)).run Try.prog wr = .ok (.int .u16 a0_5) wr := by kernel_rfl
            have hrun4 : (Instr.index 24 (.agg #[.int .u16 a0_2, .int .u16 a0_3, .int .u16 a0_4, .int .u16 a0_5, .int .u16 a0_6, .int .u16 a0_7, .int .u16 a0_8, .int .u16 a0_9, .int .u16 a0_10, .int .u16 a0_11]) (.int .i64 4)).run Try.prog wr = .ok (.int .u16 a0_6) wr := by kernel_rfl
            have hrun5 : (Instr.index 24 (.agg #[.int .u16 a0_2, .int .u16 a0_3, .int .u16 a0_4, .int .u16 a0_5, .int .u16 a0_6, .int .u16 a0_7, .int .u16 a0_8, .int .u16 a0_9, .int .u16 a0_10, .int .u16 a0_11]) (.int .i64 5)).run Try.prog wr = .ok (.int .u16 a0_7) wr := by kernel_rfl
            have hrun6 : (Instr.index 24 (.agg #[.int .u16 a0_2, .int .u16 a0_3, .int .u16 a0_4, .int .u16 a0_5, .int .u16 a0_6, .int .u16 a0_7, .int .u16 a0_8, .int .u16 a0_9, .int .u16 a0_10, .int .u16 a0_11]) (.int .i64 6)).run Try.prog wr = .ok (.int .u16 a0_8) wr := by kernel_rfl
            have hrun7 : (Instr.index 24 (.agg #[.int .u16 a0_2, .int .u16 a0_3, .int .u16 a0_4, .int .u16 a0_5, .int .u16 a0_6, .int .u16 a0_7, .int .u16 a0_8, .int .u16 a0_9, .int .u16 a0_10, .int .u16 a0_11]) (.int .i64 7)).run Try.prog wr = .ok (.int .u16 a0_9) wr := by kernel_rfl
            have hrun8 : (Instr.index 24 (.agg #[.int .u16 a0_2, .int .u16 a0_3, .int .u16 a0_4, .int .u16 a0_5, .int .u16 a0_6, .int .u16 a0_7, .int .u16 a0_8, .int .u16 a0_9, .int .u16 a0_10, .int .u16 a0_11]) (.int .i64 8)).run Try.prog wr = .ok (.int .u16 a0_10) wr := by kernel_rfl
            have hrun9 : (Instr.index 24 (.agg #[.int .u16 a0_2, .int .u16 a0_3, .int .u16 a0_4, .int .u16 a0_5, .int .u16 a0_6, .int .u16 a0_7, .int .u16 a0_8, .int .u16 a0_9, .int .u16 a0_10, .int .u16 a0_11]) (.int .i64 9)).run Try.prog wr = .ok (.int .u16 a0_11) wr := by kernel_rfl
            obtain ⟨z, hz⟩ : ∃ z : Int, z = (i : Int) := ⟨_, rfl⟩
            rw [← hz] at hV2 ⊢
            clear hlt
            obtain ⟨ji, hji⟩ : ∃ j_ : Int, shr .u16 x a0_0 = j_ := ⟨_, rfl⟩
            rw [hji] at hV2
            have hji_ : (x / 2 ^ min a0_0.toNat 16) = ji := hji
            have hjiz : a0_0 ≤ 16 → (x / 2 ^ a0_0.toNat) = ji := shr_small hji
            by_cases c1 : ji = 0
            · rw [if_pos c1] at hV2
              have c1b0 : (ji == 0) = true := beq_iff_eq.mpr c1
              have c1b1 : (ji != 0) = false := bne_eq_false_iff_eq.mpr c1
              clear c1
              by_cases c2 : wrap64 a0_1 ≤ z
              · rw [if_pos c2] at hV2
                have c2b0 : decide (wrap64 a0_1 ≤ z) = true := decide_eq_true c2
                by_cases c3 : x = 0
                · rw [if_pos c3] at hV2
                  have c3b0 : (x == 0) = true := beq_iff_eq.mpr c3
                  have c3b1 : (x != 0) = false := bne_eq_false_iff_eq.mpr c3
                  have hV := ak hV2
                  clear hV2 c3 c2
                  rcases (show (i = 0 ∧ z = 0) ∨ (i = 1 ∧ z = 1) ∨ (i = 2 ∧ z = 2) ∨ (i = 3 ∧ z = 3) ∨ (i = 4 ∧ z = 4) ∨ (i = 5 ∧ z = 5) ∨ (i = 6 ∧ z = 6) ∨ (i = 7 ∧ z = 7) ∨ (i = 8 ∧ z = 8) ∨ (i = 9 ∧ z = 9) by omega) with ⟨hi3, rfl⟩ | ⟨hi3, rfl⟩ | ⟨hi3, rfl⟩ | ⟨hi3, rfl⟩ | ⟨hi3, rfl⟩ | ⟨hi3, rfl⟩ | ⟨hi3, rfl⟩ | ⟨hi3, rfl⟩ | ⟨hi3, rfl⟩ | ⟨hi3, rfl⟩
                  all_goals
                    rw [hi3] at hx
                    simp only [List.getD_cons_zero, List.getD_cons_succ] at hx
                    subst hx
                    clear hz
                    go_wp2
                    go_roundg (10 - (i + 1))
                    case measure => omega
                    case rel => exact ⟨i + 1, by rw [hi3]; rfl, by omega, by omega, ⟨by have hV3 := hV.out; rw [hnx] at hV3; exact hV3⟩, hbox, hB⟩
                · rw [if_neg c3] at hV2
                  have c3b0 : (x == 0) = false := beq_eq_false_iff_ne.mpr c3
                  have c3b1 : (x != 0) = true := bne_iff_ne.mpr c3
                  subst hV2
                  clear c3 c2
                  rcases (show (i = 0 ∧ z = 0) ∨ (i = 1 ∧ z = 1) ∨ (i = 2 ∧ z = 2) ∨ (i = 3 ∧ z = 3) ∨ (i = 4 ∧ z = 4) ∨ (i = 5 ∧ z = 5) ∨ (i = 6 ∧ z = 6) ∨ (i = 7 ∧ z = 7) ∨ (i = 8 ∧ z = 8) ∨ (i = 9 ∧ z = 9) by omega) with ⟨hi3, rfl⟩ | ⟨hi3, rfl⟩ | ⟨hi3, rfl⟩ | ⟨hi3, rfl⟩ | ⟨hi3, rfl⟩ | ⟨hi3, rfl⟩ | ⟨hi3, rfl⟩ | ⟨hi3, rfl⟩ | ⟨hi3, rfl⟩ | ⟨hi3, rfl⟩
                  all_goals
                    rw [hi3] at hx
                    simp only [List.getD_cons_zero, List.getD_cons_succ] at hx
                    subst hx
                    clear hz
                    go_wp2
                    go_ret
                    exact ⟨rfl, hB⟩
              · rw [if_neg c2] at hV2
                have c2b0 : decide (wrap64 a0_1 ≤ z) = false := decide_eq_false c2
                have hV := ak hV2
                clear hV2 c2
                rcases (show (i = 0 ∧ z = 0) ∨ (i = 1 ∧ z = 1) ∨ (i = 2 ∧ z = 2) ∨ (i = 3 ∧ z = 3) ∨ (i = 4 ∧ z = 4) ∨ (i = 5 ∧ z = 5) ∨ (i = 6 ∧ z = 6) ∨ (i = 7 ∧ z = 7) ∨ (i = 8 ∧ z = 8) ∨ (i = 9 ∧ z = 9) by omega) with ⟨hi3, rfl⟩ | ⟨hi3, rfl⟩ | ⟨hi3, rfl⟩ | ⟨hi3, rfl⟩ | ⟨hi3, rfl⟩ | ⟨hi3, rfl⟩ | ⟨hi3, rfl⟩ | ⟨hi3, rfl⟩ | ⟨hi3, rfl⟩ | ⟨hi3, rfl⟩
                all_goals
                  rw [hi3] at hx
                  simp only [List.getD_cons_zero, List.getD_cons_succ] at hx
                  subst hx
                  clear hz
                  go_wp2
                  go_roundg (10 - (i + 1))
                  case measure => omega
                  case rel => exact ⟨i + 1, by rw [hi3]; rfl, by omega, by omega, ⟨by have hV3 := hV.out; rw [hnx] at hV3; exact hV3⟩, hbox, hB⟩
            · rw [if_neg c1] at hV2
              have c1b0 : (ji == 0) = false := beq_eq_false_iff_ne.mpr c1
              have c1b1 : (ji != 0) = true := bne_iff_ne.mpr c1
              subst hV2
              clear c1
              rcases (show (i = 0 ∧ z = 0) ∨ (i = 1 ∧ z = 1) ∨ (i = 2 ∧ z = 2) ∨ (i = 3 ∧ z = 3) ∨ (i = 4 ∧ z = 4) ∨ (i = 5 ∧ z = 5) ∨ (i = 6 ∧ z = 6) ∨ (i = 7 ∧ z = 7) ∨ (i = 8 ∧ z = 8) ∨ (i = 9 ∧ z = 9) by omega) with ⟨hi3, rfl⟩ | ⟨hi3, rfl⟩ | ⟨hi3, rfl⟩ | ⟨hi3, rfl⟩ | ⟨hi3, rfl⟩ | ⟨hi3, rfl⟩ | ⟨hi3, rfl⟩ | ⟨hi3, rfl⟩ | ⟨hi3, rfl⟩ | ⟨hi3, rfl⟩
              all_goals
                rw [hi3] at hx
                simp only [List.getD_cons_zero, List.getD_cons_succ] at hx
                subst hx
                clear hz
                go_wp2
                go_ret
                exact ⟨rfl, hB⟩
          · obtain rfl : i = 10 := by omega
            have hV2 := hV.out
            obtain rfl : true = r := hV2
            go_wp2
            go_ret
            exact ⟨rfl, hB⟩
      · rw [if_neg c0] at h; exact absurd h (by simp)

/-! ### impl_Room_isCell: function 78 -/
def impl_Room_isCell.f (a0_0 : Int) (a0_1 : Int) (a0_2 : Int) (a0_3 : Int) (a0_4 : Int) (a0_5 : Int) (a0_6 : Int) (a0_7 : Int) (a0_8 : Int) (a0_9 : Int) (a0_10 : Int) (a0_11 : Int) (a1_0 : Int) (a1_1 : Int) : Option (Bool) := (impl_within.f (wrap64 (a1_0)) 0 (wrap64 ((mn (wrap64 (a0_0)) 10) - 1))).bind fun t182 => (if t182 = true then ((impl_within.f (wrap64 (a1_1)) 0 (wrap64 ((mn (wrap64 (a0_1)) 10) - 1))).bind fun t183 => (some t183)) else (some false))
set_option maxHeartbeats 8000000 in
set_option maxRecDepth 100000 in
theorem impl_Room_isCell.calls (a0_0 : Int) (a0_1 : Int) (a0_2 : Int) (a0_3 : Int) (a0_4 : Int) (a0_5 : Int) (a0_6 : Int) (a0_7 : Int) (a0_8 : Int) (a0_9 : Int) (a0_10 : Int) (a0_11 : Int) (a1_0 : Int) (a1_1 : Int) (r : Bool) (w : World) (h : impl_Room_isCell.f a0_0 a0_1 a0_2 a0_3 a0_4 a0_5 a0_6 a0_7 a0_8 a0_9 a0_10 a0_11 a1_0 a1_1 = some r) :
    Calls Try.prog 78 #[.agg #[.int .i8 a0_0, .int .i8 a0_1, .int .u16 a0_2, .int .u16 a0_3, .int .u16 a0_4, .int .u16 a0_5, .int .u16 a0_6, .int .u16 a0_7, .int .u16 a0_8, .int .u16 a0_9, .int .u16 a0_10, .int .u16 a0_11], .agg #[.int .i8 a1_0, .int .i8 a1_1]] w fun e w' => e = .returned (.bool r) ∧ Below w.heap.size w w' := by
 have hu35 := Try.underlying35
 have hu62 := Try.underlying62
 have HB := ak (Below.refl w.heap.size w)
 have H := h
 unfold impl_Room_isCell.f at H
 clear h
 obtain ⟨ji3, hji3⟩ : ∃ j_ : Int, (mn (wrap64 (a0_0)) 10) = j_ := ⟨_, rfl⟩
 first | rw [hji3] at H | simp only [hji3] at H
 (try (have hji3h : ji3 ≤ 10 := by (rw [← hji3]; unfold mn; (repeat' split) <;> omega)))
 (try (have hji3g : ji3 ≤ 64 := by omega))
 have hji3_ : (if 10 < (wrap64 (a0_0)) then 10 else (wrap64 (a0_0))) = ji3 := hji3
 replace H := Option.bind_eq_some_iff.mp H
 obtain ⟨t182, A40, H⟩ := H
 have A4 := ak A40
 clear A40
 by_cases c5 : t182 = true
 {
 subst c5
 rw [if_pos rfl] at H
 obtain ⟨ji6, hji6⟩ : ∃ j_ : Int, (mn (wrap64 (a0_1)) 10) = j_ := ⟨_, rfl⟩
 first | rw [hji6] at H | simp only [hji6] at H
 (try rw [hji6] at A4)
 (try (have hji6h : ji6 ≤ 10 := by (rw [← hji6]; unfold mn; (repeat' split) <;> omega)))
 (try (have hji6g : ji6 ≤ 64 := by omega))
 have hji6_ : (if 10 < (wrap64 (a0_1)) then 10 else (wrap64 (a0_1))) = ji6 := hji6
 replace H := Option.bind_eq_some_iff.mp H
 obtain ⟨t183, A70, H⟩ := H
 have A7 := ak A70
 clear A70
 obtain rfl := Option.some.inj H
 go_enter Try.func78, Try.ntmps78
 go_wp2_with (first | ((with_reducible refine gate_dst (N := 2) rfl ?_); (try (refine gate_guard (by rfl) ?_; dsimp only)); refine box_event ?hg (N := 2) ?hd (cs := #[.int .i8 a0_0, .int .i8 a0_1, .int .u16 a0_2, .int .u16 a0_3, .int .u16 a0_4, .int .u16 a0_5, .int .u16 a0_6, .int .u16 a0_7, .int .u16 a0_8, .int .u16 a0_9, .int .u16 a0_10, .int .u16 a0_11]) (t := 35) ?hr ?_; (case hd => rfl); (case hg => rfl); (case hr => first | (go_simp; done) | (go_simp; rfl)); intro gb180 hg w8 hbox hb; have BK180 := ak (hbox); have GW180 := gS HB hg; have GE180 := gS HB hg; replace HB := kB HB hb; clear hb hbox hg) | ((with_reducible refine gate_dst (N := 3) rfl ?_); (try (refine gate_guard (by rfl) ?_; dsimp only)); refine box_event ?hg (N := 3) ?hd (cs := #[.int .i8 a1_0, .int .i8 a1_1]) (t := 62) ?hr ?_; (case hd => rfl); (case hg => rfl); (case hr => first | (go_simp; done) | (go_simp; rfl)); intro gb181 hg w9 hbox hb; have BK181 := ak (hbox); have GW181 := gS1 HB GE180 hg; have GE181 := gS1 HB GE180 hg; have NB180_181 := nL BK180 hg; have NB181_180 := nG BK180 hg; replace BK180 := kK BK180 hb; replace HB := kB1 HB GE180 hb; clear hb hbox hg; have hnb10 := NB181_180.out; have hnc10 := NB180_181.out; obtain ⟨hcz11_0, hcz11_1, hfz11_0, hfz11_1⟩ := cz2 w9 BK181; obtain ⟨hcz12_0, hcz12_1, hcz12_2, hcz12_3, hcz12_4, hcz12_5, hcz12_6, hcz12_7, hcz12_8, hcz12_9, hcz12_10, hcz12_11, hfz12_0, hfz12_1, hfz12_2, hfz12_3, hfz12_4, hfz12_5, hfz12_6, hfz12_7, hfz12_8, hfz12_9, hfz12_10, hfz12_11⟩ := cz12 w9 BK180) | ((with_reducible refine gate_callee (f := 64) rfl ?_); refine goesL_ (some 13) rfl rfl Try.func64 (by kernel_rfl) rfl #[.int .i64 (wrap64 (a1_0)), .int .i64 0, .int .i64 (wrap64 ((ji3) - 1))] rfl (by (try simp only [List.map_toArray, List.map_cons, List.map_nil]); first | done | (simp only [hji3]; rfl) | rfl | (simp only [List.length_drop, List.length_take]; rfl)) ?_; (with_reducible refine (impl_within.calls (wrap64 (a1_0)) 0 (wrap64 ((ji3) - 1)) true _ A4.out).mono ?_); rintro e w' ⟨rfl, ⟨nd, rfl⟩⟩; refine ⟨_, rfl, ?_⟩) | (go_at_call 64; (with_reducible refine (impl_within.calls (wrap64 (a1_1)) 0 (wrap64 ((ji6) - 1)) t183 _ A7.out).mono ?_); rintro e w' ⟨rfl, ⟨nd, rfl⟩⟩))
 go_ret
 exact ⟨by first | rfl | (simp [errW_none, errW_some] <;> rfl) | (simp only [← hji3, ← hji6]; first | rfl | (simp [errW_none, errW_some] <;> rfl)) | (simp [*, errW_none, errW_some] <;> rfl), zH2 HB GE180 GE181⟩
 }
 {
 replace c5 := Bool.eq_false_iff.mpr c5
 subst c5
 rw [if_neg (show ¬ (false = true) by decide)] at H
 obtain rfl := Option.some.inj H
 go_enter Try.func78, Try.ntmps78
 go_wp2_with (first | ((with_reducible refine gate_dst (N := 2) rfl ?_); (try (refine gate_guard (by rfl) ?_; dsimp only)); refine box_event ?hg (N := 2) ?hd (cs := #[.int .i8 a0_0, .int .i8 a0_1, .int .u16 a0_2, .int .u16 a0_3, .int .u16 a0_4, .int .u16 a0_5, .int .u16 a0_6, .int .u16 a0_7, .int .u16 a0_8, .int .u16 a0_9, .int .u16 a0_10, .int .u16 a0_11]) (t := 35) ?hr ?_; (case hd => rfl); (case hg => rfl); (case hr => first | (go_simp; done) | (go_simp; rfl)); intro gb180 hg w13 hbox hb; have BK180 := ak (hbox); have GW180 := gS HB hg; have GE180 := gS HB hg; replace HB := kB HB hb; clear hb hbox hg) | ((with_reducible refine gate_dst (N := 3) rfl ?_); (try (refine gate_guard (by rfl) ?_; dsimp only)); refine box_event ?hg (N := 3) ?hd (cs := #[.int .i8 a1_0, .int .i8 a1_1]) (t := 62) ?hr ?_; (case hd => rfl); (case hg => rfl); (case hr => first | (go_simp; done) | (go_simp; rfl)); intro gb181 hg w14 hbox hb; have BK181 := ak (hbox); have GW181 := gS1 HB GE180 hg; have GE181 := gS1 HB GE180 hg; have NB180_181 := nL BK180 hg; have NB181_180 := nG BK180 hg; replace BK180 := kK BK180 hb; replace HB := kB1 HB GE180 hb; clear hb hbox hg; have hnb15 := NB181_180.out; have hnc15 := NB180_181.out; obtain ⟨hcz16_0, hcz16_1, hfz16_0, hfz16_1⟩ := cz2 w14 BK181; obtain ⟨hcz17_0, hcz17_1, hcz17_2, hcz17_3, hcz17_4, hcz17_5, hcz17_6, hcz17_7, hcz17_8, hcz17_9, hcz17_10, hcz17_11, hfz17_0, hfz17_1, hfz17_2, hfz17_3, hfz17_4, hfz17_5, hfz17_6, hfz17_7, hfz17_8, hfz17_9, hfz17_10, hfz17_11⟩ := cz12 w14 BK180) | ((with_reducible refine gate_callee (f := 64) rfl ?_); refine goesL_ (some 13) rfl rfl Try.func64 (by kernel_rfl) rfl #[.int .i64 (wrap64 (a1_0)), .int .i64 0, .int .i64 (wrap64 ((ji3) - 1))] rfl (by (try simp only [List.map_toArray, List.map_cons, List.map_nil]); first | done | (simp only [hji3]; rfl) | rfl | (simp only [List.length_drop, List.length_take]; rfl)) ?_; (with_reducible refine (impl_within.calls (wrap64 (a1_0)) 0 (wrap64 ((ji3) - 1)) false _ A4.out).mono ?_); rintro e w' ⟨rfl, ⟨nd, rfl⟩⟩; refine ⟨_, rfl, ?_⟩))
 go_ret
 exact ⟨by first | rfl | (simp [errW_none, errW_some] <;> rfl) | (simp only [← hji3]; first | rfl | (simp [errW_none, errW_some] <;> rfl)) | (simp [*, errW_none, errW_some] <;> rfl), zH2 HB GE180 GE181⟩
 }
/-! ### impl_cellCode_1: function 77 -/
def impl_cellCode_1.f (a0_0 : Int) (a0_1 : Int) (a1_0 : Int) (a1_1 : Int) (a1_2 : Int) (a1_3 : Int) (a1_4 : Int) (a1_5 : Int) (a1_6 : Int) (a1_7 : Int) (a1_8 : Int) (a1_9 : Int) (a1_10 : Int) (a1_11 : Int) : Option (Bool) := (impl_Room_isCell.f a1_0 a1_1 a1_2 a1_3 a1_4 a1_5 a1_6 a1_7 a1_8 a1_9 a1_10 a1_11 a0_0 a0_1).bind fun t185 => (some (!t185))
set_option maxHeartbeats 8000000 in
set_option maxRecDepth 100000 in
theorem impl_cellCode_1.calls (a0_0 : Int) (a0_1 : Int) (b1 : Nat) (a1_0 : Int) (a1_1 : Int) (a1_2 : Int) (a1_3 : Int) (a1_4 : Int) (a1_5 : Int) (a1_6 : Int) (a1_7 : Int) (a1_8 : Int) (a1_9 : Int) (a1_10 : Int) (a1_11 : Int) (r : Bool) (w : World) (hx1 : w.heap[b1]? = some (.cells #[.int .i8 a1_0, .int .i8 a1_1, .int .u16 a1_2, .int .u16 a1_3, .int .u16 a1_4, .int .u16 a1_5, .int .u16 a1_6, .int .u16 a1_7, .int .u16 a1_8, .int .u16 a1_9, .int .u16 a1_10, .int .u16 a1_11] 35 (0, 0))) (h : impl_cellCode_1.f a0_0 a0_1 a1_0 a1_1 a1_2 a1_3 a1_4 a1_5 a1_6 a1_7 a1_8 a1_9 a1_10 a1_11 = some r) :
    Calls Try.prog 77 #[.agg #[.int .i8 a0_0, .int .i8 a0_1], .pointer (some ⟨b1, 0, none⟩)] w fun e w' => e = .returned (.bool r) ∧ Below w.heap.size w w' := by
 have hu62 := Try.underlying62
 have hu35 := Try.underlying35
 have BK1 := ak hx1
 clear hx1
 have HB := ak (Below.refl w.heap.size w)
 have H := h
 unfold impl_cellCode_1.f at H
 clear h
 replace H := Option.bind_eq_some_iff.mp H
 obtain ⟨t185, A30, H⟩ := H
 have A3 := ak A30
 clear A30
 obtain rfl := Option.some.inj H
 go_enter Try.func77, Try.ntmps77
 go_wp2_with (first | ((with_reducible refine gate_dst (N := 2) rfl ?_); refine box_event ?hg (N := 2) ?hd (cs := #[.int .i8 a0_0, .int .i8 a0_1]) (t := 62) ?hr ?_; (case hd => rfl); (case hg => rfl); (case hr => first | (go_simp; done) | (go_simp; rfl)); intro gb184 hg w4 hbox hb; have BK184 := ak (hbox); have GW184 := gS HB hg; have GE184 := gS HB hg; have NB1_184 := nL BK1 hg; have NB184_1 := nG BK1 hg; replace BK1 := kK BK1 hb; replace HB := kB HB hb; clear hb hbox hg; have hnb5 := NB1_184.out; have hnc5 := NB184_1.out; obtain ⟨hcz6_0, hcz6_1, hcz6_2, hcz6_3, hcz6_4, hcz6_5, hcz6_6, hcz6_7, hcz6_8, hcz6_9, hcz6_10, hcz6_11, hfz6_0, hfz6_1, hfz6_2, hfz6_3, hfz6_4, hfz6_5, hfz6_6, hfz6_7, hfz6_8, hfz6_9, hfz6_10, hfz6_11⟩ := cz12 w4 BK1; obtain ⟨hcz7_0, hcz7_1, hfz7_0, hfz7_1⟩ := cz2 w4 BK184) | ((with_reducible refine gate_callee (f := 78) rfl ?_); refine goesL_ (some 6) rfl rfl Try.func78 (by kernel_rfl) rfl #[.agg #[.int .i8 a1_0, .int .i8 a1_1, .int .u16 a1_2, .int .u16 a1_3, .int .u16 a1_4, .int .u16 a1_5, .int .u16 a1_6, .int .u16 a1_7, .int .u16 a1_8, .int .u16 a1_9, .int .u16 a1_10, .int .u16 a1_11], .agg #[.int .i8 a0_0, .int .i8 a0_1]] rfl gl_ ?_; (with_reducible refine (impl_Room_isCell.calls a1_0 a1_1 a1_2 a1_3 a1_4 a1_5 a1_6 a1_7 a1_8 a1_9 a1_10 a1_11 a0_0 a0_1 t185 _ A3.out).mono ?_); rintro e w8 ⟨rfl, hb⟩; refine ⟨_, rfl, ?_⟩; replace BK1 := kK BK1 hb; replace BK184 := kK BK184 hb; replace HB := kB1 HB GE184 hb; (try clear hb)))
 go_ret
 exact ⟨by first | rfl | (simp [errW_none, errW_some] <;> rfl) | (simp [*, errW_none, errW_some] <;> rfl), zBG HB.out GE184.out⟩
end Go.Proofs.Ytooidjdgfoioiaa.P
