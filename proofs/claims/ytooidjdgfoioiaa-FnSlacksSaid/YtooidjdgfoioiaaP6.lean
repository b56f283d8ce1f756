-- Printed by wip/print (my turned copy of the kit's print) out of the translation; Lean checks it.
import Derived.Test.YtooidjdgfoioiaaP0
import Derived.Test.YtooidjdgfoioiaaP5
namespace Go.Proofs.Ytooidjdgfoioiaa.P
open Go.RowKit Go.Proofs.YtooidjdgfoioiaaW.PrintWords Go.Proofs.YtooidjdgfoioiaaW.PrintLast Go.Proofs.YtooidjdgfoioiaaW.PrintMore
attribute [local go_sem] max2_int min2_int max_two min_two max_three min_three max_four min_four   -- for this text's walks alone
set_option linter.unusedVariables false
set_option linter.unusedSimpArgs false

/-! ### spec_StepsBetween: function 42 -/
def sToS (p : Int × Int) : S62 := ⟨p.1, p.2⟩
def gridA (G : Nat → Int) : Array Value := ((List.range 100).map (fun q => Value.int .i64 (G q))).toArray
theorem salloc_size_ (w : World) (o : Obj) : (w.alloc o).heap.size = w.heap.size + 1 := by rw [World.alloc]; simp only [Array.size_push]
theorem gridA_size (G : Nat → Int) : (gridA G).size = 100 := by simp [gridA]
theorem gridA_get (G : Nat → Int) (p : Nat) (h : p < 100) : (gridA G)[p]? = some (.int .i64 (G p)) := by
  unfold gridA
  rw [List.getElem?_toArray, List.getElem?_map, List.getElem?_range h]; rfl
theorem gridA_congr {G G' : Nat → Int} (h : ∀ q, q < 100 → G q = G' q) : gridA G = gridA G' := by
  unfold gridA
  congr 1
  apply List.map_congr_left
  intro q hq
  rw [h q (List.mem_range.1 hq)]
theorem gridA_set (G : Nat → Int) (p : Nat) (h : p < 100) (v : Int) : (gridA G).setIfInBounds p (.int .i64 v) = gridA (fun q => if q = p then v else G q) := by
  unfold gridA
  rw [List.setIfInBounds_toArray]
  congr 1
  apply List.ext_getElem?
  intro j
  rw [List.getElem?_set, List.getElem?_map]
  by_cases hj : j < 100
  · rw [List.getElem?_map, List.getElem?_range hj]
    by_cases e : p = j
    · subst e; simp [h]
    · simp [e, Ne.symm e]
  · rw [List.getElem?_map, List.getElem?_eq_none (by simp; omega)]
    by_cases e : p = j
    · omega
    · simp [e]
def GR (M : Int × Int → Option Int) : Nat → Int := fun q => (M (((q % 10 : Nat) : Int), ((q / 10 : Nat) : Int))).getD (-1)
theorem GR_at (M : Int × Int → Option Int) (X Y : Nat) (hX : X < 10) : GR M (Y * 10 + X) = (M ((X : Int), (Y : Int))).getD (-1) := by
  unfold GR
  rw [show (Y * 10 + X) % 10 = X by omega, show (Y * 10 + X) / 10 = Y by omega]
theorem GR_put (M : Int × Int → Option Int) (X Y : Nat) (hX : X < 10) (d : Int) : gridA (fun q => if q = Y * 10 + X then d else GR M q) = gridA (GR (H.farPut M ((X : Int), (Y : Int)) d)) := by
  apply gridA_congr
  intro q _
  unfold GR H.farPut
  by_cases e : q = Y * 10 + X
  · subst e
    rw [if_pos rfl, show (Y * 10 + X) % 10 = X by omega, show (Y * 10 + X) / 10 = Y by omega, if_pos rfl]
    rfl
  · rw [if_neg e, if_neg (fun z => e (by have z1 := (Prod.mk.inj z).1; have z2 := (Prod.mk.inj z).2; omega))]
theorem sspot_row (W : World) (base : Nat) (ok : Nat → Prop) (x y : Int) (hb : base ≤ W.heap.size) (hok : ok W.heap.size) : Kd.R k62 62 (W.alloc (.cells #[.int .i8 x, .int .i8 y] 62)) base ok (.slice (some ⟨W.heap.size, 0, none⟩) 1 1) [(⟨x, y⟩ : S62)] := by
  refine ⟨fun k hk => ?_, [.int .i8 x, .int .i8 y], ?_, ?_⟩
  · have : W.heap.size = k := by simpa [Value.ownBlock] using hk
    subst this
    exact hok
  · have h2 := World.ownsRow_lit (base := base) (e := 62) (size := 2) W #[.int .i8 x, .int .i8 y] 1 hb (by simp [maxLen]) (by simp)
    exact (by simpa using h2 : (W.alloc (Obj.cells #[Value.int IntKind.i8 x, Value.int IntKind.i8 y] 62)).ownsRow base 62 2 (Value.slice (some { block := W.heap.size, off := 0 }) 1 1) 1 [Value.int IntKind.i8 x, Value.int IntKind.i8 y])
  · exact Reps.c2 (k62_mkM _ _ _ (⟨x, y⟩ : S62)) (Reps.none _ _)
theorem sR62re {w : World} {base : Nat} {ok ok' : Nat → Prop} {v : Value} {xs : List S62} (h : Kd.R k62 62 w base ok v xs) (h2 : ∀ k, v.ownBlock = some k → ok' k) : Kd.R k62 62 w base ok' v xs := ⟨h2, h.2.imp_ (fun x cs hp => by have := k62_openM hp; subst this; exact k62_mkM _ _ _ _)⟩
theorem gridA_one (G : Nat → Int) : ∀ v ∈ (gridA G).toList, v.oneCell' = true := by
  intro v hv
  unfold gridA at hv
  simp only [List.mem_map] at hv
  obtain ⟨q, _, rfl⟩ := hv
  rfl
theorem sbelow_row_ {B g : Nat} {w0 w : World} (hb : Below B w0 w) (hBg : B ≤ g) (cs : Array Value) : Below B w0 (w.setRow g cs) :=
  ⟨hb.os, hb.tape, hb.output, by rw [size_setRow]; exact hb.size, fun k hk => (setRow_other w g k cs (by omega)).trans (hb.block k hk)⟩
theorem ssetCell_at_ (w : World) (g o : Nat) (v : Value) (e : TypeId) (cur : Array Value) (h : w.heap[g]? = some (.cells cur e (0, 0))) : (w.setCell ⟨g, o, none⟩ v).heap[g]? = some (.cells (cur.setIfInBounds o v) e (0, 0)) := by
  simp [World.setCell, Array.getElem?_modify, h]
set_option maxHeartbeats 8000000 in
set_option maxRecDepth 1000000 in
theorem gsteps_calls (b0 : Nat) (r0 r1 r2 r3 r4 r5 r6 r7 r8 r9 AO AQ : Int) (bes : Int × Int → Option (List (Int × Int)))
    (hbes : ∀ (W : World) (s : Int × Int) (nx : List (Int × Int)), W.heap[b0]? = some (.cells #[.int .i8 r0, .int .i8 r1, .int .u16 r2, .int .u16 r3, .int .u16 r4, .int .u16 r5, .int .u16 r6, .int .u16 r7, .int .u16 r8, .int .u16 r9, .int .u16 AO, .int .u16 AQ] 35 (0, 0)) → bes s = some nx → Calls Try.prog 86 #[.pointer (some ⟨b0, 0, none⟩), .agg #[.int .i8 s.1, .int .i8 s.2]] W fun e w' => ∃ v, e = .returned v ∧ Kd.R k62 62 w' W.heap.size (fun _ => True) v (nx.map sToS) ∧ Below W.heap.size W w')
    (k : Nat) (a : Int × Int) (R : Int × Int → Option Int) (hR : H.bfsFrom bes k a = some R) (w : World) (hbk : w.heap[b0]? = some (.cells #[.int .i8 r0, .int .i8 r1, .int .u16 r2, .int .u16 r3, .int .u16 r4, .int .u16 r5, .int .u16 r6, .int .u16 r7, .int .u16 r8, .int .u16 r9, .int .u16 AO, .int .u16 AQ] 35 (0, 0))) :
    Calls Try.prog 63 #[.pointer (some ⟨b0, 0, none⟩), .agg #[.int .i8 a.1, .int .i8 a.2]] w fun e w' => e = .returned (.agg (gridA (fun q => (R (((q % 10 : Nat) : Int), ((q / 10 : Nat) : Int))).getD (-1)))) ∧ Below w.heap.size w w' := by
  have Ao := Try.underlying62
  have Ai := Try.underlying102
  have Ak := Try.underlying101
  have ha : H.inG a = true := by
    unfold H.bfsFrom at hR
    by_cases c : H.inG a = true
    · exact c
    · rw [if_neg c] at hR; cases hR
  have hV : Hid (H.bfs bes k 0 [a] (H.farPut (fun _ => none) a 0) = some R) := by
    unfold H.bfsFrom at hR
    rw [if_pos ha] at hR
    exact hR
  clear hR
  obtain ⟨a1, a2⟩ := a
  dsimp only at *
  have hst : (storeCells ⟨w.heap.size + 1 + 1, 0, none⟩ Try.zeroCells102.toList).run Try.prog (((w.alloc (.cells #[.int .i8 a1, .int .i8 a2] 62)).alloc (.cells Try.zeroCells102 102)).alloc (.cells Try.zeroCells102 102)) = .ok () (((w.alloc (.cells #[.int .i8 a1, .int .i8 a2] 62)).alloc (.cells Try.zeroCells102 102)).alloc (.cells Try.zeroCells102 102)) := by
    have h := run_storeCells_new (P := Try.prog) ((w.alloc (.cells #[.int .i8 a1, .int .i8 a2] 62)).alloc (.cells Try.zeroCells102 102)) 102 Try.zeroCells102 Try.zeroCells102 (by kernel_rfl) rfl (by kernel_rfl)
    rw [salloc_size_, salloc_size_] at h
    exact h
  have AD : (((w.alloc (.cells #[.int .i8 a1, .int .i8 a2] 62)).alloc (.cells Try.zeroCells102 102)).alloc (.cells Try.zeroCells102 102)).heap[w.heap.size]? = some (.cells #[.int .i8 a1, .int .i8 a2] 62 (0, 0)) := (Below.heap_alloc _ _ _ (by rw [salloc_size_, salloc_size_]; omega)).trans ((Below.heap_alloc _ _ _ (by rw [salloc_size_]; omega)).trans (heap_alloc_new w _))
  have AC : (((w.alloc (.cells #[.int .i8 a1, .int .i8 a2] 62)).alloc (.cells Try.zeroCells102 102)).alloc (.cells Try.zeroCells102 102)).heap[w.heap.size + 1]? = some (.cells Try.zeroCells102 102 (0, 0)) := (Below.heap_alloc _ _ _ (by rw [salloc_size_, salloc_size_]; omega)).trans (by
    have h := heap_alloc_new (w.alloc (.cells #[.int .i8 a1, .int .i8 a2] 62)) (.cells Try.zeroCells102 102)
    rw [salloc_size_] at h
    exact h)
  have hz : Try.zeroCells102 = gridA (fun _ => 0) := by kernel_rfl
  have AB : (((w.alloc (.cells #[.int .i8 a1, .int .i8 a2] 62)).alloc (.cells Try.zeroCells102 102)).alloc (.cells Try.zeroCells102 102)).heap[w.heap.size + 1 + 1]? = some (.cells (gridA (fun _ => 0)) 102 (0, 0)) := by
    have h := heap_alloc_new ((w.alloc (.cells #[.int .i8 a1, .int .i8 a2] 62)).alloc (.cells Try.zeroCells102 102)) (.cells Try.zeroCells102 102)
    rw [salloc_size_, salloc_size_, hz] at h
    rw [hz]
    exact h
  clear hz
  have At := blk_lt hbk
  have AA : (((w.alloc (.cells #[.int .i8 a1, .int .i8 a2] 62)).alloc (.cells Try.zeroCells102 102)).alloc (.cells Try.zeroCells102 102)).heap[b0]? = some (.cells #[.int .i8 r0, .int .i8 r1, .int .u16 r2, .int .u16 r3, .int .u16 r4, .int .u16 r5, .int .u16 r6, .int .u16 r7, .int .u16 r8, .int .u16 r9, .int .u16 AO, .int .u16 AQ] 35 (0, 0)) := blk_alloc (blk_alloc (blk_alloc hbk _) _) _
  have AE : Below w.heap.size w (((w.alloc (.cells #[.int .i8 a1, .int .i8 a2] 62)).alloc (.cells Try.zeroCells102 102)).alloc (.cells Try.zeroCells102 102)) := by repeat (first | exact Below.refl _ _ | exact Below.alloc (Below.refl _ _) (Nat.le_refl _) _ | refine below_alloc ?_ _)
  go_enter Try.func63, Try.ntmps63
  go_wp2
  generalize (((w.alloc (.cells #[.int .i8 a1, .int .i8 a2] 62)).alloc (.cells Try.zeroCells102 102)).alloc (.cells Try.zeroCells102 102)) = W0 at AD AC AB AA AE hst ⊢
  clear hst
  go_loopg [6] 10 (fun gq v6 wr => ∃ y : Nat, v6 = .int .i64 (y : Int) ∧ y ≤ 10 ∧ 10 - y ≤ gq ∧ wr.heap[w.heap.size]? = some (.cells #[.int .i8 a1, .int .i8 a2] 62 (0, 0)) ∧ wr.heap[w.heap.size + 1]? = some (.cells Try.zeroCells102 102 (0, 0)) ∧ wr.heap[w.heap.size + 1 + 1]? = some (.cells (gridA (fun q => if q < y * 10 then -1 else 0)) 102 (0, 0)) ∧ wr.heap[b0]? = some (.cells #[.int .i8 r0, .int .i8 r1, .int .u16 r2, .int .u16 r3, .int .u16 r4, .int .u16 r5, .int .u16 r6, .int .u16 r7, .int .u16 r8, .int .u16 r9, .int .u16 AO, .int .u16 AQ] 35 (0, 0)) ∧ Below w.heap.size w wr)
  case atStart => exact ⟨0, rfl, by omega, by omega, AD, AC, by simpa using AB, AA, AE⟩
  case round =>
    clear AD AC AB AA AE
    obtain ⟨y, rfl, hy, hyq, AD, AC, AB, AA, AE⟩ := hrel
    by_cases cy : y < 10
    · have f1 : ((y : Int) < 10) = True := eq_true (by omega)
      have f2 : (0 ≤ (y : Int)) = True := eq_true (by omega)
      go_wp2
      go_loopg [7] 10 (fun gx v7 wx => ∃ x : Nat, v7 = .int .i64 (x : Int) ∧ x ≤ 10 ∧ 10 - x ≤ gx ∧ wx.heap[w.heap.size]? = some (.cells #[.int .i8 a1, .int .i8 a2] 62 (0, 0)) ∧ wx.heap[w.heap.size + 1]? = some (.cells Try.zeroCells102 102 (0, 0)) ∧ wx.heap[w.heap.size + 1 + 1]? = some (.cells (gridA (fun q => if q < y * 10 + x then -1 else 0)) 102 (0, 0)) ∧ wx.heap[b0]? = some (.cells #[.int .i8 r0, .int .i8 r1, .int .u16 r2, .int .u16 r3, .int .u16 r4, .int .u16 r5, .int .u16 r6, .int .u16 r7, .int .u16 r8, .int .u16 r9, .int .u16 AO, .int .u16 AQ] 35 (0, 0)) ∧ Below w.heap.size w wx)
      case atStart => exact ⟨0, rfl, by omega, by omega, AD, AC, by simpa using AB, AA, AE⟩
      case round =>
        clear AD AC AB AA AE
        obtain ⟨x, rfl, hx, hxq, AD, AC, AB, AA, AE⟩ := hrel
        by_cases cx : x < 10
        · have g1 : ((x : Int) < 10) = True := eq_true (by omega)
          have g2 : (0 ≤ (x : Int)) = True := eq_true (by omega)
          have hp : y * 10 + x < 100 := by omega
          have cX : wr.cell? ⟨w.heap.size + 1 + 1, y * 10 + x, none⟩ = some (.int .i64 ((fun q => if q < y * 10 + x then -1 else 0) (y * 10 + x))) := by simp only [World.cell?, AB]; exact gridA_get _ _ hp
          have fX := blk_frozen AB (y * 10 + x)
          have hwx : IntKind.i64.wrap ((x : Int) + 1) = ((x + 1 : Nat) : Int) := by simp [IntKind.wrap, IntKind.bits, IntKind.signed]; omega
          go_wp2
          have AF := ssetCell_at_ wr (w.heap.size + 1 + 1) (y * 10 + x) (.int .i64 (-1)) 102 _ AB
          rw [gridA_set _ _ hp] at AF
          have AL := (gridA_congr (fun q _ => show (if q = y * 10 + x then (-1 : Int) else (if q < y * 10 + x then -1 else 0)) = (if q < y * 10 + (x + 1) then -1 else 0) by split <;> split <;> omega))
          rw [AL] at AF
          go_roundg (10 - (x + 1))
          case measure => omega
          case rel => exact ⟨x + 1, by simp, by omega, by omega, (Below.heap_setCell _ _ _ _ (by show w.heap.size ≠ w.heap.size + 1 + 1; omega)).trans AD, (Below.heap_setCell _ _ _ _ (by show w.heap.size + 1 ≠ w.heap.size + 1 + 1; omega)).trans AC, AF, (Below.heap_setCell _ _ _ _ (by show b0 ≠ w.heap.size + 1 + 1; omega)).trans AA, below_set AE (by omega)⟩
        · obtain rfl : x = 10 := by omega
          have g1 : (((10 : Nat) : Int) < 10) = False := eq_false (by omega)
          have hwy : IntKind.i64.wrap ((y : Int) + 1) = ((y + 1 : Nat) : Int) := by simp [IntKind.wrap, IntKind.bits, IntKind.signed]; omega
          go_wp2
          go_roundg (10 - (y + 1))
          case measure => omega
          case rel => exact ⟨y + 1, by simp, by omega, by omega, AD, AC, by rw [Nat.add_mul]; exact AB, AA, AE⟩
    · obtain rfl : y = 10 := by omega
      have f1 : (((10 : Nat) : Int) < 10) = False := eq_false (by omega)
      go_wp2
      obtain ⟨AH, AI, AP, AS⟩ := H.inG_iff.1 ha
      dsimp only at AH AI AP AS
      obtain ⟨X, rfl⟩ := Int.eq_ofNat_of_zero_le AH
      obtain ⟨Y, rfl⟩ := Int.eq_ofNat_of_zero_le AP
      have e1 : (0 ≤ (X : Int)) = True := eq_true (by omega)
      have e2 : ((X : Int) < 10) = True := eq_true (by omega)
      have e3 : (0 ≤ (Y : Int)) = True := eq_true (by omega)
      have e4 : ((Y : Int) < 10) = True := eq_true (by omega)
      have hp : Y * 10 + X < 100 := by omega
      have c0 : wr.cell? ⟨w.heap.size, 0, none⟩ = some (.int .i8 (X : Int)) := (blk_cell AD 0).trans rfl
      have c1 : wr.cell? ⟨w.heap.size, 1, none⟩ = some (.int .i8 (Y : Int)) := (blk_cell AD 1).trans rfl
      have cX : wr.cell? ⟨w.heap.size + 1 + 1, Y * 10 + X, none⟩ = some (.int .i64 ((fun q => if q < 10 * 10 then -1 else 0) (Y * 10 + X))) := by simp only [World.cell?, AB]; exact gridA_get _ _ hp
      have fX := blk_frozen AB (Y * 10 + X)
      go_still_tail 6, (by kernel_rfl)
      change wpList _ _ _ _ _ wr.drew
      replace AD := blk_drew AD
      replace AC := blk_drew AC
      replace AB := blk_drew AB
      replace AA := blk_drew AA
      replace AE := below_drew1 AE
      clear cX fX c0 c1
      generalize wr.drew = W4 at AD AC AB AA AE ⊢
      have cX : W4.cell? ⟨w.heap.size + 1 + 1, Y * 10 + X, none⟩ = some (.int .i64 ((fun q => if q < 10 * 10 then -1 else 0) (Y * 10 + X))) := by simp only [World.cell?, AB]; exact gridA_get _ _ hp
      have fX := blk_frozen AB (Y * 10 + X)
      have AF := ssetCell_at_ W4 (w.heap.size + 1 + 1) (Y * 10 + X) (.int .i64 0) 102 _ AB
      rw [gridA_set _ _ hp] at AF
      have AL := (gridA_congr (fun q hq => show (if q = Y * 10 + X then (0 : Int) else (if q < 10 * 10 then -1 else 0)) = (if q = Y * 10 + X then (0 : Int) else GR (fun _ => none) q) by
        split
        · rfl
        · first | rfl | (rw [if_pos (by omega)]; rfl))).trans (GR_put (fun _ => none) X Y (by omega) 0)
      rw [AL] at AF
      replace AD := (Below.heap_setCell W4 ⟨w.heap.size + 1 + 1, Y * 10 + X, none⟩ (.int .i64 0) _ (by show w.heap.size ≠ w.heap.size + 1 + 1; omega)).trans AD
      replace AC := (Below.heap_setCell W4 ⟨w.heap.size + 1 + 1, Y * 10 + X, none⟩ (.int .i64 0) _ (by show w.heap.size + 1 ≠ w.heap.size + 1 + 1; omega)).trans AC
      replace AA := (Below.heap_setCell W4 ⟨w.heap.size + 1 + 1, Y * 10 + X, none⟩ (.int .i64 0) _ (by show b0 ≠ w.heap.size + 1 + 1; omega)).trans AA
      replace AE := below_set (g := w.heap.size + 1 + 1) (j := Y * 10 + X) (v := .int .i64 0) AE (by omega)
      clear AL AB
      go_upto_region 10 with (fail)
      generalize W4.setCell ⟨w.heap.size + 1 + 1, Y * 10 + X, none⟩ (.int .i64 0) = W5 at AF AD AC AA AE ⊢
      clear cX fX
      have c0 : W5.cell? ⟨w.heap.size, 0, none⟩ = some (.int .i8 (X : Int)) := (blk_cell AD 0).trans rfl
      have c1 : W5.cell? ⟨w.heap.size, 1, none⟩ = some (.int .i8 (Y : Int)) := (blk_cell AD 1).trans rfl
      have hrow := sspot_row W5 w.heap.size (fun _ => True) (X : Int) (Y : Int) AE.size trivial
      have hbl : Below W5.heap.size W5 (W5.alloc (.cells #[.int .i8 (X : Int), .int .i8 (Y : Int)] 62)) := Below.alloc (Below.refl _ _) (Nat.le_refl _) _
      replace AF := blk_below AF hbl
      replace AC := blk_below AC hbl
      replace AA := blk_below AA hbl
      have Ab := AE.trans (hbl.mono AE.size)
      go_wp2
      generalize W5.alloc (.cells #[.int .i8 (X : Int), .int .i8 (Y : Int)] 62) = W6 at hrow AF AC AA Ab ⊢
      clear hbl AD c0 c1 AE
      have AJ : Kd.R k62 62 W6 w.heap.size (fun _ => True) (.slice (some ⟨W5.heap.size, 0, none⟩) 1 1) ([((X : Int), (Y : Int))].map sToS) := hrow
      clear hrow e1 e2 e3 e4 f1
      generalize W5.heap.size = g8 at AJ ⊢
      go_loopg [8, 9] k (fun kq v8 v9 wr => ∃ (kk i : Nat) (l : List (Int × Int)) (M : Int × Int → Option Int), v9 = .int .i64 (i : Int) ∧ kk ≤ kq ∧ i ≤ l.length ∧ Hid (H.bfs bes kk i l M = some R) ∧ l.length ≤ 1000 ∧ H.FarOk M l.length ∧ Kd.R k62 62 wr w.heap.size (fun _ => True) v8 (l.map sToS) ∧ wr.heap[w.heap.size + 1]? = some (.cells Try.zeroCells102 102 (0, 0)) ∧ wr.heap[w.heap.size + 1 + 1]? = some (.cells (gridA (GR M)) 102 (0, 0)) ∧ wr.heap[b0]? = some (.cells #[.int .i8 r0, .int .i8 r1, .int .u16 r2, .int .u16 r3, .int .u16 r4, .int .u16 r5, .int .u16 r6, .int .u16 r7, .int .u16 r8, .int .u16 r9, .int .u16 AO, .int .u16 AQ] 35 (0, 0)) ∧ Below w.heap.size w wr)
      case atStart => exact ⟨k, 0, [((X : Int), (Y : Int))], _, rfl, Nat.le_refl _, Nat.zero_le _, hV, by simp, H.FarOk.one ha, AJ, AC, AF, AA, Ab⟩
      case round =>
        clear AJ AC AF AA Ab hV
        obtain ⟨kk, i, l, M, rfl, hk, hi, hV, hl, hMo, hrow, AC, AB, AA, hB⟩ := hrel
        cases kk with
        | zero => exact absurd hV (by simp [H.bfs, Hid])
        | succ kk =>
          have AV : (if h : i < l.length then (bes l[i]).bind fun nx => (H.bfsIn l[i] nx l M).bind fun p => H.bfs bes kk (i + 1) p.1 p.2 else some M) = some R := hV
          clear hV
          obtain ⟨A8, c8, rfl⟩ := Kd.R_slice hrow
          rw [List.length_map] at hrow ⊢
          by_cases c : i < l.length
          · rw [dif_pos c] at AV
            obtain ⟨nx, hnx, Ag⟩ := Option.bind_eq_some_iff.1 AV
            obtain ⟨⟨l2, M2⟩, hin, An⟩ := Option.bind_eq_some_iff.1 Ag
            clear AV Ag
            have f1 : ((i : Int) < (l.length : Int)) = True := eq_true (by omega)
            have f2 : (0 ≤ (i : Int)) = True := eq_true (by omega)
            obtain ⟨ad, e_, AH, AI⟩ := at_T62 (Kd.R_reads' hrow).2.2 (i : Int) (by omega) (by rw [List.length_map]; omega)
            subst e_
            have hrd : rd_T62 (l.map sToS) (i : Int) = sToS l[i] := by simp [rd_T62, List.getD_eq_getElem?_getD, c]
            rw [hrd] at AH AI
            generalize hcur : l[i] = cur at hnx hin AH AI hrd
            obtain ⟨cx, cy⟩ := cur
            dsimp only [sToS] at AH AI
            rw [Int.toNat_natCast] at AH AI
            go_wp2_with (go_at_call 86; refine (hbes _ (cx, cy) nx AA hnx).mono ?_; rintro e w2 ⟨Aj, rfl, ho, hb⟩)
            have hN : Kd.R k62 62 w2 w.heap.size (fun _ => True) Aj (nx.map sToS) := Kd.R_lower ho hB.size
            have hA : ∀ k, (Value.slice (some ad) l.length c8).ownBlock = some k → Aj.ownBlock ≠ some k := fun k hk z => by
              have h1 := Kd.R_lt hrow k hk
              have h2 := Kd.R_base ho k z
              omega
            replace hrow := Kd.R_below hrow hb
            replace AC := blk_below AC hb
            replace AB := blk_below AB hb
            replace AA := blk_below AA hb
            replace hB := hB.trans (hb.mono hB.size)
            obtain ⟨Ah, AT, rfl⟩ := Kd.R_slice hN
            rw [List.length_map] at hN hA ⊢
            have hci : l[i]? = some (cx, cy) := by rw [List.getElem?_eq_getElem c, hcur]
            clear hrd hcur f1 f2 hi c AH AI ho hb hnx
            go_loopg [8, 11] nx.length (fun gq v8 Aq w3 => ∃ (j : Nat) (l' : List (Int × Int)) (M' : Int × Int → Option Int), Aq = .int .i64 (j : Int) ∧ nx.length - j ≤ gq ∧ j ≤ nx.length ∧ Hid (H.bfsIn (cx, cy) (nx.drop j) l' M' = some (l2, M2)) ∧ l'[i]? = some (cx, cy) ∧ l'.length ≤ 1000 ∧ H.FarOk M' l'.length ∧ Kd.R k62 62 w3 w.heap.size (fun _ => True) v8 (l'.map sToS) ∧ (∀ k, v8.ownBlock = some k → (Value.slice Ah nx.length AT).ownBlock ≠ some k) ∧ Kd.R k62 62 w3 w.heap.size (fun _ => True) (.slice Ah nx.length AT) (nx.map sToS) ∧ w3.heap[w.heap.size + 1]? = some (.cells Try.zeroCells102 102 (0, 0)) ∧ w3.heap[w.heap.size + 1 + 1]? = some (.cells (gridA (GR M')) 102 (0, 0)) ∧ w3.heap[b0]? = some (.cells #[.int .i8 r0, .int .i8 r1, .int .u16 r2, .int .u16 r3, .int .u16 r4, .int .u16 r5, .int .u16 r6, .int .u16 r7, .int .u16 r8, .int .u16 r9, .int .u16 AO, .int .u16 AQ] 35 (0, 0)) ∧ Below w.heap.size w w3)
            case atStart => exact ⟨0, l, M, rfl, by omega, Nat.zero_le _, hin, hci, hl, hMo, hrow, hA, hN, AC, AB, AA, hB⟩
            case round =>
              clear hin hci hl hMo hrow hA hN AC AB AA hB
              obtain ⟨j, l', M', rfl, hjq, hj, hin, hci, hl, hMo, hrow, hA, hN, AC, AB, AA, hB⟩ := hrel
              obtain ⟨A8, c8, rfl⟩ := Kd.R_slice hrow
              rw [List.length_map] at hrow hA ⊢
              by_cases cj : j < nx.length
              · have f1 : ((j : Int) < (nx.length : Int)) = True := eq_true (by omega)
                have f2 : (0 ≤ (j : Int)) = True := eq_true (by omega)
                obtain ⟨AR, e_, AH, AI⟩ := at_T62 (Kd.R_reads' hN).2.2 (j : Int) (by omega) (by rw [List.length_map]; omega)
                subst e_
                have hrd : rd_T62 (nx.map sToS) (j : Int) = sToS nx[j] := by simp [rd_T62, List.getD_eq_getElem?_getD, cj]
                rw [hrd] at AH AI
                have hdr : nx.drop j = nx[j] :: nx.drop (j + 1) := List.drop_eq_getElem_cons cj
                rw [hdr] at hin
                generalize nx[j] = s at AH AI hin hrd hdr
                obtain ⟨sx, sy⟩ := s
                dsimp only [sToS] at AH AI
                rw [Int.toNat_natCast] at AH AI
                have AG : (if H.inG (sx, sy) = true then (match M' (sx, sy) with | some _ => H.bfsIn (cx, cy) (nx.drop (j + 1)) l' M' | none => (match M' (cx, cy) with | some d => (if l'.length < 1000 then H.bfsIn (cx, cy) (nx.drop (j + 1)) (l' ++ [(sx, sy)]) (H.farPut M' (sx, sy) (d + 1)) else none) | none => none)) else none) = some (l2, M2) := hin
                have hrdj := ak hrd
                clear hin hrd hdr
                by_cases cg : H.inG (sx, sy) = true
                · rw [if_pos cg] at AG
                  obtain ⟨p0, p1, p2, p3⟩ := H.inG_iff.1 cg
                  dsimp only at p0 p1 p2 p3
                  obtain ⟨SX, rfl⟩ := Int.eq_ofNat_of_zero_le p0
                  obtain ⟨SY, rfl⟩ := Int.eq_ofNat_of_zero_le p2
                  have e1 : (0 ≤ (SX : Int)) = True := eq_true (by omega)
                  have e2 : ((SX : Int) < 10) = True := eq_true (by omega)
                  have e3 : (0 ≤ (SY : Int)) = True := eq_true (by omega)
                  have e4 : ((SY : Int) < 10) = True := eq_true (by omega)
                  have hps : SY * 10 + SX < 100 := by omega
                  have cS : wr.cell? ⟨w.heap.size + 1 + 1, SY * 10 + SX, none⟩ = some (.int .i64 ((M' ((SX : Int), (SY : Int))).getD (-1))) := by simp only [World.cell?, AB]; rw [← GR_at M' SX SY (by omega)]; exact gridA_get _ _ hps
                  have hwj : IntKind.i64.wrap ((j : Int) + 1) = ((j + 1 : Nat) : Int) := by have hz := Kd.C_max (Kd.R_reads' hN).2.2; rw [List.length_map] at hz; simp [IntKind.wrap, IntKind.bits, IntKind.signed]; omega
                  cases hq : M' ((SX : Int), (SY : Int)) with
                  | some d =>
                    rw [hq] at AG cS
                    dsimp only [Option.getD_some] at AG cS
                    have As := (hMo _ _ hq).2.1
                    have hdl : decide (d < 0) = false := decide_eq_false (by omega)
                    have Af : Hid (H.bfsIn (cx, cy) (nx.drop (j + 1)) l' M' = some (l2, M2)) := AG
                    clear AG
                    go_wp2
                    go_quiet (fail)
                    go_wp2
                    go_roundg (nx.length - (j + 1))
                    case measure => omega
                    case rel => exact ⟨j + 1, l', M', by simp, by omega, by omega, Af, hci, hl, hMo, Kd.R_drewN hrow _, hA, Kd.R_drewN hN _, blk_drewN AC _, blk_drewN AB _, blk_drewN AA _, pw_below_drewN hB _⟩
                  | none =>
                    rw [hq] at AG cS
                    dsimp only [Option.getD_none] at AG cS
                    cases hq2 : M' (cx, cy) with
                    | none => rw [hq2] at AG; cases AG
                    | some d =>
                      rw [hq2] at AG
                      by_cases cl : l'.length < 1000
                      · have Af : Hid (H.bfsIn (cx, cy) (nx.drop (j + 1)) (l' ++ [((SX : Int), (SY : Int))]) (H.farPut M' ((SX : Int), (SY : Int)) (d + 1)) = some (l2, M2)) := by
                          have h2 := AG
                          dsimp only at h2
                          rw [if_pos cl] at h2
                          exact h2
                        have AK := hMo _ _ hq2
                        clear AG
                        have hdl : decide ((-1 : Int) < 0) = true := by decide
                        go_wp2
                        go_quiet (fail)
                        replace hrow := Kd.R_drewN hrow nq
                        replace hN := Kd.R_drewN hN nq
                        replace AC := blk_drewN AC nq
                        replace AB := blk_drewN AB nq
                        replace AA := blk_drewN AA nq
                        replace hB := pw_below_drewN hB nq
                        have AW : (wr.drewN nq).cell? (AR.add (j * 2)) = some (.int .i8 (SX : Int)) := AH
                        have AX : (wr.drewN nq).cell? ⟨(AR.add (j * 2)).block, (AR.add (j * 2)).off + 1, none⟩ = some (.int .i8 (SY : Int)) := AI
                        clear AH AI cS
                        generalize wr.drewN nq = W3 at hrow hN AC AB AA hB AW AX ⊢
                        have hil := (List.getElem?_eq_some_iff.1 hci).1
                        have i1 : ((i : Int) < (l'.length : Int)) = True := eq_true (by omega)
                        have i2 : (0 ≤ (i : Int)) = True := eq_true (by omega)
                        obtain ⟨Aa, e_, AP, AS⟩ := at_T62 (Kd.R_reads' hrow).2.2 (i : Int) (by omega) (by rw [List.length_map]; omega)
                        subst e_
                        have hrd : rd_T62 (l'.map sToS) (i : Int) = (⟨cx, cy⟩ : S62) := by
                          have h2 : (l'.map sToS)[i]? = some (sToS (cx, cy)) := by rw [List.getElem?_map, hci]; rfl
                          simp [rd_T62, List.getD_eq_getElem?_getD, h2, sToS]
                        rw [hrd] at AP AS
                        dsimp only at AP AS
                        rw [Int.toNat_natCast] at AP AS
                        obtain ⟨t0, t1, t2, t3⟩ := H.inG_iff.1 AK.1
                        dsimp only at t0 t1 t2 t3
                        obtain ⟨CX, rfl⟩ := Int.eq_ofNat_of_zero_le t0
                        obtain ⟨CY, rfl⟩ := Int.eq_ofNat_of_zero_le t2
                        have d1 : (0 ≤ (CX : Int)) = True := eq_true (by omega)
                        have d2 : ((CX : Int) < 10) = True := eq_true (by omega)
                        have d3 : (0 ≤ (CY : Int)) = True := eq_true (by omega)
                        have d4 : ((CY : Int) < 10) = True := eq_true (by omega)
                        have hpc : CY * 10 + CX < 100 := by omega
                        have cC : W3.cell? ⟨w.heap.size + 1 + 1, CY * 10 + CX, none⟩ = some (.int .i64 d) := by
                          simp only [World.cell?, AB]
                          have h2 := gridA_get (GR M') _ hpc
                          rw [GR_at M' CX CY (by omega), hq2] at h2
                          exact h2
                        have hwd : IntKind.i64.wrap (d + 1) = d + 1 := by have := AK.2.1; have := AK.2.2; simp [IntKind.wrap, IntKind.bits, IntKind.signed]; omega
                        have Ae := hMo.put cg AK.2.1 AK.2.2
                        clear hrd
                        go_wp2
                        go_still_tail 26, (by kernel_rfl)
                        change wpList _ _ _ _ _ W3.drew
                        replace hrow := Kd.R_drew hrow
                        replace hN := Kd.R_drew hN
                        replace AC := blk_drew AC
                        replace AB := blk_drew AB
                        replace AA := blk_drew AA
                        replace hB := below_drew1 hB
                        clear AW AX AP AS cC i1 i2 d1 d2 d3 d4 hdl
                        generalize W3.drew = W4 at hrow hN AC AB AA hB ⊢
                        have cS : W4.cell? ⟨w.heap.size + 1 + 1, SY * 10 + SX, none⟩ = some (.int .i64 (GR M' (SY * 10 + SX))) := by simp only [World.cell?, AB]; exact gridA_get _ _ hps
                        have fS := blk_frozen AB (SY * 10 + SX)
                        have AF := ssetCell_at_ W4 (w.heap.size + 1 + 1) (SY * 10 + SX) (.int .i64 (d + 1)) 102 _ AB
                        rw [gridA_set _ _ hps, GR_put M' SX SY (by omega) (d + 1)] at AF
                        have AU : Kd.R k62 62 (W4.setCell ⟨w.heap.size + 1 + 1, SY * 10 + SX, none⟩ (.int .i64 (d + 1))) w.heap.size (fun k => (Value.slice (some AR) nx.length AT).ownBlock ≠ some k) (.slice (some Aa) l'.length c8) (l'.map sToS) := sR62re (Kd.R_far (Kd.R_types hrow AB (by decide)) (fun k hk => hk.2) _) (fun k hk => hA k hk)
                        have AY : Kd.R k62 62 (W4.setCell ⟨w.heap.size + 1 + 1, SY * 10 + SX, none⟩ (.int .i64 (d + 1))) w.heap.size (fun k => (Value.slice (some Aa) l'.length c8).ownBlock ≠ some k) (.slice (some AR) nx.length AT) (nx.map sToS) := sR62re (Kd.R_far (Kd.R_types hN AB (by decide)) (fun k hk => hk.2) _) (fun k hk z => hA k z hk)
                        have Al := blk_lt hbk
                        replace AC := (Below.heap_setCell W4 ⟨w.heap.size + 1 + 1, SY * 10 + SX, none⟩ (.int .i64 (d + 1)) _ (by show w.heap.size + 1 ≠ w.heap.size + 1 + 1; omega)).trans AC
                        replace AA := (Below.heap_setCell W4 ⟨w.heap.size + 1 + 1, SY * 10 + SX, none⟩ (.int .i64 (d + 1)) _ (by show b0 ≠ w.heap.size + 1 + 1; omega)).trans AA
                        replace hB := below_set (g := w.heap.size + 1 + 1) (j := SY * 10 + SX) (v := .int .i64 (d + 1)) hB (by omega)
                        clear AB hrow hN
                        go_upto_region 20 with (fail)
                        generalize W4.setCell ⟨w.heap.size + 1 + 1, SY * 10 + SX, none⟩ (.int .i64 (d + 1)) = W5 at AF AU AY AC AA hB ⊢
                        clear cS fS
                        obtain ⟨Ar, e_, Ac, Ad⟩ := at_T62 (Kd.R_reads' AY).2.2 (j : Int) (by omega) (by rw [List.length_map]; omega)
                        have e3 := Option.some.inj e_
                        subst e3
                        have AM : rd_T62 (nx.map sToS) (j : Int) = (⟨(SX : Int), (SY : Int)⟩ : S62) := hrdj.out
                        rw [AM] at Ac Ad
                        dsimp only at Ac Ad
                        rw [Int.toNat_natCast] at Ac Ad
                        clear AM
                        have hlen : (l' ++ [((SX : Int), (SY : Int))]).length = l'.length + 1 := by rw [List.length_append]; rfl
                        have hfr : ∀ k, W5.heap.size ≤ k → (Value.slice (some AR) nx.length AT).ownBlock ≠ some k := fun k hk z => by have := Kd.R_lt AY k z; omega
                        go_wp2_with (((with_reducible refine gate_builtin (b := .append) (xs := #[.tmp 91, .tmp 96]) rfl ?_); at_builtin; refine Kd.R_append k62 (w0 := w) w.heap.size rfl (.tmp 91) (.tmp 96) 37 62 (.agg #[(.int .i8 0), (.int .i8 0)]) 2 rfl Try.underlying37 info62 rfl (by decide) (by omega) (.slice (some Aa) l'.length c8) (l'.map sToS) (⟨(SX : Int), (SY : Int)⟩ : S62) [.int .i8 (SX : Int), .int .i8 (SY : Int)] (fun k => (Value.slice (some AR) nx.length AT).ownBlock ≠ some k) (fun _ => False) rfl rfl ?aP (fun _ hk => hk.elim) ?aF ?aO ?aB ?aS ?aL ?_; (case aP => exact k62_mkM _ _ _ (⟨(SX : Int), (SY : Int)⟩ : S62)); (case aF => exact hfr); (case aO => exact AU); (case aB => exact hB); (case aS => exact hB.size); (case aL => rw [List.length_map]; omega); intro Au W6 ho Ap AZ hat))
                        go_roundg (nx.length - (j + 1))
                        case measure => omega
                        case rel => exact ⟨j + 1, l' ++ [((SX : Int), (SY : Int))], _, by simp, by omega, by omega, Af, by rw [List.getElem?_append_left hil]; exact hci, by omega, by rw [hlen]; exact Ae, by rw [List.map_append]; exact Kd.R_mono ho (fun k hk => trivial), fun k hk => ho.1 k hk, sR62re (Kd.R_grown AY AZ (fun k hk z => hk z.symm)) (fun k hk => trivial), blk_grown AC AZ (Kd.R_ne AU AC (by decide)), blk_grown AF AZ (Kd.R_ne AU AF (by decide)), blk_grown AA AZ (Kd.R_ne AU AA (by decide)), Ap⟩
                      · exfalso
                        dsimp only at AG
                        rw [if_neg cl] at AG
                        cases AG
                · rw [if_neg cg] at AG; cases AG
              · obtain rfl : j = nx.length := by omega
                rw [List.drop_length] at hin
                have AN : some (l', M') = some (l2, M2) := hin
                injection AN with AN
                injection AN with e1 e2
                subst e1
                subst e2
                have f1 : ((nx.length : Int) < (nx.length : Int)) = False := eq_false (by omega)
                have hwi : IntKind.i64.wrap ((i : Int) + 1) = ((i + 1 : Nat) : Int) := by simp [IntKind.wrap, IntKind.bits, IntKind.signed]; have := (List.getElem?_eq_some_iff.1 hci).1; omega
                go_wp2
                go_roundg kk
                case measure => omega
                case rel => exact ⟨kk, i + 1, l', M', by simp, Nat.le_refl _, (List.getElem?_eq_some_iff.1 hci).1, An, hl, hMo, hrow, AC, AB, AA, hB⟩
          · rw [dif_neg c] at AV
            obtain rfl := Option.some.inj AV
            have f1 : ((i : Int) < (l.length : Int)) = False := eq_false (by omega)
            have Am : (storeCells ⟨w.heap.size + 1, 0, none⟩ (gridA (GR M)).toList).run Try.prog wr = .ok () (wr.setRow (w.heap.size + 1) (gridA (GR M))) := by
              have h := run_storeCells_from (P := Try.prog) (w.heap.size + 1) 102 (gridA (GR M)).toList 0 Try.zeroCells102 wr AC (by rw [Nat.zero_add, Array.length_toList, gridA_size]; kernel_rfl) (gridA_one _)
              simpa using h
            go_wp2
            refine wp_load_row 102 (.tmp 5) rfl (w.heap.size + 1 + 1) (by rfl) 102 _ (0, 0) _ AB Try.underlying102 rfl (by rw [gridA_size]; kernel_rfl) ?_
            go_wp2
            refine bodyPost_ret (results_cell_row rfl _ _ (w.heap.size + 1) 102 _ (0, 0) _ (by rfl) (setRow_heap wr _ _ _ 102 _ AC) Try.underlying102 rfl (by rw [gridA_size]; kernel_rfl)) rfl ?_
            exact ⟨rfl, sbelow_row_ hB (by omega) _⟩

def spec_StepsBetween.bes (k : Nat) (AG : Int) (AI : Int) (AL : Int) (AD : Int) (AF : Int) (AE : Int) (AJ : Int) (AH : Int) (AK : Int) (AC : Int) (AB : Int) (AA : Int) : Int × Int → Option (List (Int × Int)) := fun s => (spec_l01Beside.f k AG AI AL AD AF AE AJ AH AK AC AB AA s.1 s.2).map (List.map (fun x => (x.f0, x.f1)))
theorem spec_StepsBetween.gsteps_ (k b0 : Nat) (AC : Int) (AE : Int) (AJ : Int) (AF : Int) (AG : Int) (AK : Int) (AI : Int) (AD : Int) (AL : Int) (AH : Int) (AA : Int) (AB : Int) (a : Int × Int) (R : Int × Int → Option Int) (hR : Go.Proofs.Ytooidjdgfoioiaa.H.bfsFrom (spec_StepsBetween.bes k AC AE AJ AF AG AK AI AD AL AH AA AB) k a = some R) (w : World) (hbk : w.heap[b0]? = some (.cells #[.int .i8 AC, .int .i8 AE, .int .u16 AJ, .int .u16 AF, .int .u16 AG, .int .u16 AK, .int .u16 AI, .int .u16 AD, .int .u16 AL, .int .u16 AH, .int .u16 AA, .int .u16 AB] 35 (0, 0))) :
    Calls Try.prog 63 #[.pointer (some ⟨b0, 0, none⟩), .agg #[.int .i8 a.1, .int .i8 a.2]] w fun e w' => e = .returned (.agg (gridA (GR R))) ∧ Below w.heap.size w w' :=
  gsteps_calls b0 AC AE AJ AF AG AK AI AD AL AH AA AB (spec_StepsBetween.bes k AC AE AJ AF AG AK AI AD AL AH AA AB) (fun W s nx hW hs => by
    obtain ⟨xs, hxs, hmap⟩ := Option.map_eq_some_iff.1 hs
    have hid : nx.map sToS = xs := by rw [← hmap, List.map_map]; exact (List.map_congr_left (fun x _ => rfl)).trans (List.map_id xs)
    refine (spec_l01Beside.calls k b0 AC AE AJ AF AG AK AI AD AL AH AA AB s.1 s.2 xs W hW hxs).mono ?_
    rintro e w' ⟨v, h1, h2, h3⟩
    exact ⟨v, h1, by rw [hid]; exact h2, h3⟩) k a R hR w hbk
def spec_StepsBetween.far (k : Nat) (AJ : Int) (AM : Int) (AP : Int) (AG : Int) (AH : Int) (AF : Int) (AN : Int) (AI : Int) (AO : Int) (AE : Int) (AD : Int) (AC : Int) (AL AK AB AA : Int) : Option (Int × Int) := (Go.Proofs.Ytooidjdgfoioiaa.H.bfsFrom (spec_StepsBetween.bes k AJ AM AP AG AH AF AN AI AO AE AD AC) k (AL, AK)).bind fun R => (if Go.Proofs.Ytooidjdgfoioiaa.H.inG (AB, AA) = true then some (match R (AB, AA) with | some d => ((d, 0) : Int × Int) | none => (0, 6)) else none)
def spec_StepsBetween.f (k : Nat) (AJ : Int) (AM : Int) (AQ : Int) (AG : Int) (AH : Int) (AF : Int) (AO : Int) (AI : Int) (AP : Int) (AE : Int) (AB : Int) (AA : Int) (AL : Int) (AK : Int) (AD : Int) (AC : Int) : Option (Int × Int) := (spec_l01Two.f k AJ AM AQ AG AH AF AO AI AP AE AB AA AL AK AD AC).bind fun AN => (if AN = 0 then (spec_StepsBetween.far k AJ AM AQ AG AH AF AO AI AP AE AB AA AL AK AD AC) else (some (0, AN)))
set_option maxHeartbeats 8000000 in
set_option maxRecDepth 100000 in
theorem spec_StepsBetween.calls (k : Nat) (AY : Int) (AX : Int) (AV : Int) (AT : Int) (Aa : Int) (Ac : Int) (Ab : Int) (AZ : Int) (AW : Int) (AU : Int) (AN : Int) (AO : Int) (AQ : Int) (AR : Int) (AD : Int) (AE : Int) (r1 : Int) (r2 : Int) (w : World) (h : spec_StepsBetween.f k AY AX AV AT Aa Ac Ab AZ AW AU AN AO AQ AR AD AE = some (r1, r2)) :
    Calls Try.prog 42 #[.agg #[.int .i8 AY, .int .i8 AX, .int .u16 AV, .int .u16 AT, .int .u16 Aa, .int .u16 Ac, .int .u16 Ab, .int .u16 AZ, .int .u16 AW, .int .u16 AU, .int .u16 AN, .int .u16 AO], .agg #[.int .i8 AQ, .int .i8 AR], .agg #[.int .i8 AD, .int .i8 AE]] w fun e w' => e = .returned (.tuple #[.int .i64 r1, .int .i64 r2]) ∧ Below w.heap.size w w' := by
 have BN := Try.underlying35
 have BO := Try.underlying62
 have HB := ak (Below.refl w.heap.size w)
 have H := h
 unfold spec_StepsBetween.f at H
 clear h
 replace H := Option.bind_eq_some_iff.mp H
 obtain ⟨Ad, A8, H⟩ := H
 have A4 := ak A8
 clear A8
 by_cases c5 : Ad = 0
 {
 rw [if_pos c5] at H
 have A5 : (Ad == 0) = true := beq_iff_eq.mpr c5
 have A6 : (Ad != 0) = false := bne_eq_false_iff_eq.mpr c5
 clear c5
 have hF : ((Go.Proofs.Ytooidjdgfoioiaa.H.bfsFrom (spec_StepsBetween.bes k AY AX AV AT Aa Ac Ab AZ AW AU AN AO) k (AQ, AR)).bind fun R => (if Go.Proofs.Ytooidjdgfoioiaa.H.inG (AD, AE) = true then some (match R (AD, AE) with | some d => ((d, 0) : Int × Int) | none => (0, 6)) else none)) = some (r1, r2) := H
 clear H
 obtain ⟨RR, hRR, hF⟩ := Option.bind_eq_some_iff.mp hF
 by_cases cg : Go.Proofs.Ytooidjdgfoioiaa.H.inG (AD, AE) = true
 {
 rw [if_pos cg] at hF
 obtain ⟨nR, hOK⟩ := Go.Proofs.Ytooidjdgfoioiaa.H.bfsFrom_ok hRR
 obtain ⟨p0, p1, p2, p3⟩ := Go.Proofs.Ytooidjdgfoioiaa.H.inG_iff.1 cg
 dsimp only at p0 p1 p2 p3
 have e1 : (0 ≤ AD) = True := eq_true p0
 have e2 : (AD < 10) = True := eq_true p1
 have e3 : (0 ≤ AE) = True := eq_true p2
 have e4 : (AE < 10) = True := eq_true p3
 have hgr : GR RR (AE.toNat * 10 + AD.toNat) = (RR (AD, AE)).getD (-1) := by {
 rw [GR_at RR _ _ (by omega), Int.toNat_of_nonneg p0, Int.toNat_of_nonneg p2]
 }
 go_enter Try.func42, Try.ntmps42
 go_wp2_with (first | ((with_reducible refine gate_dst (N := 3) rfl ?_); refine box_event ?hg (N := 3) ?hd (cs := #[.int .i8 AY, .int .i8 AX, .int .u16 AV, .int .u16 AT, .int .u16 Aa, .int .u16 Ac, .int .u16 Ab, .int .u16 AZ, .int .u16 AW, .int .u16 AU, .int .u16 AN, .int .u16 AO]) (t := 35) ?hr ?_; (case hd => rfl); (case hg => rfl); (case hr => first | (go_simp; done) | (go_simp; rfl)); intro AS hg w6 hbox hb; have AA := ak (hbox); have Ak := gS HB hg; have AC := gS HB hg; replace HB := kB HB hb; clear hb hbox hg) | ((with_reducible refine gate_dst (N := 4) rfl ?_); refine box_event ?hg (N := 4) ?hd (cs := #[.int .i8 AQ, .int .i8 AR]) (t := 62) ?hr ?_; (case hd => rfl); (case hg => rfl); (case hr => first | (go_simp; done) | (go_simp; rfl)); intro Af hg w7 hbox hb; have AB := ak (hbox); have Al := gS1 HB AC hg; have AF := gS1 HB AC hg; have AJ := nL AA hg; have AG := nG AA hg; replace AA := kK AA hb; replace HB := kB1 HB AC hb; clear hb hbox hg) | ((with_reducible refine gate_dst (N := 5) rfl ?_); refine box_event ?hg (N := 5) ?hd (cs := #[.int .i8 AD, .int .i8 AE]) (t := 62) ?hr ?_; (case hd => rfl); (case hg => rfl); (case hr => first | (go_simp; done) | (go_simp; rfl)); intro AP hg w8 hbox hb; have AM := ak (hbox); have Am := ak ((by rw [hg]; exact (below_size (zH2 HB AC AF)) : w.heap.size ≤ AP)); have Ae := ak ((by rw [hg]; exact (below_size (zH2 HB AC AF)) : w.heap.size ≤ AP)); have AI := nL AA hg; have AH := nG AA hg; have AL := nL AB hg; have AK := nG AB hg; replace AA := kK AA hb; replace AB := kK AB hb; replace HB := kB2 HB AC AF hb; clear hb hbox hg; have BM := AG.out; have BK := AJ.out; have BC := AL.out; have BE := AK.out; obtain ⟨A0, Az, Ap, Au⟩ := cz2 w8 AB; have BB := AH.out; have BD := AI.out; obtain ⟨At, An, Av, A2⟩ := cz2 w8 AM) | ((with_reducible refine gate_callee (f := 74) rfl ?_); refine goesL_ (some 12) rfl rfl Try.func74 (by kernel_rfl) rfl #[.pointer (some ⟨AS, 0, none⟩), .agg #[.int .i8 AQ, .int .i8 AR], .agg #[.int .i8 AD, .int .i8 AE]] rfl gl_ ?_; (with_reducible refine (spec_l01Two.calls k AS AY AX AV AT Aa Ac Ab AZ AW AU AN AO AQ AR AD AE Ad _ ?side1 A4.out).mono ?_); (case side1 => exact (zK AA.out)); rintro e BG ⟨rfl, hb⟩; refine ⟨_, rfl, ?_⟩; replace AA := kK AA hb; replace AB := kK AB hb; replace AM := kK AM hb; replace HB := kB3 HB AC AF Ae hb; (try clear hb); have BQ : BG.cell? ⟨Af, 0, none⟩ = some (.int .i8 AQ) := (blk_cell AB.out 0).trans rfl; have BP : BG.cell? ⟨Af, 1, none⟩ = some (.int .i8 AR) := (blk_cell AB.out 1).trans rfl) | (go_at_call 63; (with_reducible refine (spec_StepsBetween.gsteps_ k AS AY AX AV AT Aa Ac Ab AZ AW AU AN AO (AQ, AR) RR hRR _ AA.out).mono ?_); rintro e Ag ⟨rfl, hb⟩; have Aj := blk_below AM.out hb; have Ai := HB.out.trans (hb.mono HB.out.size); have hst := run_storeCells_new (P := Try.prog) Ag 102 Try.zeroCells102 (gridA (GR RR)) (by rw [gridA_size]; kernel_rfl) (by rw [gridA_size]; kernel_rfl) (Array.all_eq_true_iff_forall_mem.2 (fun v hv => gridA_one _ v (by simpa using hv)))))
 have Ah := heap_alloc_new Ag (.cells (gridA (GR RR)) 102)
 have hbl : Below Ag.heap.size Ag (Ag.alloc (.cells (gridA (GR RR)) 102)) := Below.alloc (Below.refl _ _) (Nat.le_refl _) _
 replace Aj := blk_below Aj hbl
 replace Ai := Ai.trans (hbl.mono Ai.size)
 clear hst hbl
 generalize Ag.alloc (.cells (gridA (GR RR)) 102) = A3 at Ah Aj Ai ⊢
 generalize Ag.heap.size = BL at Ah ⊢
 have y0 : A3.cell? ⟨AP, 0, none⟩ = some (.int .i8 AD) := (blk_cell Aj 0).trans rfl
 have y1 : A3.cell? ⟨AP, 1, none⟩ = some (.int .i8 AE) := (blk_cell Aj 1).trans rfl
 have y2 : A3.cell? ⟨BL, AE.toNat * 10 + AD.toNat, none⟩ = some (.int .i64 ((RR (AD, AE)).getD (-1))) := by {
 rw [← hgr]
 simp only [World.cell?, Ah]
 exact gridA_get _ _ (by omega)
 }
 cases hq : RR (AD, AE) with
 | some d => (
 rw [hq] at hF y2
 have hz := Option.some.inj hF
 obtain ⟨rfl, rfl⟩ := Prod.mk.inj hz
 have hdl : decide (d < 0) = false := decide_eq_false (by have := (hOK _ _ hq).2.1; omega)
 dsimp only [Option.getD_some] at y2
 clear hz hF hgr
 go_quiet (fail)
 go_wp2
 go_quiet (fail)
 try go_wp2
 go_ret2
 exact ⟨rfl, by repeat (first | exact Ai | apply pw_below_drewN | apply below_drew1)⟩
 )
 | none => (
 rw [hq] at hF y2
 have hz := Option.some.inj hF
 obtain ⟨rfl, rfl⟩ := Prod.mk.inj hz
 have hdl : decide ((-1 : Int) < 0) = true := by decide
 dsimp only [Option.getD_none] at y2
 clear hz hF hgr
 go_quiet (fail)
 go_wp2
 go_ret2
 exact ⟨rfl, by repeat (first | exact Ai | apply pw_below_drewN | apply below_drew1)⟩
 )
 }
 · rw [if_neg cg] at hF; cases hF
 }
 {
 rw [if_neg c5] at H
 have A5 : (Ad == 0) = false := beq_eq_false_iff_ne.mpr c5
 have A6 : (Ad != 0) = true := bne_iff_ne.mpr c5
 simp only [Option.some.injEq, Prod.mk.injEq] at H
 obtain ⟨rfl, rfl⟩ := H
 go_enter Try.func42, Try.ntmps42
 go_wp2_with (first | ((with_reducible refine gate_dst (N := 3) rfl ?_); refine box_event ?hg (N := 3) ?hd (cs := #[.int .i8 AY, .int .i8 AX, .int .u16 AV, .int .u16 AT, .int .u16 Aa, .int .u16 Ac, .int .u16 Ab, .int .u16 AZ, .int .u16 AW, .int .u16 AU, .int .u16 AN, .int .u16 AO]) (t := 35) ?hr ?_; (case hd => rfl); (case hg => rfl); (case hr => first | (go_simp; done) | (go_simp; rfl)); intro AS hg Ag hbox hb; have AA := ak (hbox); have Ak := gS HB hg; have AC := gS HB hg; replace HB := kB HB hb; clear hb hbox hg) | ((with_reducible refine gate_dst (N := 4) rfl ?_); refine box_event ?hg (N := 4) ?hd (cs := #[.int .i8 AQ, .int .i8 AR]) (t := 62) ?hr ?_; (case hd => rfl); (case hg => rfl); (case hr => first | (go_simp; done) | (go_simp; rfl)); intro Af hg A3 hbox hb; have AB := ak (hbox); have Al := gS1 HB AC hg; have AF := gS1 HB AC hg; have AJ := nL AA hg; have AG := nG AA hg; replace AA := kK AA hb; replace HB := kB1 HB AC hb; clear hb hbox hg) | ((with_reducible refine gate_dst (N := 5) rfl ?_); refine box_event ?hg (N := 5) ?hd (cs := #[.int .i8 AD, .int .i8 AE]) (t := 62) ?hr ?_; (case hd => rfl); (case hg => rfl); (case hr => first | (go_simp; done) | (go_simp; rfl)); intro AP hg A7 hbox hb; have AM := ak (hbox); have Am := ak ((by rw [hg]; exact (below_size (zH2 HB AC AF)) : w.heap.size ≤ AP)); have Ae := ak ((by rw [hg]; exact (below_size (zH2 HB AC AF)) : w.heap.size ≤ AP)); have AI := nL AA hg; have AH := nG AA hg; have AL := nL AB hg; have AK := nG AB hg; replace AA := kK AA hb; replace AB := kK AB hb; replace HB := kB2 HB AC AF hb; clear hb hbox hg; have BF := AG.out; have BH := AJ.out; have BJ := AL.out; have BA := AK.out; obtain ⟨Aw, Aq, Ay, Ao⟩ := cz2 A7 AB; have A9 := AH.out; have BI := AI.out; obtain ⟨As, Ar, A1, Ax⟩ := cz2 A7 AM) | ((with_reducible refine gate_callee (f := 74) rfl ?_); refine goesL_ (some 12) rfl rfl Try.func74 (by kernel_rfl) rfl #[.pointer (some ⟨AS, 0, none⟩), .agg #[.int .i8 AQ, .int .i8 AR], .agg #[.int .i8 AD, .int .i8 AE]] rfl gl_ ?_; (with_reducible refine (spec_l01Two.calls k AS AY AX AV AT Aa Ac Ab AZ AW AU AN AO AQ AR AD AE Ad _ ?side1 A4.out).mono ?_); (case side1 => exact (zK AA.out)); rintro e BR ⟨rfl, hb⟩; refine ⟨_, rfl, ?_⟩; replace AA := kK AA hb; replace AB := kK AB hb; replace AM := kK AM hb; replace HB := kB3 HB AC AF Ae hb; (try clear hb)))
 go_ret2
 exact ⟨rfl, zH3 HB AC AF Ae⟩
 }
/-! ### impl_within: function 64 -/
def impl_within.f (a0 : Int) (a1 : Int) (a2 : Int) : Option (Bool) := if a1 ≤ a0 then (some (decide (a0 ≤ a2))) else (some false)
set_option maxHeartbeats 8000000 in
set_option maxRecDepth 100000 in
theorem impl_within.calls (a0 : Int) (a1 : Int) (a2 : Int) (r : Bool) (w : World) (h : impl_within.f a0 a1 a2 = some r) :
    Calls Try.prog 64 #[.int .i64 a0, .int .i64 a1, .int .i64 a2] w fun e w' => e = .returned (.bool r) ∧ Drawn0 w w' := by
 have H := h
 unfold impl_within.f at H
 clear h
 by_cases c4 : a1 ≤ a0
 {
 rw [if_pos c4] at H
 have AA : decide (a1 ≤ a0) = true := decide_eq_true c4
 clear c4
 obtain rfl := Option.some.inj H
 go_enter Try.func64, Try.ntmps64
 go_wp2
 go_ret
 exact ⟨by first | rfl | (simp; done) | (simp [*]; done), by repeat (first | exact Drawn0.refl _ | apply Drawn0.step)⟩
 }
 {
 rw [if_neg c4] at H
 have AA : decide (a1 ≤ a0) = false := decide_eq_false c4
 clear c4
 obtain rfl := Option.some.inj H
 go_enter Try.func64, Try.ntmps64
 go_wp2
 go_ret
 exact ⟨by first | rfl | (simp; done) | (simp [*]; done), by repeat (first | exact Drawn0.refl _ | apply Drawn0.step)⟩
 }
/-! ### impl_ValidRoom: function 45 -/
def impl_ValidRoom.rows (wide high : Int) : Nat → List Int → Bool
  | _, [] => true
  | i, x :: r => if shr .u16 x wide = 0 then (if wrap64 high ≤ (i : Int) then (if x = 0 then impl_ValidRoom.rows wide high (i + 1) r else false) else impl_ValidRoom.rows wide high (i + 1) r) else false
theorem impl_ValidRoom.rows_step (wide high : Int) (l : List Int) (i : Nat) (h : i < l.length) : impl_ValidRoom.rows wide high i (l.drop i) = if shr .u16 (l.getD i 0) wide = 0 then (if wrap64 high ≤ (i : Int) then (if l.getD i 0 = 0 then impl_ValidRoom.rows wide high (i + 1) (l.drop (i + 1)) else false) else impl_ValidRoom.rows wide high (i + 1) (l.drop (i + 1))) else false := by
  rw [List.drop_eq_getElem_cons h, impl_ValidRoom.rows, List.getD_eq_getElem?_getD, List.getElem?_eq_getElem h]; rfl
def impl_ValidRoom.f (AA : Int) (AC : Int) (AL : Int) (AG : Int) (AH : Int) (AF : Int) (AJ : Int) (AI : Int) (AK : Int) (AE : Int) (AD : Int) (AB : Int) : Option Bool := (impl_within.f (wrap64 AA) 1 10).bind fun t => (if t = true then (impl_within.f (wrap64 AC) 1 10).bind fun t2 => (if t2 = true then (if 0 ≤ AA then some (impl_ValidRoom.rows AA AC 0 [AL, AG, AH, AF, AJ, AI, AK, AE, AD, AB]) else none) else some false) else some false)
set_option maxHeartbeats 8000000 in
set_option maxRecDepth 1000000 in
theorem impl_ValidRoom.calls (AL : Int) (AM : Int) (AF : Int) (AD : Int) (AI : Int) (AK : Int) (AJ : Int) (AH : Int) (AG : Int) (AE : Int) (AA : Int) (AB : Int) (r : Bool) (w : World) (h : impl_ValidRoom.f AL AM AF AD AI AK AJ AH AG AE AA AB = some r) :
    Calls Try.prog 45 #[.agg #[.int .i8 AL, .int .i8 AM, .int .u16 AF, .int .u16 AD, .int .u16 AI, .int .u16 AK, .int .u16 AJ, .int .u16 AH, .int .u16 AG, .int .u16 AE, .int .u16 AA, .int .u16 AB]] w fun e w' => e = .returned (.bool r) ∧ Below w.heap.size w w' := by
  unfold impl_ValidRoom.f at h
  have hu := Try.underlying35
  have Am := Try.underlying24
  obtain ⟨t, ht, h⟩ := Option.bind_eq_some_iff.mp h
  cases t with
  | false =>
    rw [if_neg (by decide)] at h
    obtain rfl := Option.some.inj h
    go_enter Try.func45, Try.ntmps45
    go_wp2_with (first | (go_at_call 64; (with_reducible refine (impl_within.calls (wrap64 AL) 1 10 _ _ ht).mono ?_); rintro e w' ⟨rfl, ⟨nd, rfl⟩⟩))
    go_ret
    exact ⟨rfl, by repeat (first | exact Below.alloc (Below.refl _ _) (Nat.le_refl _) _ | apply pw_below_drewN)⟩
  | true =>
    rw [if_pos rfl] at h
    obtain ⟨t2, AU, h⟩ := Option.bind_eq_some_iff.mp h
    cases t2 with
    | false =>
      rw [if_neg (by decide)] at h
      obtain rfl := Option.some.inj h
      go_enter Try.func45, Try.ntmps45
      go_wp2_with (first | (go_at_call 64; (with_reducible refine (impl_within.calls (wrap64 AL) 1 10 _ _ ht).mono ?_); rintro e w' ⟨rfl, ⟨nd, rfl⟩⟩) | (go_at_call 64; (with_reducible refine (impl_within.calls (wrap64 AM) 1 10 _ _ AU).mono ?_); rintro e w' ⟨rfl, ⟨Aj, rfl⟩⟩))
      go_ret
      exact ⟨rfl, by repeat (first | exact Below.alloc (Below.refl _ _) (Nat.le_refl _) _ | apply pw_below_drewN)⟩
    | true =>
      rw [if_pos rfl] at h
      by_cases c0 : 0 ≤ AL
      · rw [if_pos c0] at h
        have Ai := eq_true c0
        have Ag : decide (0 ≤ AL) = true := decide_eq_true c0
        have Ad : Aside0 (impl_ValidRoom.rows AL AM 0 ([AF, AD, AI, AK, AJ, AH, AG, AE, AA, AB].drop 0) = r) := ⟨Option.some.inj h⟩
        clear h c0
        go_enter Try.func45, Try.ntmps45
        go_wp2_with (first | (go_at_call 64; (with_reducible refine (impl_within.calls (wrap64 AL) 1 10 _ _ ht).mono ?_); rintro e w' ⟨rfl, ⟨nd, rfl⟩⟩) | (go_at_call 64; (with_reducible refine (impl_within.calls (wrap64 AM) 1 10 _ _ AU).mono ?_); rintro e w' ⟨rfl, ⟨Aj, rfl⟩⟩))
        go_loopg [19] 10 (fun gk Ak wr => ∃ i : Nat, Ak = .int .i64 (i : Int) ∧ i ≤ 10 ∧ 10 - i ≤ gk ∧ Aside0 (impl_ValidRoom.rows AL AM i ([AF, AD, AI, AK, AJ, AH, AG, AE, AA, AB].drop i) = r) ∧ wr.heap[w.heap.size]? = some (.cells #[.int .i8 AL, .int .i8 AM, .int .u16 AF, .int .u16 AD, .int .u16 AI, .int .u16 AK, .int .u16 AJ, .int .u16 AH, .int .u16 AG, .int .u16 AE, .int .u16 AA, .int .u16 AB] 35 (0, 0)) ∧ Below w.heap.size w wr)
        case atStart => exact ⟨0, rfl, by omega, by omega, Ad, heap_alloc_new w _, by repeat (first | exact Below.alloc (Below.refl _ _) (Nat.le_refl _) _ | apply pw_below_drewN)⟩
        case round =>
          clear Ad
          obtain ⟨i, rfl, hi, hm, hV, hbox, hB⟩ := hrel
          have q0 : wr.cell? ⟨w.heap.size, 0, none⟩ = some (.int .i8 AL) := (blk_cell hbox 0).trans rfl
          have q1 : wr.cell? ⟨w.heap.size, 1, none⟩ = some (.int .i8 AM) := (blk_cell hbox 1).trans rfl
          by_cases hlt : i < 10
          · have hstep := impl_ValidRoom.rows_step AL AM [AF, AD, AI, AK, AJ, AH, AG, AE, AA, AB] i hlt
            obtain ⟨x, hx⟩ : ∃ x, x = [AF, AD, AI, AK, AJ, AH, AG, AE, AA, AB].getD i 0 := ⟨_, rfl⟩
            rw [← hx] at hstep
            have AN := hV.out
            rw [hstep] at AN
            clear hstep hV
            obtain ⟨nx, hnx⟩ : ∃ nx : List Int, nx = [AF, AD, AI, AK, AJ, AH, AG, AE, AA, AB].drop (i + 1) := ⟨_, rfl⟩
            rw [← hnx] at AN
            have Al : 10 - (i + 1) < 10 - i := by omega
            have Aa : (Instr.index 24 (.agg #[.int .u16 AF, .int .u16 AD, .int .u16 AI, .int .u16 AK, .int .u16 AJ, .int .u16 AH, .int .u16 AG, .int .u16 AE, .int .u16 AA, .int .u16 AB]) (.int .i64 0)).run Try.prog wr = .ok (.int .u16 AF) wr := by kernel_rfl
            have Ab : (Instr.index 24 (.agg #[.int .u16 AF, .int .u16 AD, .int .u16 AI, .int .u16 AK, .int .u16 AJ, .int .u16 AH, .int .u16 AG, .int .u16 AE, .int .u16 AA, .int .u16 AB]) (.int .i64 1)).run Try.prog wr = .ok (.int .u16 AD) wr := by kernel_rfl
            have AW : (Instr.index 24 (.agg #[.int .u16 AF, .int .u16 AD, .int .u16 AI, .int .u16 AK, .int .u16 AJ, .int .u16 AH, .int .u16 AG, .int .u16 AE, .int .u16 AA, .int .u16 AB]) (.int .i64 2)).run Try.prog wr = .ok (.int .u16 AI) wr := by kernel_rfl
            have AX : (Instr.index 24 (.agg #[.int .u16 AF, .int .u16 AD, .int .u16 AI, .int .u16 AK, .int .u16 AJ, .int .u16 AH, .int .u16 AG, .int .u16 AE, .int .u16 AA, .int .u16 AB]) (.int .i64 3)).run Try.prog wr = .ok (.int .u16 AK) wr := by kernel_rfl
            have Ae : (Instr.index 24 (.agg #[.int .u16 AF, .int .u16 AD, .int .u16 AI, .int .u16 AK, .int .u16 AJ, .int .u16 AH, .int .u16 AG, .int .u16 AE, .int .u16 AA, .int .u16 AB]) (.int .i64 4)).run Try.prog wr = .ok (.int .u16 AJ) wr := by kernel_rfl
            have AV : (Instr.index 24 (.agg #[.int .u16 AF, .int .u16 AD, .int .u16 AI, .int .u16 AK, .int .u16 AJ, .int .u16 AH, .int .u16 AG, .int .u16 AE, .int .u16 AA, .int .u16 AB]) (.int .i64 5)).run Try.prog wr = .ok (.int .u16 AH) wr := by kernel_rfl
            have Af : (Instr.index 24 (.agg #[.int .u16 AF, .int .u16 AD, .int .u16 AI, .int .u16 AK, .int .u16 AJ, .int .u16 AH, .int .u16 AG, .int .u16 AE, .int .u16 AA, .int .u16 AB]) (.int .i64 6)).run Try.prog wr = .ok (.int .u16 AG) wr := by kernel_rfl
            have AY : (Instr.index 24 (.agg #[.int .u16 AF, .int .u16 AD, .int .u16 AI, .int .u16 AK, .int .u16 AJ, .int .u16 AH, .int .u16 AG, .int .u16 AE, .int .u16 AA, .int .u16 AB]) (.int .i64 7)).run Try.prog wr = .ok (.int .u16 AE) wr := by kernel_rfl
            have Ac : (Instr.index 24 (.agg #[.int .u16 AF, .int .u16 AD, .int .u16 AI, .int .u16 AK, .int .u16 AJ, .int .u16 AH, .int .u16 AG, .int .u16 AE, .int .u16 AA, .int .u16 AB]) (.int .i64 8)).run Try.prog wr = .ok (.int .u16 AA) wr := by kernel_rfl
            have AZ : (Instr.index 24 (.agg #[.int .u16 AF, .int .u16 AD, .int .u16 AI, .int .u16 AK, .int .u16 AJ, .int .u16 AH, .int .u16 AG, .int .u16 AE, .int .u16 AA, .int .u16 AB]) (.int .i64 9)).run Try.prog wr = .ok (.int .u16 AB) wr := by kernel_rfl
            obtain ⟨z, hz⟩ : ∃ z : Int, z = (i : Int) := ⟨_, rfl⟩
            rw [← hz] at AN ⊢
            clear hlt
            obtain ⟨ji, hji⟩ : ∃ j_ : Int, shr .u16 x AL = j_ := ⟨_, rfl⟩
            rw [hji] at AN
            have Ah : (x / 2 ^ min AL.toNat 16) = ji := hji
            have hjiz : AL ≤ 16 → (x / 2 ^ AL.toNat) = ji := shr_small hji
            by_cases c1 : ji = 0
            · rw [if_pos c1] at AN
              have AT : (ji == 0) = true := beq_iff_eq.mpr c1
              have AS : (ji != 0) = false := bne_eq_false_iff_eq.mpr c1
              clear c1
              by_cases c2 : wrap64 AM ≤ z
              · rw [if_pos c2] at AN
                have AR : decide (wrap64 AM ≤ z) = true := decide_eq_true c2
                by_cases c3 : x = 0
                · rw [if_pos c3] at AN
                  have AP : (x == 0) = true := beq_iff_eq.mpr c3
                  have AQ : (x != 0) = false := bne_eq_false_iff_eq.mpr c3
                  have hV := ak AN
                  clear AN c3 c2
                  rcases (show (i = 0 ∧ z = 0) ∨ (i = 1 ∧ z = 1) ∨ (i = 2 ∧ z = 2) ∨ (i = 3 ∧ z = 3) ∨ (i = 4 ∧ z = 4) ∨ (i = 5 ∧ z = 5) ∨ (i = 6 ∧ z = 6) ∨ (i = 7 ∧ z = 7) ∨ (i = 8 ∧ z = 8) ∨ (i = 9 ∧ z = 9) by omega) with ⟨AC, rfl⟩ | ⟨AC, rfl⟩ | ⟨AC, rfl⟩ | ⟨AC, rfl⟩ | ⟨AC, rfl⟩ | ⟨AC, rfl⟩ | ⟨AC, rfl⟩ | ⟨AC, rfl⟩ | ⟨AC, rfl⟩ | ⟨AC, rfl⟩
                  all_goals
                    rw [AC] at hx
                    simp only [List.getD_cons_zero, List.getD_cons_succ] at hx
                    subst hx
                    clear hz
                    go_wp2
                    go_roundg (10 - (i + 1))
                    case measure => omega
                    case rel => exact ⟨i + 1, by rw [AC]; rfl, by omega, by omega, ⟨by have AO := hV.out; rw [hnx] at AO; exact AO⟩, hbox, hB⟩
                · rw [if_neg c3] at AN
                  have AP : (x == 0) = false := beq_eq_false_iff_ne.mpr c3
                  have AQ : (x != 0) = true := bne_iff_ne.mpr c3
                  subst AN
                  clear c3 c2
                  rcases (show (i = 0 ∧ z = 0) ∨ (i = 1 ∧ z = 1) ∨ (i = 2 ∧ z = 2) ∨ (i = 3 ∧ z = 3) ∨ (i = 4 ∧ z = 4) ∨ (i = 5 ∧ z = 5) ∨ (i = 6 ∧ z = 6) ∨ (i = 7 ∧ z = 7) ∨ (i = 8 ∧ z = 8) ∨ (i = 9 ∧ z = 9) by omega) with ⟨AC, rfl⟩ | ⟨AC, rfl⟩ | ⟨AC, rfl⟩ | ⟨AC, rfl⟩ | ⟨AC, rfl⟩ | ⟨AC, rfl⟩ | ⟨AC, rfl⟩ | ⟨AC, rfl⟩ | ⟨AC, rfl⟩ | ⟨AC, rfl⟩
                  all_goals
                    rw [AC] at hx
                    simp only [List.getD_cons_zero, List.getD_cons_succ] at hx
                    subst hx
                    clear hz
                    go_wp2
                    go_ret
                    exact ⟨rfl, hB⟩
              · rw [if_neg c2] at AN
                have AR : decide (wrap64 AM ≤ z) = false := decide_eq_false c2
                have hV := ak AN
                clear AN c2
                rcases (show (i = 0 ∧ z = 0) ∨ (i = 1 ∧ z = 1) ∨ (i = 2 ∧ z = 2) ∨ (i = 3 ∧ z = 3) ∨ (i = 4 ∧ z = 4) ∨ (i = 5 ∧ z = 5) ∨ (i = 6 ∧ z = 6) ∨ (i = 7 ∧ z = 7) ∨ (i = 8 ∧ z = 8) ∨ (i = 9 ∧ z = 9) by omega) with ⟨AC, rfl⟩ | ⟨AC, rfl⟩ | ⟨AC, rfl⟩ | ⟨AC, rfl⟩ | ⟨AC, rfl⟩ | ⟨AC, rfl⟩ | ⟨AC, rfl⟩ | ⟨AC, rfl⟩ | ⟨AC, rfl⟩ | ⟨AC, rfl⟩
                all_goals
                  rw [AC] at hx
                  simp only [List.getD_cons_zero, List.getD_cons_succ] at hx
                  subst hx
                  clear hz
                  go_wp2
                  go_roundg (10 - (i + 1))
                  case measure => omega
                  case rel => exact ⟨i + 1, by rw [AC]; rfl, by omega, by omega, ⟨by have AO := hV.out; rw [hnx] at AO; exact AO⟩, hbox, hB⟩
            · rw [if_neg c1] at AN
              have AT : (ji == 0) = false := beq_eq_false_iff_ne.mpr c1
              have AS : (ji != 0) = true := bne_iff_ne.mpr c1
              subst AN
              clear c1
              rcases (show (i = 0 ∧ z = 0) ∨ (i = 1 ∧ z = 1) ∨ (i = 2 ∧ z = 2) ∨ (i = 3 ∧ z = 3) ∨ (i = 4 ∧ z = 4) ∨ (i = 5 ∧ z = 5) ∨ (i = 6 ∧ z = 6) ∨ (i = 7 ∧ z = 7) ∨ (i = 8 ∧ z = 8) ∨ (i = 9 ∧ z = 9) by omega) with ⟨AC, rfl⟩ | ⟨AC, rfl⟩ | ⟨AC, rfl⟩ | ⟨AC, rfl⟩ | ⟨AC, rfl⟩ | ⟨AC, rfl⟩ | ⟨AC, rfl⟩ | ⟨AC, rfl⟩ | ⟨AC, rfl⟩ | ⟨AC, rfl⟩
              all_goals
                rw [AC] at hx
                simp only [List.getD_cons_zero, List.getD_cons_succ] at hx
                subst hx
                clear hz
                go_wp2
                go_ret
                exact ⟨rfl, hB⟩
          · obtain rfl : i = 10 := by omega
            have AN := hV.out
            obtain rfl : true = r := AN
            go_wp2
            go_ret
            exact ⟨rfl, hB⟩
      · rw [if_neg c0] at h; exact absurd h (by simp)

/-! ### impl_Room_isCell: function 78 -/
def impl_Room_isCell.f (AC : Int) (AF : Int) (AP : Int) (AK : Int) (AL : Int) (AJ : Int) (AN : Int) (AM : Int) (AO : Int) (AI : Int) (AH : Int) (AG : Int) (AE : Int) (AD : Int) : Option (Bool) := (impl_within.f (wrap64 (AE)) 0 (wrap64 ((mn (wrap64 (AC)) 10) - 1))).bind fun AB => (if AB = true then ((impl_within.f (wrap64 (AD)) 0 (wrap64 ((mn (wrap64 (AF)) 10) - 1))).bind fun AA => (some AA)) else (some false))
set_option maxHeartbeats 8000000 in
set_option maxRecDepth 100000 in
theorem impl_Room_isCell.calls (AG : Int) (AH : Int) (AP : Int) (AO : Int) (AS : Int) (AV : Int) (AU : Int) (AR : Int) (AQ : Int) (AT : Int) (AI : Int) (AJ : Int) (AF : Int) (AN : Int) (r : Bool) (w : World) (h : impl_Room_isCell.f AG AH AP AO AS AV AU AR AQ AT AI AJ AF AN = some r) :
    Calls Try.prog 78 #[.agg #[.int .i8 AG, .int .i8 AH, .int .u16 AP, .int .u16 AO, .int .u16 AS, .int .u16 AV, .int .u16 AU, .int .u16 AR, .int .u16 AQ, .int .u16 AT, .int .u16 AI, .int .u16 AJ], .agg #[.int .i8 AF, .int .i8 AN]] w fun e w' => e = .returned (.bool r) ∧ Below w.heap.size w w' := by
 have Bn := Try.underlying35
 have Bo := Try.underlying62
 have HB := ak (Below.refl w.heap.size w)
 have H := h
 unfold impl_Room_isCell.f at H
 clear h
 obtain ⟨AW, AE⟩ : ∃ j_ : Int, (mn (wrap64 (AG)) 10) = j_ := ⟨_, rfl⟩
 first | rw [AE] at H | simp only [AE] at H
 (try (have Ba : AW ≤ 10 := by (rw [← AE]; unfold mn; (repeat' split) <;> omega)))
 (try (have Bc : AW ≤ 64 := by omega))
 have Bf : (if 10 < (wrap64 (AG)) then 10 else (wrap64 (AG))) = AW := AE
 replace H := Option.bind_eq_some_iff.mp H
 obtain ⟨BZ, Bb, H⟩ := H
 have A4 := ak Bb
 clear Bb
 by_cases c5 : BZ = true
 {
 subst c5
 rw [if_pos rfl] at H
 obtain ⟨BT, AK⟩ : ∃ j_ : Int, (mn (wrap64 (AH)) 10) = j_ := ⟨_, rfl⟩
 first | rw [AK] at H | simp only [AK] at H
 (try rw [AK] at A4)
 (try (have Bd : BT ≤ 10 := by (rw [← AK]; unfold mn; (repeat' split) <;> omega)))
 (try (have Bm : BT ≤ 64 := by omega))
 have Bi : (if 10 < (wrap64 (AH)) then 10 else (wrap64 (AH))) = BT := AK
 replace H := Option.bind_eq_some_iff.mp H
 obtain ⟨BY, Bj, H⟩ := H
 have A7 := ak Bj
 clear Bj
 obtain rfl := Option.some.inj H
 go_enter Try.func78, Try.ntmps78
 go_wp2_with (first | ((with_reducible refine gate_dst (N := 2) rfl ?_); (try (refine gate_guard (by rfl) ?_; dsimp only)); refine box_event ?hg (N := 2) ?hd (cs := #[.int .i8 AG, .int .i8 AH, .int .u16 AP, .int .u16 AO, .int .u16 AS, .int .u16 AV, .int .u16 AU, .int .u16 AR, .int .u16 AQ, .int .u16 AT, .int .u16 AI, .int .u16 AJ]) (t := 35) ?hr ?_; (case hd => rfl); (case hg => rfl); (case hr => first | (go_simp; done) | (go_simp; rfl)); intro Af hg w8 hbox hb; have AA := ak (hbox); have Ag := gS HB hg; have AB := gS HB hg; replace HB := kB HB hb; clear hb hbox hg) | ((with_reducible refine gate_dst (N := 3) rfl ?_); (try (refine gate_guard (by rfl) ?_; dsimp only)); refine box_event ?hg (N := 3) ?hd (cs := #[.int .i8 AF, .int .i8 AN]) (t := 62) ?hr ?_; (case hd => rfl); (case hg => rfl); (case hr => first | (go_simp; done) | (go_simp; rfl)); intro Ab hg w9 hbox hb; have AL := ak (hbox); have Ai := gS1 HB AB hg; have AM := gS1 HB AB hg; have AC := nL AA hg; have AD := nG AA hg; replace AA := kK AA hb; replace HB := kB1 HB AB hb; clear hb hbox hg; have Bg := AD.out; have Bh := AC.out; obtain ⟨BO, BH, Ar, A2⟩ := cz2 w9 AL; obtain ⟨BI, BX, BB, Ak, A8, BF, At, BM, BJ, BK, Aa, AX, Av, BR, BE, Aq, A0, Au, Ao, BP, Am, A3, Ae, AZ⟩ := cz12 w9 AA) | ((with_reducible refine gate_callee (f := 64) rfl ?_); refine goesL_ (some 13) rfl rfl Try.func64 (by kernel_rfl) rfl #[.int .i64 (wrap64 (AF)), .int .i64 0, .int .i64 (wrap64 ((AW) - 1))] rfl (by (try simp only [List.map_toArray, List.map_cons, List.map_nil]); first | done | (simp only [AE]; rfl) | rfl | (simp only [List.length_drop, List.length_take]; rfl)) ?_; (with_reducible refine (impl_within.calls (wrap64 (AF)) 0 (wrap64 ((AW) - 1)) true _ A4.out).mono ?_); rintro e w' ⟨rfl, ⟨nd, rfl⟩⟩; refine ⟨_, rfl, ?_⟩) | (go_at_call 64; (with_reducible refine (impl_within.calls (wrap64 (AN)) 0 (wrap64 ((BT) - 1)) BY _ A7.out).mono ?_); rintro e w' ⟨rfl, ⟨nd, rfl⟩⟩))
 go_ret
 exact ⟨by first | rfl | (simp [errW_none, errW_some] <;> rfl) | (simp only [← AE, ← AK]; first | rfl | (simp [errW_none, errW_some] <;> rfl)) | (simp [*, errW_none, errW_some] <;> rfl), zH2 HB AB AM⟩
 }
 {
 replace c5 := Bool.eq_false_iff.mpr c5
 subst c5
 rw [if_neg (show ¬ (false = true) by decide)] at H
 obtain rfl := Option.some.inj H
 go_enter Try.func78, Try.ntmps78
 go_wp2_with (first | ((with_reducible refine gate_dst (N := 2) rfl ?_); (try (refine gate_guard (by rfl) ?_; dsimp only)); refine box_event ?hg (N := 2) ?hd (cs := #[.int .i8 AG, .int .i8 AH, .int .u16 AP, .int .u16 AO, .int .u16 AS, .int .u16 AV, .int .u16 AU, .int .u16 AR, .int .u16 AQ, .int .u16 AT, .int .u16 AI, .int .u16 AJ]) (t := 35) ?hr ?_; (case hd => rfl); (case hg => rfl); (case hr => first | (go_simp; done) | (go_simp; rfl)); intro Af hg Bp hbox hb; have AA := ak (hbox); have Ag := gS HB hg; have AB := gS HB hg; replace HB := kB HB hb; clear hb hbox hg) | ((with_reducible refine gate_dst (N := 3) rfl ?_); (try (refine gate_guard (by rfl) ?_; dsimp only)); refine box_event ?hg (N := 3) ?hd (cs := #[.int .i8 AF, .int .i8 AN]) (t := 62) ?hr ?_; (case hd => rfl); (case hg => rfl); (case hr => first | (go_simp; done) | (go_simp; rfl)); intro Ab hg Bk hbox hb; have AL := ak (hbox); have Ai := gS1 HB AB hg; have AM := gS1 HB AB hg; have AC := nL AA hg; have AD := nG AA hg; replace AA := kK AA hb; replace HB := kB1 HB AB hb; clear hb hbox hg; have Bl := AD.out; have Be := AC.out; obtain ⟨BQ, Ay, BU, BV⟩ := cz2 Bk AL; obtain ⟨A9, Aw, Ap, An, As, A6, A5, Al, BW, BN, Ad, Ac, BC, Az, BA, BS, Ax, A1, BL, Aj, BD, BG, Ah, AY⟩ := cz12 Bk AA) | ((with_reducible refine gate_callee (f := 64) rfl ?_); refine goesL_ (some 13) rfl rfl Try.func64 (by kernel_rfl) rfl #[.int .i64 (wrap64 (AF)), .int .i64 0, .int .i64 (wrap64 ((AW) - 1))] rfl (by (try simp only [List.map_toArray, List.map_cons, List.map_nil]); first | done | (simp only [AE]; rfl) | rfl | (simp only [List.length_drop, List.length_take]; rfl)) ?_; (with_reducible refine (impl_within.calls (wrap64 (AF)) 0 (wrap64 ((AW) - 1)) false _ A4.out).mono ?_); rintro e w' ⟨rfl, ⟨nd, rfl⟩⟩; refine ⟨_, rfl, ?_⟩))
 go_ret
 exact ⟨by first | rfl | (simp [errW_none, errW_some] <;> rfl) | (simp only [← AE]; first | rfl | (simp [errW_none, errW_some] <;> rfl)) | (simp [*, errW_none, errW_some] <;> rfl), zH2 HB AB AM⟩
 }
/-! ### impl_cellCode_1: function 77 -/
def impl_cellCode_1.f (AJ : Int) (AL : Int) (AG : Int) (AK : Int) (AC : Int) (AI : Int) (AO : Int) (AD : Int) (AN : Int) (AH : Int) (AF : Int) (AM : Int) (AB : Int) (AA : Int) : Option (Bool) := (impl_Room_isCell.f AG AK AC AI AO AD AN AH AF AM AB AA AJ AL).bind fun AE => (some (!AE))
set_option maxHeartbeats 8000000 in
set_option maxRecDepth 100000 in
theorem impl_cellCode_1.calls (AD : Int) (AE : Int) (b1 : Nat) (AM : Int) (AO : Int) (AK : Int) (AL : Int) (AQ : Int) (AG : Int) (AP : Int) (AI : Int) (AN : Int) (AH : Int) (AA : Int) (AB : Int) (r : Bool) (w : World) (Az : w.heap[b1]? = some (.cells #[.int .i8 AM, .int .i8 AO, .int .u16 AK, .int .u16 AL, .int .u16 AQ, .int .u16 AG, .int .u16 AP, .int .u16 AI, .int .u16 AN, .int .u16 AH, .int .u16 AA, .int .u16 AB] 35 (0, 0))) (h : impl_cellCode_1.f AD AE AM AO AK AL AQ AG AP AI AN AH AA AB = some r) :
    Calls Try.prog 77 #[.agg #[.int .i8 AD, .int .i8 AE], .pointer (some ⟨b1, 0, none⟩)] w fun e w' => e = .returned (.bool r) ∧ Below w.heap.size w w' := by
 have A4 := Try.underlying62
 have A2 := Try.underlying35
 have AS := ak Az
 clear Az
 have HB := ak (Below.refl w.heap.size w)
 have H := h
 unfold impl_cellCode_1.f at H
 clear h
 replace H := Option.bind_eq_some_iff.mp H
 obtain ⟨Au, Ay, H⟩ := H
 have A3 := ak Ay
 clear Ay
 obtain rfl := Option.some.inj H
 go_enter Try.func77, Try.ntmps77
 go_wp2_with (first | ((with_reducible refine gate_dst (N := 2) rfl ?_); refine box_event ?hg (N := 2) ?hd (cs := #[.int .i8 AD, .int .i8 AE]) (t := 62) ?hr ?_; (case hd => rfl); (case hg => rfl); (case hr => first | (go_simp; done) | (go_simp; rfl)); intro Ax hg w4 hbox hb; have AC := ak (hbox); have Aw := gS HB hg; have AR := gS HB hg; have AJ := nL AS hg; have AF := nG AS hg; replace AS := kK AS hb; replace HB := kB HB hb; clear hb hbox hg; have A1 := AJ.out; have A0 := AF.out; obtain ⟨Ae, AY, Al, Af, As, Av, Aq, Ac, An, Am, AW, AV, AX, Ai, Ao, Aa, At, Ak, Ap, AZ, Aj, Ab, AU, AT⟩ := cz12 w4 AS; obtain ⟨Ag, Ad, Ar, Ah⟩ := cz2 w4 AC) | ((with_reducible refine gate_callee (f := 78) rfl ?_); refine goesL_ (some 6) rfl rfl Try.func78 (by kernel_rfl) rfl #[.agg #[.int .i8 AM, .int .i8 AO, .int .u16 AK, .int .u16 AL, .int .u16 AQ, .int .u16 AG, .int .u16 AP, .int .u16 AI, .int .u16 AN, .int .u16 AH, .int .u16 AA, .int .u16 AB], .agg #[.int .i8 AD, .int .i8 AE]] rfl gl_ ?_; (with_reducible refine (impl_Room_isCell.calls AM AO AK AL AQ AG AP AI AN AH AA AB AD AE Au _ A3.out).mono ?_); rintro e w8 ⟨rfl, hb⟩; refine ⟨_, rfl, ?_⟩; replace AS := kK AS hb; replace AC := kK AC hb; replace HB := kB1 HB AR hb; (try clear hb)))
 go_ret
 exact ⟨rfl, zBG HB.out AR.out⟩
end Go.Proofs.Ytooidjdgfoioiaa.P
