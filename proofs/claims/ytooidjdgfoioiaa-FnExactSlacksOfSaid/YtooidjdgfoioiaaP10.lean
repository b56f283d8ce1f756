-- Printed by wip/print (my turned copy of the kit's print) out of the translation; Lean checks it.
import Derived.Test.YtooidjdgfoioiaaP0
import Derived.Test.YtooidjdgfoioiaaP7
import Derived.Test.YtooidjdgfoioiaaP9
namespace Go.Proofs.Ytooidjdgfoioiaa.P
open Go.RowKit Go.Proofs.YtooidjdgfoioiaaW.PrintWords Go.Proofs.YtooidjdgfoioiaaW.PrintLast Go.Proofs.YtooidjdgfoioiaaW.PrintMore
attribute [local go_sem] max2_int min2_int max_two min_two max_three min_three max_four min_four   -- for this text's walks alone
set_option linter.unusedVariables false
set_option linter.unusedSimpArgs false

/-! ### impl_StepsBetween: function 79 -/
def toS (p : Int × Int) : S62 := ⟨p.1, p.2⟩
theorem alloc_size_ (w : World) (o : Obj) : (w.alloc o).heap.size = w.heap.size + 1 := by rw [World.alloc]; simp only [Array.size_push]
theorem spot_row (W : World) (base : Nat) (ok : Nat → Prop) (x y : Int) (hb : base ≤ W.heap.size) (hok : ok W.heap.size) : Kd.R k62 62 (W.alloc (.cells #[.int .i8 x, .int .i8 y] 62)) base ok (.slice (some ⟨W.heap.size, 0, none⟩) 1 1) [(⟨x, y⟩ : S62)] := by
  refine ⟨fun k hk => ?_, [.int .i8 x, .int .i8 y], ?_, ?_⟩
  · have : W.heap.size = k := by simpa [Value.ownBlock] using hk
    subst this
    exact hok
  · have h2 := World.ownsRow_lit (base := base) (e := 62) (size := 2) W #[.int .i8 x, .int .i8 y] 1 hb (by simp [maxLen]) (by simp)
    exact (by simpa using h2 : (W.alloc (Obj.cells #[Value.int IntKind.i8 x, Value.int IntKind.i8 y] 62)).ownsRow base 62 2 (Value.slice (some { block := W.heap.size, off := 0 }) 1 1) 1 [Value.int IntKind.i8 x, Value.int IntKind.i8 y])
  · exact Reps.c2 (k62_mkM _ _ _ (⟨x, y⟩ : S62)) (Reps.none _ _)
theorem R62re {w : World} {base : Nat} {ok ok' : Nat → Prop} {v : Value} {xs : List S62} (h : Kd.R k62 62 w base ok v xs) (h2 : ∀ k, v.ownBlock = some k → ok' k) : Kd.R k62 62 w base ok' v xs := ⟨h2, h.2.imp_ (fun x cs hp => by have := k62_openM hp; subst this; exact k62_mkM _ _ _ _)⟩
/-- What stands behind region 1 of 'steps': the map with its first spot, the queue with it. -/
def St1 (w : World) (room : Array Value) (a : Int × Int) (b g : Nat) (W : World) : Prop :=
  (∃ D, W.ownsMap Try.prog 62 (plainElem (H := Unit) Try.prog 2) b 1 D ∧ H.FarD D (H.farPut (fun _ => none) a 0)) ∧ Kd.R k62 62 W w.heap.size (fun k => k ≠ b) (.slice (some ⟨g, 0, none⟩) 1 1) [toS a] ∧ W.heap[w.heap.size]? = some (.cells room 35 (0, 0)) ∧ Below w.heap.size w W ∧ w.heap.size ≤ b
theorem ins0 {W : World} {b : Nat} (a : Int × Int) (ha : H.inG a = true) (h : W.ownsMap Try.prog 62 (plainElem (H := Unit) Try.prog 2) b 0 (.map [])) : ∃ W', (Instr.mapUpdate 132 (.map (some b)) (.agg #[.int .i8 a.1, .int .i8 a.2]) (.int .i64 0)).run Try.prog W = .ok () W' ∧ (∃ D, W'.ownsMap Try.prog 62 (plainElem (H := Unit) Try.prog 2) b 1 D ∧ H.FarD D (H.farPut (fun _ => none) a 0)) ∧ W.grownBy W' (some b) := by
  obtain ⟨W', hrun, h1, h2⟩ := h.update H.spotKeyed Try.underlying132 (by simp [maxLen]) (H.keyG ha) (plainElem_int Try.underlying2 (show (Lit.int .i64 0).wf = true by decide))
  exact ⟨W', hrun, ⟨_, h1, H.FarD.put H.FarD.nil h.isMap ha 0⟩, h2⟩
set_option maxHeartbeats 8000000 in
set_option maxRecDepth 1000000 in
theorem steps_calls (r0 r1 r2 r3 r4 r5 r6 r7 r8 r9 r10 r11 : Int) (bes : Int × Int → Option (List (Int × Int)))
    (hbes : ∀ W s nx, bes s = some nx → Calls Try.prog 100 #[.agg #[.int .i8 r0, .int .i8 r1, .int .u16 r2, .int .u16 r3, .int .u16 r4, .int .u16 r5, .int .u16 r6, .int .u16 r7, .int .u16 r8, .int .u16 r9, .int .u16 r10, .int .u16 r11], .agg #[.int .i8 s.1, .int .i8 s.2]] W fun e w' => ∃ v, e = .returned v ∧ Kd.R k62 62 w' W.heap.size (fun _ => True) v (nx.map toS) ∧ Below W.heap.size W w')
    (k : Nat) (a : Int × Int) (R : Int × Int → Option Int) (hR : Go.Proofs.Ytooidjdgfoioiaa.H.bfsFrom bes k a = some R) (w : World) :
    Calls Try.prog 93 #[.agg #[.int .i8 r0, .int .i8 r1, .int .u16 r2, .int .u16 r3, .int .u16 r4, .int .u16 r5, .int .u16 r6, .int .u16 r7, .int .u16 r8, .int .u16 r9, .int .u16 r10, .int .u16 r11], .agg #[.int .i8 a.1, .int .i8 a.2]] w fun e w' => ∃ b, e = .returned (.map (some b)) ∧ (∃ n D, w'.ownsMap Try.prog 62 (plainElem (H := Unit) Try.prog 2) b n D ∧ Go.Proofs.Ytooidjdgfoioiaa.H.FarD D R) ∧ Below w.heap.size w w' := by
  have hu35 := Try.underlying35
  have hu62 := Try.underlying62
  go_enter Try.func93, Try.ntmps93
  have hB0 : Below w.heap.size w ((w.alloc (.cells #[.int .i8 r0, .int .i8 r1, .int .u16 r2, .int .u16 r3, .int .u16 r4, .int .u16 r5, .int .u16 r6, .int .u16 r7, .int .u16 r8, .int .u16 r9, .int .u16 r10, .int .u16 r11] 35)).alloc (.cells #[.int .i8 a.1, .int .i8 a.2] 62)) := Below.alloc (Below.alloc (Below.refl _ _) (Nat.le_refl _) _) (Below.alloc (Below.refl _ _) (Nat.le_refl _) _).size _
  have hb2 : ((w.alloc (.cells #[.int .i8 r0, .int .i8 r1, .int .u16 r2, .int .u16 r3, .int .u16 r4, .int .u16 r5, .int .u16 r6, .int .u16 r7, .int .u16 r8, .int .u16 r9, .int .u16 r10, .int .u16 r11] 35)).alloc (.cells #[.int .i8 a.1, .int .i8 a.2] 62)).heap[w.heap.size]? = some (.cells #[.int .i8 r0, .int .i8 r1, .int .u16 r2, .int .u16 r3, .int .u16 r4, .int .u16 r5, .int .u16 r6, .int .u16 r7, .int .u16 r8, .int .u16 r9, .int .u16 r10, .int .u16 r11] 35 (0, 0)) := (Below.heap_alloc _ _ _ (by rw [alloc_size_]; omega)).trans (heap_alloc_new w _)
  have hb3 : ((w.alloc (.cells #[.int .i8 r0, .int .i8 r1, .int .u16 r2, .int .u16 r3, .int .u16 r4, .int .u16 r5, .int .u16 r6, .int .u16 r7, .int .u16 r8, .int .u16 r9, .int .u16 r10, .int .u16 r11] 35)).alloc (.cells #[.int .i8 a.1, .int .i8 a.2] 62)).heap[w.heap.size + 1]? = some (.cells #[.int .i8 a.1, .int .i8 a.2] 62 (0, 0)) := by
    have h := heap_alloc_new (w.alloc (.cells #[.int .i8 r0, .int .i8 r1, .int .u16 r2, .int .u16 r3, .int .u16 r4, .int .u16 r5, .int .u16 r6, .int .u16 r7, .int .u16 r8, .int .u16 r9, .int .u16 r10, .int .u16 r11] 35)) (.cells #[.int .i8 a.1, .int .i8 a.2] 62)
    rw [alloc_size_] at h
    exact h
  have ha : H.inG a = true := by
    unfold H.bfsFrom at hR
    by_cases c : H.inG a = true
    · exact c
    · rw [if_neg c] at hR; cases hR
  have hV : Hid (H.bfs bes k 0 [a] (H.farPut (fun _ => none) a 0) = some R) := by
    unfold H.bfsFrom at hR
    rw [if_pos ha] at hR
    exact hR
  clear hR
  obtain ⟨a1, a2⟩ := a
  dsimp only at *
  go_wp2
  generalize ((w.alloc (.cells #[.int .i8 r0, .int .i8 r1, .int .u16 r2, .int .u16 r3, .int .u16 r4, .int .u16 r5, .int .u16 r6, .int .u16 r7, .int .u16 r8, .int .u16 r9, .int .u16 r10, .int .u16 r11] 35)).alloc (.cells #[.int .i8 a1, .int .i8 a2] 62)) = W0 at hB0 hb2 hb3 ⊢
  refine start_ (n := 8) (S := fun w' => w'.cell? ⟨w.heap.size + 1, 0, none⟩ = some (.int .i8 a1) ∧ w'.cell? ⟨w.heap.size + 1, 1, none⟩ = some (.int .i8 a2)) (ds := []) (bA 8 0) (by kernel_rfl) rfl rfl ⟨(blk_cell (blk_drew hb3) 0).trans rfl, (blk_cell (blk_drew hb3) 1).trans rfl⟩ (fun hHeld => ?_)
  replace hB0 := below_drew1 hB0
  replace hb2 := blk_drew hb2
  replace hb3 := blk_drew hb3
  generalize W0.drew = W1 at hB0 hb2 hb3 hHeld ⊢
  refine take_ (i := 1) (N := some 13) (v := ?_) (a' := ?_) (bA 8 2) rfl rfl (by kernel_rfl) (fun _ _ _ h => h) (Or.inl ⟨by rfl, ?_⟩) hHeld ?_ ?_
  rotate_left
  · rintro w' ⟨s0, s1⟩
    go_simp
    with_reducible rfl
  rotate_left
  · simp only [Act.put, zs, zz, zk]; rfl
  refine take_ (i := 4) (N := some 15) (v := ?_) (a' := ?_) (bA 8 18) rfl rfl (by kernel_rfl) (fun _ _ _ h => h) (Or.inl ⟨by rfl, ?_⟩) hHeld ?_ ?_
  rotate_left
  · rintro w' ⟨s0, s1⟩
    go_simp
    with_reducible rfl
  rotate_left
  · simp only [Act.put, zs, zz, zk]; rfl
  refine join_ (σ := Nat × Nat) 1 #[true, true, true, true, true, true, true, false] (fun s_ => [(12, .map (some s_.1)), (16, .slice (some ⟨s_.2, 0, none⟩) 1 1), (14, .map (some s_.1)), (5, .map (some s_.1))]) (fun s_ w' => St1 w #[.int .i8 r0, .int .i8 r1, .int .u16 r2, .int .u16 r3, .int .u16 r4, .int .u16 r5, .int .u16 r6, .int .u16 r7, .int .u16 r8, .int .u16 r9, .int .u16 r10, .int .u16 r11] (a1, a2) s_.1 s_.2 w') ?_ ?_
  rotate_left
  · intro hCont
    have held : ∀ W' : World, W'.heap[w.heap.size + 1]? = some (.cells #[.int .i8 a1, .int .i8 a2] 62 (0, 0)) → W'.cell? ⟨w.heap.size + 1, 0, none⟩ = some (.int .i8 a1) ∧ W'.cell? ⟨w.heap.size + 1, 1, none⟩ = some (.int .i8 a2) := fun W' h => ⟨(blk_cell h 0).trans rfl, (blk_cell h 1).trans rfl⟩
    have hl3 := blk_lt hb3
    refine two_ (i := 0) (j := 5) (Ni := some 12) (Nj := some 16) #[true, true, false, false, true, false, false, false] #[false, true, false, false, true, true, false, false] rfl rfl rfl rfl (by kernel_rfl) (by decide) (by decide) (fun K hK => ?_) (fun K hK => ?_)
    · refine event_step (by rfl) (v := .map (some W1.heap.size)) (w1 := W1.alloc (.map #[] 0)) rfl ?_
      have hO := World.ownsMap_made W1 Try.prog 62 (plainElem (H := Unit) Try.prog 2)
      have hb2' := blk_alloc hb2 (.map #[] 0)
      have hb3' := blk_alloc hb3 (.map #[] 0)
      have hB' := Below.alloc hB0 hB0.size (.map #[] 0)
      have hbw := hB0.size
      obtain ⟨b, hb⟩ : ∃ b, b = W1.heap.size := ⟨_, rfl⟩
      have hsz : (W1.alloc (.map #[] 0)).heap.size = b + 1 := by rw [alloc_size_, hb]
      rw [← hb] at hO hbw hl3 ⊢
      refine hK.out _ _ (held _ hb3') (fun hHeld2 => ?_)
      generalize W1.alloc (.map #[] 0) = W2 at hO hb2' hb3' hB' hsz ⊢
      clear hK K hb hb2 hb3 hB0 hHeld
      refine norm_ (a' := ?_) ?_ ?_
      rotate_left
      · show Act.put _ (some 12) _ = _
        simp only [Act.put, zs, zz, zk]
        rfl
      refine two_ (i := 2) (j := 5) (Ni := none) (Nj := some 16) #[true, true, true, false, true, false, false, false] #[true, true, false, false, true, true, false, false] rfl rfl rfl rfl (by kernel_rfl) (by decide) (by decide) (fun K hK => ?_) (fun K hK => ?_)
      ·
        obtain ⟨W3, hrun, ⟨D, hO3, hD3⟩, hg3⟩ := ins0 (a1, a2) ha hO
        have hb2n := blk_grown hb2' hg3 (fun z => by have := Option.some.inj z; omega)
        have hb3n := blk_grown hb3' hg3 (fun z => by have := Option.some.inj z; omega)
        have hBn := hB'.grown hg3 hB'.size (fun k hk => by have := Option.some.inj hk; omega)
        have hlt3 := hO3.lt
        rw [if_pos (by rfl)]
        unfold Oper.wp
        go_simp
        refine hK.out _ _ (held _ hb3n) (fun hHeld3 => ?_)
        clear hK K
        refine pure_ (i := 3) (N := some 14) (v := ?_) (a' := ?_) (bA 8 31) rfl rfl (by kernel_rfl) (fun _ _ _ h => h) (Or.inl ⟨by rfl, ?_⟩) ?_ ?_
        rotate_left
        · intro w'
          go_simp
          with_reducible rfl
        rotate_left
        · simp only [Act.put, zs, zz, zk]; rfl
        refine pure_ (i := 6) (N := some 5) (v := ?_) (a' := ?_) (bA 8 95) rfl rfl (by kernel_rfl) (fun _ _ _ h => h) (Or.inl ⟨by rfl, ?_⟩) ?_ ?_
        rotate_left
        · intro w'
          go_simp
          with_reducible rfl
        rotate_left
        · simp only [Act.put, zs, zz, zk]; rfl
        refine one_ (i := 5) (N := some 16) (bA 8 127) rfl rfl (by kernel_rfl) (by decide) (fun K hK => ?_)
        refine event_step (by rfl) (v := .slice (some ⟨W3.heap.size, 0, none⟩) 1 1) (w1 := W3.alloc (.cells #[.int .i8 a1, .int .i8 a2] 62)) (by first | (go_simp; done) | (go_simp; rfl)) ?_
        refine hK.out _ _ (held _ (blk_alloc hb3n _)) (fun hHeld4 => ?_)
        clear hK K
        have hC := hCont (b, W3.heap.size) _ ⟨⟨D, H.map_below hO3 (Below.alloc (Below.refl _ _) (Nat.le_refl _) _), hD3⟩, spot_row W3 _ _ a1 a2 hBn.size (by show W3.heap.size ≠ b; omega), blk_alloc hb2n _, Below.alloc hBn hBn.size _, hbw⟩
        simp only [putAll, Act.put, zs, zz, zk] at hC ⊢
        exact hC
      · refine event_step (by rfl) (v := .slice (some ⟨W2.heap.size, 0, none⟩) 1 1) (w1 := W2.alloc (.cells #[.int .i8 a1, .int .i8 a2] 62)) (by first | (go_simp; done) | (go_simp; rfl)) ?_
        have hrow := spot_row W2 w.heap.size (fun k => k ≠ b) a1 a2 hB'.size (by show W2.heap.size ≠ b; omega)
        replace hO := H.map_below hO (Below.alloc (Below.refl _ _) (Nat.le_refl _) (.cells #[.int .i8 a1, .int .i8 a2] 62))
        replace hb2' := blk_alloc hb2' (.cells #[.int .i8 a1, .int .i8 a2] 62)
        replace hb3' := blk_alloc hb3' (.cells #[.int .i8 a1, .int .i8 a2] 62)
        replace hB' := Below.alloc hB' hB'.size (.cells #[.int .i8 a1, .int .i8 a2] 62)
        have hgb : W2.heap.size ≠ b := by omega
        obtain ⟨g, hg⟩ : ∃ g, g = W2.heap.size := ⟨_, rfl⟩
        rw [← hg] at hrow hgb ⊢
        refine hK.out _ _ (held _ hb3') (fun hHeld3 => ?_)
        generalize W2.alloc (.cells #[.int .i8 a1, .int .i8 a2] 62) = W2b at hO hb2' hb3' hB' hrow ⊢
        clear hK K hg hsz
        refine norm_ (a' := ?_) ?_ ?_
        rotate_left
        · show Act.put _ (some 16) _ = _
          simp only [Act.put, zs, zz, zk]
          rfl
        refine one_ (i := 2) (N := none) (bA 8 55) rfl rfl (by kernel_rfl) (by decide) (fun K hK => ?_)
        obtain ⟨W3, hrun, ⟨D, hO3, hD3⟩, hg3⟩ := ins0 (a1, a2) ha hO
        have hb2n := blk_grown hb2' hg3 (fun z => by have := Option.some.inj z; omega)
        have hb3n := blk_grown hb3' hg3 (fun z => by have := Option.some.inj z; omega)
        have hBn := hB'.grown hg3 hB'.size (fun k hk => by have := Option.some.inj hk; omega)
        have hlt3 := hO3.lt
        rw [if_pos (by rfl)]
        unfold Oper.wp
        go_simp
        refine hK.out _ _ (held _ hb3n) (fun hHeld3 => ?_)
        clear hK K
        have hrow3 := Kd.R_grown hrow hg3 (fun k hk z => hk (Option.some.inj z))
        refine pure_ (i := 3) (N := some 14) (v := ?_) (a' := ?_) (bA 8 63) rfl rfl (by kernel_rfl) (fun _ _ _ h => h) (Or.inl ⟨by rfl, ?_⟩) ?_ ?_
        rotate_left
        · intro w'
          go_simp
          with_reducible rfl
        rotate_left
        · simp only [Act.put, zs, zz, zk]; rfl
        refine pure_ (i := 6) (N := some 5) (v := ?_) (a' := ?_) (bA 8 127) rfl rfl (by kernel_rfl) (fun _ _ _ h => h) (Or.inl ⟨by rfl, ?_⟩) ?_ ?_
        rotate_left
        · intro w'
          go_simp
          with_reducible rfl
        rotate_left
        · simp only [Act.put, zs, zz, zk]; rfl
        have hC := hCont (b, g) _ ⟨⟨D, hO3, hD3⟩, hrow3, hb2n, hBn, hbw⟩
        simp only [putAll, Act.put, zs, zz, zk] at hC ⊢
        exact hC
    · refine event_step (by rfl) (v := .slice (some ⟨W1.heap.size, 0, none⟩) 1 1) (w1 := W1.alloc (.cells #[.int .i8 a1, .int .i8 a2] 62)) (by first | (go_simp; done) | (go_simp; rfl)) ?_
      have hs2 : (W1.alloc (.cells #[.int .i8 a1, .int .i8 a2] 62)).heap.size = W1.heap.size + 1 := alloc_size_ _ _
      have hrow := spot_row W1 w.heap.size (fun k => k ≠ W1.heap.size + 1) a1 a2 hB0.size (by show W1.heap.size ≠ W1.heap.size + 1; omega)
      replace hb2 := blk_alloc hb2 (.cells #[.int .i8 a1, .int .i8 a2] 62)
      replace hb3 := blk_alloc hb3 (.cells #[.int .i8 a1, .int .i8 a2] 62)
      replace hB0 := Below.alloc hB0 hB0.size (.cells #[.int .i8 a1, .int .i8 a2] 62)
      obtain ⟨g, hg⟩ : ∃ g, g = W1.heap.size := ⟨_, rfl⟩
      rw [← hg] at hrow hs2 hl3 ⊢
      refine hK.out _ _ (held _ hb3) (fun hHeld2 => ?_)
      generalize W1.alloc (.cells #[.int .i8 a1, .int .i8 a2] 62) = W2 at hb2 hb3 hB0 hrow hs2 ⊢
      clear hK K hg hHeld
      refine norm_ (a' := ?_) ?_ ?_
      rotate_left
      · show Act.put _ (some 16) _ = _
        simp only [Act.put, zs, zz, zk]
        rfl
      refine one_ (i := 0) (N := some 12) (bA 8 51) rfl rfl (by kernel_rfl) (by decide) (fun K hK => ?_)
      refine event_step (by rfl) (v := .map (some W2.heap.size)) (w1 := W2.alloc (.map #[] 0)) rfl ?_
      have hO := World.ownsMap_made W2 Try.prog 62 (plainElem (H := Unit) Try.prog 2)
      have hb2' := blk_alloc hb2 (.map #[] 0)
      have hb3' := blk_alloc hb3 (.map #[] 0)
      have hB' := Below.alloc hB0 hB0.size (.map #[] 0)
      have hbw := hB0.size
      have hrow2 := Kd.R_alloc hrow (.map #[] 0)
      rw [← hs2] at hrow2
      obtain ⟨b, hb⟩ : ∃ b, b = W2.heap.size := ⟨_, rfl⟩
      rw [← hb] at hO hbw hs2 hrow2 ⊢
      replace hl3 : w.heap.size + 1 < b := by omega
      clear hs2
      refine hK.out _ _ (held _ hb3') (fun hHeld3 => ?_)
      generalize W2.alloc (.map #[] 0) = W2b at hO hb2' hb3' hB' hrow2 ⊢
      clear hK K hb hb2 hb3 hB0 hrow hHeld2
      refine norm_ (a' := ?_) ?_ ?_
      rotate_left
      · show Act.put _ (some 12) _ = _
        simp only [Act.put, zs, zz, zk]
        rfl
      refine one_ (i := 2) (N := none) (bA 8 55) rfl rfl (by kernel_rfl) (by decide) (fun K hK => ?_)
      obtain ⟨W3, hrun, ⟨D, hO3, hD3⟩, hg3⟩ := ins0 (a1, a2) ha hO
      have hb2n := blk_grown hb2' hg3 (fun z => by have := Option.some.inj z; omega)
      have hb3n := blk_grown hb3' hg3 (fun z => by have := Option.some.inj z; omega)
      have hBn := hB'.grown hg3 hB'.size (fun k hk => by have := Option.some.inj hk; omega)
      have hlt3 := hO3.lt
      rw [if_pos (by rfl)]
      unfold Oper.wp
      go_simp
      refine hK.out _ _ (held _ hb3n) (fun hHeld3 => ?_)
      clear hK K
      have hrow3 := Kd.R_grown hrow2 hg3 (fun k hk z => hk (Option.some.inj z))
      refine pure_ (i := 3) (N := some 14) (v := ?_) (a' := ?_) (bA 8 63) rfl rfl (by kernel_rfl) (fun _ _ _ h => h) (Or.inl ⟨by rfl, ?_⟩) ?_ ?_
      rotate_left
      · intro w'
        go_simp
        with_reducible rfl
      rotate_left
      · simp only [Act.put, zs, zz, zk]; rfl
      refine pure_ (i := 6) (N := some 5) (v := ?_) (a' := ?_) (bA 8 127) rfl rfl (by kernel_rfl) (fun _ _ _ h => h) (Or.inl ⟨by rfl, ?_⟩) ?_ ?_
      rotate_left
      · intro w'
        go_simp
        with_reducible rfl
      rotate_left
      · simp only [Act.put, zs, zz, zk]; rfl
      have hC := hCont (b, g) _ ⟨⟨D, hO3, hD3⟩, hrow3, hb2n, hBn, hbw⟩
      simp only [putAll, Act.put, zs, zz, zk] at hC ⊢
      exact hC
  rintro ⟨b, g⟩ W4 ⟨⟨D, hO, hD⟩, hrow, hb2n, hBn, hbw⟩
  clear hb2 hb3 hB0 hHeld
  simp only [putAll, Act.put, zs, zz, zk]
  refine pure_ (i := 7) (N := some 6) (v := ?_) (a' := ?_) (bA 8 255) rfl rfl (by kernel_rfl) (fun _ _ _ h => h) (Or.inl ⟨by rfl, ?_⟩) ?_ ?_
  rotate_left
  · intro w'
    go_simp
    with_reducible rfl
  rotate_left
  · simp only [Act.put, zs, zz, zk]; rfl
  refine done_ (by kernel_rfl) ?_
  dsimp only at hO hrow hbw
  go_wp2
  go_loopg [6, 7] k (fun kq v6 v7 wr => ∃ (kk i : Nat) (l : List (Int × Int)) (M : Int × Int → Option Int) (D : DataW Unit), v7 = .int .i64 (i : Int) ∧ kk ≤ kq ∧ i ≤ l.length ∧ Hid (H.bfs bes kk i l M = some R) ∧ l.length ≤ 1000 ∧ H.FarOk M l.length ∧ H.FarD D M ∧ wr.ownsMap Try.prog 62 (plainElem (H := Unit) Try.prog 2) b l.length D ∧ Kd.R k62 62 wr w.heap.size (fun k => k ≠ b) v6 (l.map toS) ∧ wr.heap[w.heap.size]? = some (.cells #[.int .i8 r0, .int .i8 r1, .int .u16 r2, .int .u16 r3, .int .u16 r4, .int .u16 r5, .int .u16 r6, .int .u16 r7, .int .u16 r8, .int .u16 r9, .int .u16 r10, .int .u16 r11] 35 (0, 0)) ∧ Below w.heap.size w wr)
  case atStart => exact ⟨k, 0, [(a1, a2)], _, D, rfl, Nat.le_refl _, Nat.zero_le _, hV, by simp, H.FarOk.one ha, hD, hO, hrow, hb2n, hBn⟩
  case round =>
    clear hD hO hrow hb2n hBn hV D
    obtain ⟨kk, i, l, M, D, rfl, hk, hi, hV, hl, hMo, hMD, hO, hrow, hb2, hB⟩ := hrel
    cases kk with
    | zero => exact absurd hV (by simp [H.bfs, Hid])
    | succ kk =>
      have hV2 : (if h : i < l.length then (bes l[i]).bind fun nx => (H.bfsIn l[i] nx l M).bind fun p => H.bfs bes kk (i + 1) p.1 p.2 else some M) = some R := hV
      clear hV
      obtain ⟨A6, c6, rfl⟩ := Kd.R_slice hrow
      rw [List.length_map] at hrow ⊢
      by_cases c : i < l.length
      · rw [dif_pos c] at hV2
        obtain ⟨nx, hnx, hV3⟩ := Option.bind_eq_some_iff.1 hV2
        obtain ⟨⟨l2, M2⟩, hin, hV4⟩ := Option.bind_eq_some_iff.1 hV3
        clear hV2 hV3
        have f1 : ((i : Int) < (l.length : Int)) = True := eq_true (by omega)
        have f2 : (0 ≤ (i : Int)) = True := eq_true (by omega)
        obtain ⟨ad, e_, hx0, hx1⟩ := at_T62 (Kd.R_reads' hrow).2.2 (i : Int) (by omega) (by rw [List.length_map]; omega)
        subst e_
        have hrd : rd_T62 (l.map toS) (i : Int) = toS l[i] := by simp [rd_T62, List.getD_eq_getElem?_getD, c]
        rw [hrd] at hx0 hx1
        generalize hcur : l[i] = cur at hnx hin hx0 hx1 hrd
        obtain ⟨cx, cy⟩ := cur
        dsimp only [toS] at hx0 hx1
        rw [Int.toNat_natCast] at hx0 hx1
        go_wp2
        refine start_ (n := 8) (S := fun w' => w'.heap[w.heap.size]? = some (.cells #[.int .i8 r0, .int .i8 r1, .int .u16 r2, .int .u16 r3, .int .u16 r4, .int .u16 r5, .int .u16 r6, .int .u16 r7, .int .u16 r8, .int .u16 r9, .int .u16 r10, .int .u16 r11] 35 (0, 0)) ∧ w'.cell? (ad.add (i * 2)) = some (.int .i8 cx) ∧ w'.cell? ⟨(ad.add (i * 2)).block, (ad.add (i * 2)).off + 1, none⟩ = some (.int .i8 cy)) (ds := []) (bA 8 0) (by kernel_rfl) rfl rfl ⟨blk_drew hb2, hx0, hx1⟩ (fun hHeld => ?_)
        replace hO := H.map_block (w1 := wr.drew) hO rfl
        replace hrow := Kd.R_drew hrow
        replace hb2 := blk_drew hb2
        replace hB := below_drew1 hB
        generalize wr.drew = W1 at hO hrow hb2 hB hHeld ⊢
        refine pure_ (i := 1) (N := some 24) (v := ?_) (a' := ?_) (bA 8 2) rfl rfl (by kernel_rfl) (fun _ _ _ h => h) (Or.inl ⟨by rfl, ?_⟩) ?_ ?_
        rotate_left
        · intro w'
          go_simp
          with_reducible rfl
        rotate_left
        · simp only [Act.put, zs, zz, zk]; rfl
        refine pure_ (i := 2) (N := some 25) (v := ?_) (a' := ?_) (bA 8 6) rfl rfl (by kernel_rfl) (fun _ _ _ h => h) (Or.inl ⟨by rfl, ?_⟩) ?_ ?_
        rotate_left
        · intro w'
          go_simp
          with_reducible rfl
        rotate_left
        · simp only [Act.put, zs, zz, zk]; rfl
        refine pure_ (i := 7) (N := some 30) (v := ?_) (a' := ?_) (bA 8 134) rfl rfl (by kernel_rfl) (fun _ _ _ h => h) (Or.inl ⟨by rfl, ?_⟩) ?_ ?_
        rotate_left
        · intro w'
          go_simp
          with_reducible rfl
        rotate_left
        · simp only [Act.put, zs, zz, zk]; rfl
        refine take_ (i := 0) (N := some 23) (v := ?_) (a' := ?_) (bA 8 135) rfl rfl (by kernel_rfl) (fun _ _ _ h => h) (Or.inl ⟨by rfl, ?_⟩) hHeld ?_ ?_
        rotate_left
        · rintro w' ⟨s0, s1, s2⟩; have q0 : w'.cell? ⟨w.heap.size, 0, none⟩ = some (.int .i8 r0) := (blk_cell s0 0).trans rfl; have q1 : w'.cell? ⟨w.heap.size, 1, none⟩ = some (.int .i8 r1) := (blk_cell s0 1).trans rfl; have q2 : w'.cell? ⟨w.heap.size, 2, none⟩ = some (.int .u16 r2) := (blk_cell s0 2).trans rfl; have q3 : w'.cell? ⟨w.heap.size, 3, none⟩ = some (.int .u16 r3) := (blk_cell s0 3).trans rfl; have q4 : w'.cell? ⟨w.heap.size, 4, none⟩ = some (.int .u16 r4) := (blk_cell s0 4).trans rfl; have q5 : w'.cell? ⟨w.heap.size, 5, none⟩ = some (.int .u16 r5) := (blk_cell s0 5).trans rfl; have q6 : w'.cell? ⟨w.heap.size, 6, none⟩ = some (.int .u16 r6) := (blk_cell s0 6).trans rfl; have q7 : w'.cell? ⟨w.heap.size, 7, none⟩ = some (.int .u16 r7) := (blk_cell s0 7).trans rfl; have q8 : w'.cell? ⟨w.heap.size, 8, none⟩ = some (.int .u16 r8) := (blk_cell s0 8).trans rfl; have q9 : w'.cell? ⟨w.heap.size, 9, none⟩ = some (.int .u16 r9) := (blk_cell s0 9).trans rfl; have q10 : w'.cell? ⟨w.heap.size, 10, none⟩ = some (.int .u16 r10) := (blk_cell s0 10).trans rfl; have q11 : w'.cell? ⟨w.heap.size, 11, none⟩ = some (.int .u16 r11) := (blk_cell s0 11).trans rfl
          go_simp
          with_reducible rfl
        rotate_left
        · simp only [Act.put, zs, zz, zk]; rfl
        refine pure_ (i := 3) (N := some 26) (v := ?_) (a' := ?_) (bA 8 143) rfl rfl (by kernel_rfl) (fun _ _ _ h => h) (Or.inl ⟨by rfl, ?_⟩) ?_ ?_
        rotate_left
        · intro w'
          go_simp
          with_reducible rfl
        rotate_left
        · simp only [Act.put, zs, zz, zk]; rfl
        refine take_ (i := 4) (N := some 27) (v := ?_) (a' := ?_) (bA 8 159) rfl rfl (by kernel_rfl) (fun _ _ _ h => h) (Or.inl ⟨by rfl, ?_⟩) hHeld ?_ ?_
        rotate_left
        · rintro w' ⟨s0, s1, s2⟩
          go_simp
          with_reducible rfl
        rotate_left
        · simp only [Act.put, zs, zz, zk]; rfl
        refine one_ (i := 5) (N := some 28) (bA 8 191) rfl rfl (by kernel_rfl) (by decide) (fun K hK => ?_)
        refine goes_ Try.func100 (by kernel_rfl) rfl #[.agg #[.int .i8 r0, .int .i8 r1, .int .u16 r2, .int .u16 r3, .int .u16 r4, .int .u16 r5, .int .u16 r6, .int .u16 r7, .int .u16 r8, .int .u16 r9, .int .u16 r10, .int .u16 r11], .agg #[.int .i8 cx, .int .i8 cy]] (by rfl) rfl rfl (by (try simp only [List.map_toArray, List.map_cons, List.map_nil]); first | done | rfl) ?_
        refine (hbes _ (cx, cy) nx hnx).mono ?_
        rintro e w2 ⟨v28, rfl, ho, hb⟩
        refine ⟨_, rfl, ?_⟩
        obtain ⟨es, clock, hbm, F, hs_, hD_⟩ := hO
        have hO : W1.ownsMap Try.prog 62 (plainElem (H := Unit) Try.prog 2) b l.length D := ⟨es, clock, hbm, F, hs_, hD_⟩
        have hblt := blk_lt hbm
        have hN : Kd.R k62 62 w2 w.heap.size (fun k => k ≠ b) v28 (nx.map toS) := Kd.R_lower (R62re ho (fun k hk z => by have := Kd.R_base ho k hk; omega)) hB.size
        have hA : ∀ k, (Value.slice (some ad) l.length c6).ownBlock = some k → v28.ownBlock ≠ some k := fun k hk z => by
          have h1 := Kd.R_lt hrow k hk
          have h2 := Kd.R_base ho k z
          omega
        have hx0' : w2.cell? (ad.add (i * 2)) = some (.int .i8 cx) := (hb.cell (World.block_lt_of_cell? W1 _ hHeld.2.1)).trans hHeld.2.1
        have hx1' : w2.cell? ⟨(ad.add (i * 2)).block, (ad.add (i * 2)).off + 1, none⟩ = some (.int .i8 cy) := (hb.cell (World.block_lt_of_cell? W1 _ hHeld.2.2)).trans hHeld.2.2
        replace hO := H.map_below hO hb
        replace hrow := Kd.R_below hrow hb
        replace hb2 := blk_below hb2 hb
        replace hB := hB.trans (hb.mono hB.size)
        obtain ⟨A28, c28, rfl⟩ := Kd.R_slice hN
        rw [List.length_map] at hN hA ⊢
        refine hK.out _ _ ⟨hb2, hx0', hx1'⟩ (fun hHeld2 => ?_)
        clear hK K hHeld2 hx0' hx1' ho hb hbm F hs_ hD_ hblt hHeld hx0 hx1
        refine norm_ (a' := ?_) ?_ ?_
        rotate_left
        · show Act.put _ (some 28) _ = _
          simp only [Act.put, zs, zz, zk]
          rfl
        refine pure_ (i := 6) (N := some 29) (v := ?_) (a' := ?_) (bA 8 255) rfl rfl (by kernel_rfl) (fun _ _ _ h => h) (Or.inl ⟨by rfl, ?_⟩) ?_ ?_
        rotate_left
        · intro w'
          go_simp
          with_reducible rfl
        rotate_left
        · simp only [Act.put, zs, zz, zk]; rfl
        refine done_ (by kernel_rfl) ?_
        go_wp2
        have hci : l[i]? = some (cx, cy) := by rw [List.getElem?_eq_getElem c, hcur]
        clear hrd hcur f1 f2 hi c
        go_loopg [6, 30] nx.length (fun gq v6 v30 w3 => ∃ (j : Nat) (l' : List (Int × Int)) (M' : Int × Int → Option Int) (D' : DataW Unit), v30 = .int .i64 (j : Int) ∧ nx.length - j ≤ gq ∧ j ≤ nx.length ∧ Hid (H.bfsIn (cx, cy) (nx.drop j) l' M' = some (l2, M2)) ∧ l'[i]? = some (cx, cy) ∧ l'.length ≤ 1000 ∧ H.FarOk M' l'.length ∧ H.FarD D' M' ∧ w3.ownsMap Try.prog 62 (plainElem (H := Unit) Try.prog 2) b l'.length D' ∧ Kd.R k62 62 w3 w.heap.size (fun k => k ≠ b) v6 (l'.map toS) ∧ (∀ k, v6.ownBlock = some k → (Value.slice A28 nx.length c28).ownBlock ≠ some k) ∧ Kd.R k62 62 w3 w.heap.size (fun k => k ≠ b) (.slice A28 nx.length c28) (nx.map toS) ∧ w3.heap[w.heap.size]? = some (.cells #[.int .i8 r0, .int .i8 r1, .int .u16 r2, .int .u16 r3, .int .u16 r4, .int .u16 r5, .int .u16 r6, .int .u16 r7, .int .u16 r8, .int .u16 r9, .int .u16 r10, .int .u16 r11] 35 (0, 0)) ∧ Below w.heap.size w w3)
        case atStart => exact ⟨0, l, M, D, rfl, by omega, Nat.zero_le _, hin, hci, hl, hMo, hMD, hO, hrow, hA, hN, hb2, hB⟩
        case round =>
          clear hin hci hl hMo hMD hO hrow hA hN hb2 hB
          obtain ⟨j, l', M', D', rfl, hjq, hj, hin, hci, hl, hMo, hMD, hO, hrow, hA, hN, hb2, hB⟩ := hrel
          obtain ⟨A6, c6, rfl⟩ := Kd.R_slice hrow
          rw [List.length_map] at hrow hA ⊢
          by_cases cj : j < nx.length
          · have f1 : ((j : Int) < (nx.length : Int)) = True := eq_true (by omega)
            have f2 : (0 ≤ (j : Int)) = True := eq_true (by omega)
            obtain ⟨ad2, e_, hx0, hx1⟩ := at_T62 (Kd.R_reads' hN).2.2 (j : Int) (by omega) (by rw [List.length_map]; omega)
            subst e_
            have hrd : rd_T62 (nx.map toS) (j : Int) = toS nx[j] := by simp [rd_T62, List.getD_eq_getElem?_getD, cj]
            rw [hrd] at hx0 hx1
            have hdr : nx.drop j = nx[j] :: nx.drop (j + 1) := List.drop_eq_getElem_cons cj
            rw [hdr] at hin
            generalize nx[j] = s at hx0 hx1 hin hrd hdr
            obtain ⟨sx, sy⟩ := s
            dsimp only [toS] at hx0 hx1
            rw [Int.toNat_natCast] at hx0 hx1
            have hV5 : (if H.inG (sx, sy) = true then (match M' (sx, sy) with | some _ => H.bfsIn (cx, cy) (nx.drop (j + 1)) l' M' | none => (match M' (cx, cy) with | some d => (if l'.length < 1000 then H.bfsIn (cx, cy) (nx.drop (j + 1)) (l' ++ [(sx, sy)]) (H.farPut M' (sx, sy) (d + 1)) else none) | none => none)) else none) = some (l2, M2) := hin
            clear hin hrd hdr
            by_cases cg : H.inG (sx, sy) = true
            · rw [if_pos cg] at hV5
              go_upto_region 8 with (fail)
              have hBl : Below wr.heap.size wr (wr.alloc (.cells #[.int .i8 sx, .int .i8 sy] 62)) := Below.alloc (Below.refl _ _) (Nat.le_refl _) _
              have hb9 := heap_alloc_new wr (.cells #[.int .i8 sx, .int .i8 sy] 62)
              replace hO := H.map_below hO hBl
              replace hrow := Kd.R_below hrow hBl
              replace hN := Kd.R_below hN hBl
              replace hb2 := blk_below hb2 hBl
              have hgw : w.heap.size ≤ wr.heap.size := hB.size
              replace hB := hB.trans (hBl.mono hB.size)
              clear hBl hx0 hx1
              generalize wr.alloc (.cells #[.int .i8 sx, .int .i8 sy] 62) = W3 at hO hrow hN hb2 hB hb9 ⊢
              generalize wr.heap.size = g9 at hb9 hgw ⊢
              have q0 : W3.cell? ⟨g9, 0, none⟩ = some (.int .i8 sx) := (blk_cell hb9 0).trans rfl
              have q1 : W3.cell? ⟨g9, 1, none⟩ = some (.int .i8 sy) := (blk_cell hb9 1).trans rfl
              have hlk := (H.far_look hO hMD cg).1
              have hwj : IntKind.i64.wrap ((j : Int) + 1) = ((j + 1 : Nat) : Int) := by have hz := Kd.C_max (Kd.R_reads' hN).2.2; rw [List.length_map] at hz; simp [IntKind.wrap, IntKind.bits, IntKind.signed]; omega
              cases hq : M' (sx, sy) with
              | some d =>
                rw [hq] at hV5 hlk
                dsimp only [Option.getD_some, Option.isSome_some] at hV5 hlk
                have hV6 : Hid (H.bfsIn (cx, cy) (nx.drop (j + 1)) l' M' = some (l2, M2)) := hV5
                clear hV5 f1 f2
                go_wp2
                go_roundg (nx.length - (j + 1))
                case measure => omega
                case rel => exact ⟨j + 1, l', M', D', by simp, by omega, by omega, hV6, hci, hl, hMo, hMD, hO, hrow, hA, hN, hb2, hB⟩
              | none =>
                rw [hq] at hV5 hlk
                dsimp only [Option.getD_none, Option.isSome_none] at hV5 hlk
                cases hq2 : M' (cx, cy) with
                | none => rw [hq2] at hV5; cases hV5
                | some d =>
                  rw [hq2] at hV5
                  by_cases cl : l'.length < 1000
                  · have hV6 : Hid (H.bfsIn (cx, cy) (nx.drop (j + 1)) (l' ++ [(sx, sy)]) (H.farPut M' (sx, sy) (d + 1)) = some (l2, M2)) := by
                      have h2 := hV5
                      dsimp only at h2
                      rw [if_pos cl] at h2
                      exact h2
                    have hMo2 := hMo _ _ hq2
                    have hlg := (H.far_look hO hMD hMo2.1).2 d hq2
                    clear hV5 f1 f2
                    go_upto_region 10 with (fail)
                    have hil := (List.getElem?_eq_some_iff.1 hci).1
                    have f1 : ((i : Int) < (l'.length : Int)) = True := eq_true (by omega)
                    have f2 : (0 ≤ (i : Int)) = True := eq_true (by omega)
                    obtain ⟨ad3, e_, hy0, hy1⟩ := at_T62 (Kd.R_reads' hrow).2.2 (i : Int) (by omega) (by rw [List.length_map]; omega)
                    subst e_
                    have hrd : rd_T62 (l'.map toS) (i : Int) = (⟨cx, cy⟩ : S62) := by
                      have h2 : (l'.map toS)[i]? = some (toS (cx, cy)) := by rw [List.getElem?_map, hci]; rfl
                      simp [rd_T62, List.getD_eq_getElem?_getD, h2, toS]
                    rw [hrd] at hy0 hy1
                    dsimp only at hy0 hy1
                    rw [Int.toNat_natCast] at hy0 hy1
                    have hwd : IntKind.i64.wrap (d + 1) = d + 1 := by have := hMo2.2.1; have := hMo2.2.2; simp [IntKind.wrap, IntKind.bits, IntKind.signed]; omega
                    have hwf : (Lit.int .i64 (d + 1)).wf = true := by have := hMo2.2.1; have := hMo2.2.2; simp [Lit.wf, IntKind.min, IntKind.max, IntKind.bits, IntKind.signed]; omega
                    clear hrd hlk q0 q1
                    refine start_ (n := 10) (S := fun w' => w'.cell? ⟨g9, 0, none⟩ = some (.int .i8 sx) ∧ w'.cell? ⟨g9, 1, none⟩ = some (.int .i8 sy) ∧ w'.cell? (ad3.add (i * 2)) = some (.int .i8 cx) ∧ w'.cell? ⟨(ad3.add (i * 2)).block, (ad3.add (i * 2)).off + 1, none⟩ = some (.int .i8 cy) ∧ (Instr.lookup 132 (.map (some b)) (.agg #[.int .i8 cx, .int .i8 cy]) false).run Try.prog w' = .ok (.int .i64 d) w') (ds := [9]) (bA 10 0) (by kernel_rfl) rfl rfl ⟨(blk_cell (blk_drew hb9) 0).trans rfl, (blk_cell (blk_drew hb9) 1).trans rfl, hy0, hy1, (H.far_look (H.map_block (w1 := W3.drew) hO rfl) hMD hMo2.1).2 d hq2⟩ (fun hHeld => ?_)
                    replace hO := H.map_block (w1 := W3.drew) hO rfl
                    replace hrow := Kd.R_drew hrow
                    replace hN := Kd.R_drew hN
                    replace hb2 := blk_drew hb2
                    replace hb9 := blk_drew hb9
                    replace hB := below_drew1 hB
                    clear hlg hy0 hy1
                    generalize W3.drew = W4 at hO hrow hN hb2 hb9 hB hHeld ⊢
                    refine pure_ (i := 0) (N := some 42) (v := ?_) (a' := ?_) (bA 10 1) rfl rfl (by kernel_rfl) (fun _ _ _ h => h) (Or.inl ⟨by rfl, ?_⟩) ?_ ?_
                    rotate_left
                    · intro w'
                      go_simp
                      with_reducible rfl
                    rotate_left
                    · simp only [Act.put, zs, zz, zk]; rfl
                    refine pure_ (i := 2) (N := some 44) (v := ?_) (a' := ?_) (bA 10 5) rfl rfl (by kernel_rfl) (fun _ _ _ h => h) (Or.inl ⟨by rfl, ?_⟩) ?_ ?_
                    rotate_left
                    · intro w'
                      go_simp
                      with_reducible rfl
                    rotate_left
                    · simp only [Act.put, zs, zz, zk]; rfl
                    refine pure_ (i := 3) (N := some 45) (v := ?_) (a' := ?_) (bA 10 13) rfl rfl (by kernel_rfl) (fun _ _ _ h => h) (Or.inl ⟨by rfl, ?_⟩) ?_ ?_
                    rotate_left
                    · intro w'
                      go_simp
                      with_reducible rfl
                    rotate_left
                    · simp only [Act.put, zs, zz, zk]; rfl
                    refine pure_ (i := 4) (N := some 46) (v := ?_) (a' := ?_) (bA 10 29) rfl rfl (by kernel_rfl) (fun _ _ _ h => h) (Or.inl ⟨by rfl, ?_⟩) ?_ ?_
                    rotate_left
                    · intro w'
                      go_simp
                      with_reducible rfl
                    rotate_left
                    · simp only [Act.put, zs, zz, zk]; rfl
                    refine take_ (i := 1) (N := some 43) (v := ?_) (a' := ?_) (bA 10 31) rfl rfl (by kernel_rfl) (fun _ _ _ h => h) (Or.inl ⟨by rfl, ?_⟩) hHeld ?_ ?_
                    rotate_left
                    · rintro w' ⟨s0, s1, s2, s3, s4⟩
                      go_simp
                      with_reducible rfl
                    rotate_left
                    · simp only [Act.put, zs, zz, zk]; rfl
                    refine pure_ (i := 5) (N := some 47) (v := ?_) (a' := ?_) (bA 10 63) rfl rfl (by kernel_rfl) (fun _ _ _ h => h) (Or.inl ⟨by rfl, ?_⟩) ?_ ?_
                    rotate_left
                    · intro w'
                      go_simp
                      with_reducible rfl
                    rotate_left
                    · simp only [Act.put, zs, zz, zk]; rfl
                    refine take_ (i := 6) (N := some 48) (v := ?_) (a' := ?_) (bA 10 127) rfl rfl (by kernel_rfl) (fun _ _ _ h => h) (Or.inl ⟨by rfl, ?_⟩) hHeld ?_ ?_
                    rotate_left
                    · rintro w' ⟨s0, s1, s2, s3, s4⟩
                      go_simp
                      with_reducible rfl
                    rotate_left
                    · simp only [Act.put, zs, zz, zk]; rfl
                    refine take_ (i := 7) (N := some 49) (v := ?_) (a' := ?_) (bA 10 255) rfl rfl (by kernel_rfl) (fun _ _ _ h => h) (Or.inl ⟨by rfl, ?_⟩) hHeld ?_ ?_
                    rotate_left
                    · rintro w' ⟨s0, s1, s2, s3, s4⟩
                      go_simp
                      with_reducible rfl
                    rotate_left
                    · simp only [Act.put, zs, zz, zk]; rfl
                    refine pure_ (i := 8) (N := some 50) (v := ?_) (a' := ?_) (bA 10 511) rfl rfl (by kernel_rfl) (fun _ _ _ h => h) (Or.inl ⟨by rfl, ?_⟩) ?_ ?_
                    rotate_left
                    · intro w'
                      go_simp
                      with_reducible rfl
                    rotate_left
                    · simp only [Act.put, zs, zz, zk]; rfl
                    refine last_ (i := 9) (N := none) #[true, true, true, true, true, true, true, true, true, true] rfl rfl (by kernel_rfl) (by decide) (fun K hK => ?_)
                    obtain ⟨W5, hrun, hO5, hg5⟩ := hO.update H.spotKeyed Try.underlying132 (by unfold maxLen; omega) (H.keyG cg) (plainElem_int Try.underlying2 hwf)
                    have hMD5 := hMD.put hO.isMap cg (d + 1)
                    have hMo5 := hMo.put cg hMo2.2.1 hMo2.2.2
                    have hOlt := hO.lt
                    have hwb : w.heap.size ≠ b := fun z => by
                      obtain ⟨es, clock, hbm, _⟩ := hO
                      rw [← z, hb2] at hbm
                      cases hbm
                    have h9b : g9 ≠ b := fun z => by
                      obtain ⟨es, clock, hbm, _⟩ := hO
                      rw [← z, hb9] at hbm
                      cases hbm
                    replace hrow := Kd.R_grown hrow hg5 (fun k hk z => hk (Option.some.inj z))
                    replace hN := Kd.R_grown hN hg5 (fun k hk z => hk (Option.some.inj z))
                    replace hb2 := blk_grown hb2 hg5 (fun z => hwb (Option.some.inj z))
                    replace hb9 := blk_grown hb9 hg5 (fun z => h9b (Option.some.inj z))
                    replace hB := hB.grown hg5 hB.size (fun k hk => by have := Option.some.inj hk; omega)
                    rw [if_pos (by rfl)]
                    unfold Oper.wp
                    go_simp
                    refine hK.out _ _ ?_
                    clear hK K
                    refine done_ (by kernel_rfl) ?_
                    clear hHeld hO hMD hMo hrun f1 f2
                    have q0 : W5.cell? ⟨g9, 0, none⟩ = some (.int .i8 sx) := (blk_cell hb9 0).trans rfl
                    have q1 : W5.cell? ⟨g9, 1, none⟩ = some (.int .i8 sy) := (blk_cell hb9 1).trans rfl
                    have hOlt5 := hO5.lt
                    have hN5 : Kd.R k62 62 W5 w.heap.size (fun k => (Value.slice (some ad3) l'.length c6).ownBlock ≠ some k) (.slice (some ad2) nx.length c28) (nx.map toS) := R62re hN (fun k hk z => hA k z hk)
                    have hr5 : Kd.R k62 62 W5 w.heap.size (fun k => k ≠ b ∧ (Value.slice (some ad2) nx.length c28).ownBlock ≠ some k) (.slice (some ad3) l'.length c6) (l'.map toS) := R62re hrow (fun k hk => ⟨hrow.1 k hk, hA k hk⟩)
                    have hfr : ∀ k, W5.heap.size ≤ k → k ≠ b ∧ (Value.slice (some ad2) nx.length c28).ownBlock ≠ some k := fun k hk => ⟨by omega, fun z => by have := Kd.R_lt hN k z; omega⟩
                    go_wp2_with (((with_reducible refine gate_builtin (b := .append) (xs := #[.tmp 51, .tmp 53]) rfl ?_); at_builtin; refine Kd.R_append k62 (w0 := w) w.heap.size rfl (.tmp 51) (.tmp 53) 37 62 (.agg #[(.int .i8 0), (.int .i8 0)]) 2 rfl Try.underlying37 info62 rfl (by decide) (by omega) (.slice (some ad3) l'.length c6) (l'.map toS) (⟨sx, sy⟩ : S62) [.int .i8 sx, .int .i8 sy] (fun k => k ≠ b ∧ (Value.slice (some ad2) nx.length c28).ownBlock ≠ some k) (fun _ => False) rfl rfl ?aP (fun _ hk => hk.elim) ?aF ?aO ?aB ?aS ?aL ?_; (case aP => exact k62_mkM _ _ _ (⟨sx, sy⟩ : S62)); (case aF => exact hfr); (case aO => exact hr5); (case aB => exact hB); (case aS => exact hB.size); (case aL => rw [List.length_map]; omega); intro v6n W6 ho hb6 hg6 hat))
                    have hlen : (l' ++ [(sx, sy)]).length = l'.length + 1 := by rw [List.length_append]; rfl
                    go_roundg (nx.length - (j + 1))
                    case measure => omega
                    case rel => exact ⟨j + 1, l' ++ [(sx, sy)], _, _, by simp, by omega, by omega, hV6, by rw [List.getElem?_append_left hil]; exact hci, by omega, by rw [hlen]; exact hMo5, hMD5, by rw [hlen]; exact H.map_block hO5 (hg6.block b hOlt5 (fun z => hrow.1 b z.symm rfl)), by rw [List.map_append]; exact Kd.R_mono ho (fun k hk => hk.1), fun k hk => (ho.1 k hk).2, R62re (Kd.R_grown hN5 hg6 (fun k hk z => hk z.symm)) (fun k hk => hN.1 k hk), blk_grown hb2 hg6 (Kd.R_ne hrow hb2 (by decide)), hb6⟩
                  · exfalso
                    dsimp only at hV5
                    rw [if_neg cl] at hV5
                    cases hV5
            · rw [if_neg cg] at hV5; cases hV5
          · obtain rfl : j = nx.length := by omega
            rw [List.drop_length] at hin
            have hin2 : some (l', M') = some (l2, M2) := hin
            injection hin2 with hin2
            injection hin2 with e1 e2
            subst e1
            subst e2
            have f1 : ((nx.length : Int) < (nx.length : Int)) = False := eq_false (by omega)
            have hwi : IntKind.i64.wrap ((i : Int) + 1) = ((i + 1 : Nat) : Int) := by simp [IntKind.wrap, IntKind.bits, IntKind.signed]; have := (List.getElem?_eq_some_iff.1 hci).1; omega
            go_wp2
            go_roundg kk
            case measure => omega
            case rel => exact ⟨kk, i + 1, l', M', D', by simp, Nat.le_refl _, (List.getElem?_eq_some_iff.1 hci).1, hV4, hl, hMo, hMD, hO, hrow, hb2, hB⟩
      · rw [dif_neg c] at hV2
        obtain rfl := Option.some.inj hV2
        have f1 : ((i : Int) < (l.length : Int)) = False := eq_false (by omega)
        go_wp2
        go_ret
        exact ⟨b, rfl, ⟨l.length, D, hO, hMD⟩, hB⟩

/-- What r.beside yields, as pairs. -/
def impl_StepsBetween.bes (k : Nat) (a0_0 : Int) (a0_1 : Int) (a0_2 : Int) (a0_3 : Int) (a0_4 : Int) (a0_5 : Int) (a0_6 : Int) (a0_7 : Int) (a0_8 : Int) (a0_9 : Int) (a0_10 : Int) (a0_11 : Int) : Int × Int → Option (List (Int × Int)) := fun s => (impl_Room_beside.f k a0_0 a0_1 a0_2 a0_3 a0_4 a0_5 a0_6 a0_7 a0_8 a0_9 a0_10 a0_11 s.1 s.2).map (List.map (fun x => (x.f0, x.f1)))
theorem impl_StepsBetween.steps_ (k : Nat) (a0_0 : Int) (a0_1 : Int) (a0_2 : Int) (a0_3 : Int) (a0_4 : Int) (a0_5 : Int) (a0_6 : Int) (a0_7 : Int) (a0_8 : Int) (a0_9 : Int) (a0_10 : Int) (a0_11 : Int) (a : Int × Int) (R : Int × Int → Option Int) (hR : Go.Proofs.Ytooidjdgfoioiaa.H.bfsFrom (impl_StepsBetween.bes k a0_0 a0_1 a0_2 a0_3 a0_4 a0_5 a0_6 a0_7 a0_8 a0_9 a0_10 a0_11) k a = some R) (w : World) :
    Calls Try.prog 93 #[.agg #[.int .i8 a0_0, .int .i8 a0_1, .int .u16 a0_2, .int .u16 a0_3, .int .u16 a0_4, .int .u16 a0_5, .int .u16 a0_6, .int .u16 a0_7, .int .u16 a0_8, .int .u16 a0_9, .int .u16 a0_10, .int .u16 a0_11], .agg #[.int .i8 a.1, .int .i8 a.2]] w fun e w' => ∃ b, e = .returned (.map (some b)) ∧ (∃ n D, w'.ownsMap Try.prog 62 (plainElem (H := Unit) Try.prog 2) b n D ∧ Go.Proofs.Ytooidjdgfoioiaa.H.FarD D R) ∧ Below w.heap.size w w' :=
  steps_calls a0_0 a0_1 a0_2 a0_3 a0_4 a0_5 a0_6 a0_7 a0_8 a0_9 a0_10 a0_11 (impl_StepsBetween.bes k a0_0 a0_1 a0_2 a0_3 a0_4 a0_5 a0_6 a0_7 a0_8 a0_9 a0_10 a0_11) (fun W s nx hs => by
    obtain ⟨xs, hxs, hmap⟩ := Option.map_eq_some_iff.1 hs
    have hid : nx.map toS = xs := by rw [← hmap, List.map_map]; exact (List.map_congr_left (fun x _ => rfl)).trans (List.map_id xs)
    refine (impl_Room_beside.calls k a0_0 a0_1 a0_2 a0_3 a0_4 a0_5 a0_6 a0_7 a0_8 a0_9 a0_10 a0_11 s.1 s.2 xs W hxs).mono ?_
    rintro e w' ⟨v, h1, h2, h3⟩
    exact ⟨v, h1, by rw [hid]; exact h2, h3⟩) k a R hR w
def impl_StepsBetween.far (k : Nat) (a0_0 : Int) (a0_1 : Int) (a0_2 : Int) (a0_3 : Int) (a0_4 : Int) (a0_5 : Int) (a0_6 : Int) (a0_7 : Int) (a0_8 : Int) (a0_9 : Int) (a0_10 : Int) (a0_11 : Int) (a1_0 a1_1 a2_0 a2_1 : Int) : Option (Int × Int) := (Go.Proofs.Ytooidjdgfoioiaa.H.bfsFrom (impl_StepsBetween.bes k a0_0 a0_1 a0_2 a0_3 a0_4 a0_5 a0_6 a0_7 a0_8 a0_9 a0_10 a0_11) k (a1_0, a1_1)).bind fun R => (if Go.Proofs.Ytooidjdgfoioiaa.H.inG (a2_0, a2_1) = true then some (match R (a2_0, a2_1) with | some d => ((d, 0) : Int × Int) | none => (0, 6)) else none)
theorem impl_StepsBetween.far_mono (a0_0 : Int) (a0_1 : Int) (a0_2 : Int) (a0_3 : Int) (a0_4 : Int) (a0_5 : Int) (a0_6 : Int) (a0_7 : Int) (a0_8 : Int) (a0_9 : Int) (a0_10 : Int) (a0_11 : Int) (a1_0 a1_1 a2_0 a2_1 : Int) (k : Nat) : LeO (impl_StepsBetween.far k a0_0 a0_1 a0_2 a0_3 a0_4 a0_5 a0_6 a0_7 a0_8 a0_9 a0_10 a0_11 a1_0 a1_1 a2_0 a2_1) (impl_StepsBetween.far (k + 1) a0_0 a0_1 a0_2 a0_3 a0_4 a0_5 a0_6 a0_7 a0_8 a0_9 a0_10 a0_11 a1_0 a1_1 a2_0 a2_1) := by
  intro r h
  unfold impl_StepsBetween.far at h ⊢
  obtain ⟨R, h1, h2⟩ := Option.bind_eq_some_iff.mp h
  have h3 : Go.Proofs.Ytooidjdgfoioiaa.H.bfsFrom (impl_StepsBetween.bes (k + 1) a0_0 a0_1 a0_2 a0_3 a0_4 a0_5 a0_6 a0_7 a0_8 a0_9 a0_10 a0_11) (k + 1) (a1_0, a1_1) = some R := by
    unfold Go.Proofs.Ytooidjdgfoioiaa.H.bfsFrom at h1 ⊢
    by_cases c : Go.Proofs.Ytooidjdgfoioiaa.H.inG (a1_0, a1_1) = true
    · rw [if_pos c] at h1 ⊢
      refine Go.Proofs.Ytooidjdgfoioiaa.H.bfs_mono (fun s x hx => ?_) k (k + 1) (by omega) _ _ _ _ h1
      unfold impl_StepsBetween.bes at hx ⊢
      obtain ⟨xs, hxs, hmap⟩ := Option.map_eq_some_iff.1 hx
      rw [impl_Room_beside.mono a0_0 a0_1 a0_2 a0_3 a0_4 a0_5 a0_6 a0_7 a0_8 a0_9 a0_10 a0_11 s.1 s.2 k xs hxs]
      rw [← hmap]; rfl
    · rw [if_neg c] at h1; cases h1
  rw [h3, Option.bind_some]
  exact h2
def impl_StepsBetween.f (k : Nat) (a0_0 : Int) (a0_1 : Int) (a0_2 : Int) (a0_3 : Int) (a0_4 : Int) (a0_5 : Int) (a0_6 : Int) (a0_7 : Int) (a0_8 : Int) (a0_9 : Int) (a0_10 : Int) (a0_11 : Int) (a1_0 : Int) (a1_1 : Int) (a2_0 : Int) (a2_1 : Int) : Option (Int × Int) := (impl_cellCode.f k a0_0 a0_1 a0_2 a0_3 a0_4 a0_5 a0_6 a0_7 a0_8 a0_9 a0_10 a0_11 (([(⟨a1_0, a1_1⟩ : S62), (⟨a2_0, a2_1⟩ : S62)] : List (S62)))).bind fun t202 => ((impl_stateCode.f k a0_0 a0_1 a0_2 a0_3 a0_4 a0_5 a0_6 a0_7 a0_8 a0_9 a0_10 a0_11 (([(⟨a1_0, a1_1⟩ : S62), (⟨a2_0, a2_1⟩ : S62)] : List (S62)))).bind fun t206 => ((impl_firstOf.f k (([t202, t206] : List Int))).bind fun t210 => (if t210 = 0 then (impl_StepsBetween.far k a0_0 a0_1 a0_2 a0_3 a0_4 a0_5 a0_6 a0_7 a0_8 a0_9 a0_10 a0_11 a1_0 a1_1 a2_0 a2_1) else (some (0, t210)))))
theorem impl_StepsBetween.mono : ∀ a0 a1 a2 a3 a4 a5 a6 a7 a8 a9 a10 a11 a12 a13 a14 a15 k, LeO (impl_StepsBetween.f k a0 a1 a2 a3 a4 a5 a6 a7 a8 a9 a10 a11 a12 a13 a14 a15) (impl_StepsBetween.f (k + 1) a0 a1 a2 a3 a4 a5 a6 a7 a8 a9 a10 a11 a12 a13 a14 a15) := by
  intro a0 a1 a2 a3 a4 a5 a6 a7 a8 a9 a10 a11 a12 a13 a14 a15 k
  unfold impl_StepsBetween.f
  repeat' first
      | (with_reducible exact impl_cellCode.mono ..)
      | (with_reducible exact impl_firstOf.mono ..)
      | (with_reducible exact impl_stateCode.mono ..)
      | (with_reducible exact impl_StepsBetween.far_mono ..)
      | (with_reducible exact LeO.refl ..)
      | (with_reducible exact LeO.none ..)
      | (with_reducible refine LeO.ite ?_ ?_)
      | (with_reducible refine LeO.bind ?_ (fun _ => ?_))
def impl_StepsBetween.T1 : Bool × List (List Nat × List Nat) := (true, [([], []), ([], []), ([], []), ([1, 2], [1, 2]), ([0, 3], [0, 3]), ([], []), ([], []), ([], []), ([6, 7], [6, 7]), ([5, 8, 4], [5, 8]), ([4, 9], [4, 9]), ([10, 9], [10]), ([11, 11, 0, 1, 2, 3, 4, 5, 6, 7, 8, 9, 10, 11], [11])])
def impl_StepsBetween.B1 : List Nat := [0, 0, 0, 6, 15, 0, 0, 0, 192, 511, 1023, 2047, 4095]
theorem impl_StepsBetween.tab1 : rtab .any (opsOf Try.f79 1) = impl_StepsBetween.T1 := by kernel_rfl
theorem impl_StepsBetween.bits1 : waitsOk impl_StepsBetween.T1.2 impl_StepsBetween.B1 = true := by kernel_rfl
set_option maxHeartbeats 8000000 in
set_option maxRecDepth 100000 in
theorem impl_StepsBetween.calls (k : Nat) (a0_0 : Int) (a0_1 : Int) (a0_2 : Int) (a0_3 : Int) (a0_4 : Int) (a0_5 : Int) (a0_6 : Int) (a0_7 : Int) (a0_8 : Int) (a0_9 : Int) (a0_10 : Int) (a0_11 : Int) (a1_0 : Int) (a1_1 : Int) (a2_0 : Int) (a2_1 : Int) (r1 : Int) (r2 : Int) (w : World) (h : impl_StepsBetween.f k a0_0 a0_1 a0_2 a0_3 a0_4 a0_5 a0_6 a0_7 a0_8 a0_9 a0_10 a0_11 a1_0 a1_1 a2_0 a2_1 = some (r1, r2)) :
    Calls Try.prog 79 #[.agg #[.int .i8 a0_0, .int .i8 a0_1, .int .u16 a0_2, .int .u16 a0_3, .int .u16 a0_4, .int .u16 a0_5, .int .u16 a0_6, .int .u16 a0_7, .int .u16 a0_8, .int .u16 a0_9, .int .u16 a0_10, .int .u16 a0_11], .agg #[.int .i8 a1_0, .int .i8 a1_1], .agg #[.int .i8 a2_0, .int .i8 a2_1]] w fun e w' => e = .returned (.tuple #[.int .i64 r1, .int .i64 r2]) ∧ Below w.heap.size w w' := by
 have hu35 := Try.underlying35
 have hu62 := Try.underlying62
 have HB := ak (Below.refl w.heap.size w)
 have H := h
 unfold impl_StepsBetween.f at H
 clear h
 obtain ⟨y199, hy199⟩ : ∃ y_ : List (S62), y_ = (([(⟨a1_0, a1_1⟩ : S62), (⟨a2_0, a2_1⟩ : S62)] : List (S62))) := ⟨_, rfl⟩
 replace H : ((impl_cellCode.f k a0_0 a0_1 a0_2 a0_3 a0_4 a0_5 a0_6 a0_7 a0_8 a0_9 a0_10 a0_11 y199).bind fun t202 => ((impl_stateCode.f k a0_0 a0_1 a0_2 a0_3 a0_4 a0_5 a0_6 a0_7 a0_8 a0_9 a0_10 a0_11 (([(⟨a1_0, a1_1⟩ : S62), (⟨a2_0, a2_1⟩ : S62)] : List (S62)))).bind fun t206 => ((impl_firstOf.f k (([t202, t206] : List Int))).bind fun t210 => (if t210 = 0 then (impl_StepsBetween.far k a0_0 a0_1 a0_2 a0_3 a0_4 a0_5 a0_6 a0_7 a0_8 a0_9 a0_10 a0_11 a1_0 a1_1 a2_0 a2_1) else (some (0, t210)))))) = some (r1, r2) := by first | (rw [hy199]; with_reducible exact H) | (have H2_ := (Option.bind_some _ _).symm.trans H; rw [hy199]; with_reducible exact H2_) | (have H2_ := (Option.bind_some _ _).symm.trans H; with_reducible exact H2_) | with_reducible exact H | (rw [hy199]; exact H) | exact H
 have Ny199 := ak hy199
 clear hy199
 replace H := Option.bind_eq_some_iff.mp H
 obtain ⟨t202, A40, H⟩ := H
 have A4 := ak A40
 clear A40
 obtain ⟨y203, hy203⟩ : ∃ y_ : List (S62), y_ = (([(⟨a1_0, a1_1⟩ : S62), (⟨a2_0, a2_1⟩ : S62)] : List (S62))) := ⟨_, rfl⟩
 replace H : ((impl_stateCode.f k a0_0 a0_1 a0_2 a0_3 a0_4 a0_5 a0_6 a0_7 a0_8 a0_9 a0_10 a0_11 y203).bind fun t206 => ((impl_firstOf.f k (([t202, t206] : List Int))).bind fun t210 => (if t210 = 0 then (impl_StepsBetween.far k a0_0 a0_1 a0_2 a0_3 a0_4 a0_5 a0_6 a0_7 a0_8 a0_9 a0_10 a0_11 a1_0 a1_1 a2_0 a2_1) else (some (0, t210))))) = some (r1, r2) := by first | (rw [hy203]; with_reducible exact H) | (have H2_ := (Option.bind_some _ _).symm.trans H; rw [hy203]; with_reducible exact H2_) | (have H2_ := (Option.bind_some _ _).symm.trans H; with_reducible exact H2_) | with_reducible exact H | (rw [hy203]; exact H) | exact H
 have Ny203 := ak hy203
 clear hy203
 replace H := Option.bind_eq_some_iff.mp H
 obtain ⟨t206, A50, H⟩ := H
 have A5 := ak A50
 clear A50
 obtain ⟨y207, hy207⟩ : ∃ y_ : List Int, y_ = (([t202, t206] : List Int)) := ⟨_, rfl⟩
 replace H : ((impl_firstOf.f k y207).bind fun t210 => (if t210 = 0 then (impl_StepsBetween.far k a0_0 a0_1 a0_2 a0_3 a0_4 a0_5 a0_6 a0_7 a0_8 a0_9 a0_10 a0_11 a1_0 a1_1 a2_0 a2_1) else (some (0, t210)))) = some (r1, r2) := by first | (rw [hy207]; with_reducible exact H) | (have H2_ := (Option.bind_some _ _).symm.trans H; rw [hy207]; with_reducible exact H2_) | (have H2_ := (Option.bind_some _ _).symm.trans H; with_reducible exact H2_) | with_reducible exact H | (rw [hy207]; exact H) | exact H
 have Ny207 := ak hy207
 clear hy207
 replace H := Option.bind_eq_some_iff.mp H
 obtain ⟨t210, A60, H⟩ := H
 have A6 := ak A60
 clear A60
 by_cases c7 : t210 = 0
 {
 rw [if_pos c7] at H
 have c7b0 : (t210 == 0) = true := beq_iff_eq.mpr c7
 have c7b1 : (t210 != 0) = false := bne_eq_false_iff_eq.mpr c7
 clear c7
 have HF := ak H
 clear H
 go_enter Try.func79, Try.ntmps79
 try go_wp2_with (first | ((with_reducible refine gate_dst (N := 3) rfl ?_); refine box_event ?hg (N := 3) ?hd (cs := #[.int .i8 a0_0, .int .i8 a0_1, .int .u16 a0_2, .int .u16 a0_3, .int .u16 a0_4, .int .u16 a0_5, .int .u16 a0_6, .int .u16 a0_7, .int .u16 a0_8, .int .u16 a0_9, .int .u16 a0_10, .int .u16 a0_11]) (t := 35) ?hr ?_; (case hd => rfl); (case hg => rfl); (case hr => first | (go_simp; done) | (go_simp; rfl)); intro gb196 hg w8 hbox hb; have n0_ := ak (below_step (zB HB.out) hb); have n1_ := ak (hbox); have n2_ := gS HB hg; have n3_ := gS HB hg; clear HB; have HB := n0_; have BK196 := n1_; have GW196 := n2_; have GE196 := n3_; clear n0_ n1_ n2_ n3_; clear hb hbox hg) | ((with_reducible refine gate_dst (N := 4) rfl ?_); refine box_event ?hg (N := 4) ?hd (cs := #[.int .i8 a1_0, .int .i8 a1_1]) (t := 62) ?hr ?_; (case hd => rfl); (case hg => rfl); (case hr => first | (go_simp; done) | (go_simp; rfl)); intro gb197 hg w9 hbox hb; have n0_ := ak (blk_below (g := gb196) (o := .cells #[.int .i8 a0_0, .int .i8 a0_1, .int .u16 a0_2, .int .u16 a0_3, .int .u16 a0_4, .int .u16 a0_5, .int .u16 a0_6, .int .u16 a0_7, .int .u16 a0_8, .int .u16 a0_9, .int .u16 a0_10, .int .u16 a0_11] 35 (0, 0)) (zK BK196.out) hb); have n1_ := ak (below_step (zBG HB.out GE196.out) hb); have n2_ := ak (hbox); have n3_ := gS1 HB GE196 hg; have n4_ := gS1 HB GE196 hg; have n5_ := nL BK196 hg; have n6_ := nG BK196 hg; clear BK196 HB; have BK196 := n0_; have HB := n1_; have BK197 := n2_; have GW197 := n3_; have GE197 := n4_; have NB196_197 := n5_; have NB197_196 := n6_; clear n0_ n1_ n2_ n3_ n4_ n5_ n6_; clear hb hbox hg) | ((with_reducible refine gate_dst (N := 5) rfl ?_); refine box_event ?hg (N := 5) ?hd (cs := #[.int .i8 a2_0, .int .i8 a2_1]) (t := 62) ?hr ?_; (case hd => rfl); (case hg => rfl); (case hr => first | (go_simp; done) | (go_simp; rfl)); intro gb198 hg w10 hbox hb; have n0_ := ak (blk_below (g := gb196) (o := .cells #[.int .i8 a0_0, .int .i8 a0_1, .int .u16 a0_2, .int .u16 a0_3, .int .u16 a0_4, .int .u16 a0_5, .int .u16 a0_6, .int .u16 a0_7, .int .u16 a0_8, .int .u16 a0_9, .int .u16 a0_10, .int .u16 a0_11] 35 (0, 0)) (zK BK196.out) hb); have n1_ := ak (blk_below (g := gb197) (o := .cells #[.int .i8 a1_0, .int .i8 a1_1] 62 (0, 0)) (zK BK197.out) hb); have n2_ := ak (below_step (zH2 HB GE196 GE197) hb); have n3_ := ak (hbox); have n4_ := ak ((by rw [hg]; exact (below_size (zH2 HB GE196 GE197)) : w.heap.size ≤ gb198)); have n5_ := ak ((by rw [hg]; exact (below_size (zH2 HB GE196 GE197)) : w.heap.size ≤ gb198)); have n6_ := nL BK196 hg; have n7_ := nG BK196 hg; have n8_ := nL BK197 hg; have n9_ := nG BK197 hg; clear BK196 BK197 HB; have BK196 := n0_; have BK197 := n1_; have HB := n2_; have BK198 := n3_; have GW198 := n4_; have GE198 := n5_; have NB196_198 := n6_; have NB198_196 := n7_; have NB197_198 := n8_; have NB198_197 := n9_; clear n0_ n1_ n2_ n3_ n4_ n5_ n6_ n7_ n8_ n9_; clear hb hbox hg))
 replace BK196 := ak (blk_drew BK196.out)
 replace BK197 := ak (blk_drew BK197.out)
 replace BK198 := ak (blk_drew BK198.out)
 replace HB := ak (below_drew1 HB.out)
 refine start_ (n := 13) (S := fun w' => w'.cell? ⟨gb196, 0, none⟩ = some (.int .i8 a0_0) ∧ w'.cell? ⟨gb196, 1, none⟩ = some (.int .i8 a0_1) ∧ w'.cell? ⟨gb196, 2, none⟩ = some (.int .u16 a0_2) ∧ w'.cell? ⟨gb196, 3, none⟩ = some (.int .u16 a0_3) ∧ w'.cell? ⟨gb196, 4, none⟩ = some (.int .u16 a0_4) ∧ w'.cell? ⟨gb196, 5, none⟩ = some (.int .u16 a0_5) ∧ w'.cell? ⟨gb196, 6, none⟩ = some (.int .u16 a0_6) ∧ w'.cell? ⟨gb196, 7, none⟩ = some (.int .u16 a0_7) ∧ w'.cell? ⟨gb196, 8, none⟩ = some (.int .u16 a0_8) ∧ w'.cell? ⟨gb196, 9, none⟩ = some (.int .u16 a0_9) ∧ w'.cell? ⟨gb196, 10, none⟩ = some (.int .u16 a0_10) ∧ w'.cell? ⟨gb196, 11, none⟩ = some (.int .u16 a0_11) ∧ w'.cell? ⟨gb197, 0, none⟩ = some (.int .i8 a1_0) ∧ w'.cell? ⟨gb197, 1, none⟩ = some (.int .i8 a1_1) ∧ w'.cell? ⟨gb198, 0, none⟩ = some (.int .i8 a2_0) ∧ w'.cell? ⟨gb198, 1, none⟩ = some (.int .i8 a2_1)) (ds := []) (bA 13 0) (by kernel_rfl) rfl rfl (cr12 BK196 ⟨(blk_cell BK197.out 0).trans rfl, (blk_cell BK197.out 1).trans rfl, (blk_cell BK198.out 0).trans rfl, (blk_cell BK198.out 1).trans rfl⟩) (fun hHeld => ?_); refine with_tabW impl_StepsBetween.tab1 impl_StepsBetween.bits1 (fun HT_ HW_ => ?_)
 generalize w10.drew = w11 at BK196 BK197 BK198 HB hHeld ⊢
 refine tK 0 11 (bA 13 1) HT_ HW_ hHeld ?_
 refine tK 1 12 (bA 13 3) HT_ HW_ hHeld ?_
 refine tK 2 13 (bA 13 7) HT_ HW_ hHeld ?_
 refine tK 5 16 (bA 13 39) HT_ HW_ hHeld ?_
 refine tK 6 17 (bA 13 103) HT_ HW_ hHeld ?_
 refine tK 7 18 (bA 13 231) HT_ HW_ hHeld ?_
 refine join_ (σ := Value × Value) 4 #[true, true, true, true, true, true, true, true, true, false, false, false, false] (fun s_ => [(14, s_.1), (15, .int .i64 t202), (19, s_.2)]) (fun s_ w' => (w'.cell? ⟨gb196, 0, none⟩ = some (.int .i8 a0_0) ∧ w'.cell? ⟨gb196, 1, none⟩ = some (.int .i8 a0_1) ∧ w'.cell? ⟨gb196, 2, none⟩ = some (.int .u16 a0_2) ∧ w'.cell? ⟨gb196, 3, none⟩ = some (.int .u16 a0_3) ∧ w'.cell? ⟨gb196, 4, none⟩ = some (.int .u16 a0_4) ∧ w'.cell? ⟨gb196, 5, none⟩ = some (.int .u16 a0_5) ∧ w'.cell? ⟨gb196, 6, none⟩ = some (.int .u16 a0_6) ∧ w'.cell? ⟨gb196, 7, none⟩ = some (.int .u16 a0_7) ∧ w'.cell? ⟨gb196, 8, none⟩ = some (.int .u16 a0_8) ∧ w'.cell? ⟨gb196, 9, none⟩ = some (.int .u16 a0_9) ∧ w'.cell? ⟨gb196, 10, none⟩ = some (.int .u16 a0_10) ∧ w'.cell? ⟨gb196, 11, none⟩ = some (.int .u16 a0_11) ∧ w'.cell? ⟨gb197, 0, none⟩ = some (.int .i8 a1_0) ∧ w'.cell? ⟨gb197, 1, none⟩ = some (.int .i8 a1_1) ∧ w'.cell? ⟨gb198, 0, none⟩ = some (.int .i8 a2_0) ∧ w'.cell? ⟨gb198, 1, none⟩ = some (.int .i8 a2_1)) ∧ (Kd.R k62 62 w' w.heap.size (fun k_ => some k_ ≠ (s_.2 : Value).ownBlock ∧ k_ ≠ gb197 ∧ k_ ≠ gb198) s_.1 y199) ∧ (Kd.R k62 62 w' w.heap.size (fun k_ => some k_ ≠ (s_.1 : Value).ownBlock ∧ k_ ≠ gb197 ∧ k_ ≠ gb198) s_.2 y203) ∧ (w'.heap[gb196]? = some (.cells #[.int .i8 a0_0, .int .i8 a0_1, .int .u16 a0_2, .int .u16 a0_3, .int .u16 a0_4, .int .u16 a0_5, .int .u16 a0_6, .int .u16 a0_7, .int .u16 a0_8, .int .u16 a0_9, .int .u16 a0_10, .int .u16 a0_11] 35 (0, 0))) ∧ (w'.heap[gb197]? = some (.cells #[.int .i8 a1_0, .int .i8 a1_1] 62 (0, 0))) ∧ (w'.heap[gb198]? = some (.cells #[.int .i8 a2_0, .int .i8 a2_1] 62 (0, 0))) ∧ (Below w.heap.size w w')) ?_ ?_
 rotate_left
 {
 intro hCont
 refine two_ (i := 3) (j := 8) (Ni := some 14) (Nj := some 19) #[true, true, true, true, false, true, true, true, false, false, false, false, false] #[true, true, true, false, false, true, true, true, true, false, false, false, false] rfl rfl rfl rfl (two_of HT_.out (by kernel_rfl)) (by decide) (by decide) (fun K hK => ?_) (fun K hK => ?_)
 {
 skip
 refine Kd.R_lit_step k62 _ 62 ?hg (N := 14) ?hd (xs := ([(⟨a1_0, a1_1⟩ : S62), (⟨a2_0, a2_1⟩ : S62)] : List (S62))) (inner := [.int .i8 a1_0, .int .i8 a1_1, .int .i8 a2_0, .int .i8 a2_1]) (ok := fun _ => True) (okp := fun _ => True) ?hr ?hp (fun _ hk => hk) trivial (Below.refl _ _) (Nat.le_refl _) (by simp) ?_; (case hd => rfl); (case hg => rfl); (case hr => first | (go_simp; done) | (go_simp; rfl)); (case hp => exact (Reps.c2 (show Kd.M k62 _ _ _ (⟨a1_0, a1_1⟩ : S62) [.int .i8 a1_0, .int .i8 a1_1] from (k62_mkM _ _ _ (⟨a1_0, a1_1⟩ : S62) )) (Reps.c2 (show Kd.M k62 _ _ _ (⟨a2_0, a2_1⟩ : S62) [.int .i8 a2_0, .int .i8 a2_1] from (k62_mkM _ _ _ (⟨a2_0, a2_1⟩ : S62) )) (Reps.none _ _))))
 intro v200 w12 ho13 hb hg_ hnew_
 clear hg_ hnew_
 (first | rw [← Ny199.out] at ho13 | (simp only [Int.reduceToNat] at ho13; rw [← Ny199.out] at ho13))
 have HO201 := ak (Kd.R_lower (Kd.R_newB (Kd.R_newB ho13 (g := gb197) (o := .cells #[.int .i8 a1_0, .int .i8 a1_1] 62 (0, 0)) (zK BK197.out)) (g := gb198) (o := .cells #[.int .i8 a2_0, .int .i8 a2_1] 62 (0, 0)) (zK BK198.out)) (below_size (zH3 HB GE196 GE197 GE198)))
 replace BK196 := kK BK196 hb
 replace BK197 := kK BK197 hb
 replace BK198 := kK BK198 hb
 replace HB := kB3 HB GE196 GE197 GE198 hb
 obtain ⟨Ao14, co14, eo14⟩ := Kd.R_slice HO201.out
 (first | subst eo14 | (injection eo14 with f1_ f2_ f3_; have f4_ := f1_.symm; have f5_ := f3_.symm; clear f1_ f2_ f3_; subst f4_; subst f5_))
 refine hK.out _ _ (cr12 BK196 ⟨(blk_cell BK197.out 0).trans rfl, (blk_cell BK197.out 1).trans rfl, (blk_cell BK198.out 0).trans rfl, (blk_cell BK198.out 1).trans rfl⟩) (fun hHeld => ?_)
 clear hK K
 refine norm_ (a' := ?_) ?_ ?_
 rotate_left
 {
 show Act.put _ (some 14) _ = _
 simp only [Act.put, zs, zz, zk, i64_w, i32_w]
 rfl
 }
 refine two_ (i := 4) (j := 8) (Ni := some 15) (Nj := some 19) #[true, true, true, true, true, true, true, true, false, false, false, false, false] #[true, true, true, true, false, true, true, true, true, false, false, false, false] rfl rfl rfl rfl (two_of HT_.out (by kernel_rfl)) (by decide) (by decide) (fun K hK => ?_) (fun K hK => ?_)
 {
 skip
 refine goes_ Try.func46 (by kernel_rfl) rfl #[.agg #[.int .i8 a0_0, .int .i8 a0_1, .int .u16 a0_2, .int .u16 a0_3, .int .u16 a0_4, .int .u16 a0_5, .int .u16 a0_6, .int .u16 a0_7, .int .u16 a0_8, .int .u16 a0_9, .int .u16 a0_10, .int .u16 a0_11], .slice Ao14 y199.length co14] (by rfl) rfl rfl gl_ ?_
 with_reducible refine (impl_cellCode.calls k a0_0 a0_1 a0_2 a0_3 a0_4 a0_5 a0_6 a0_7 a0_8 a0_9 a0_10 a0_11 _ _ y199 t202 _ ?side1 ?side2 A4.out).mono ?_
 (case side1 => exact zC (Kd.R_reads' HO201.out).2.2)
 (case side2 => exact (Kd.R_reads' HO201.out).2.1)
 rintro e w15 ⟨rfl, hb⟩
 refine ⟨_, rfl, ?_⟩
 replace HO201 := kR HO201 hb
 replace BK196 := kK BK196 hb
 replace BK197 := kK BK197 hb
 replace BK198 := kK BK198 hb
 replace HB := kB3 HB GE196 GE197 GE198 hb
 (try clear hb)
 refine hK.out _ _ (cr12 BK196 ⟨(blk_cell BK197.out 0).trans rfl, (blk_cell BK197.out 1).trans rfl, (blk_cell BK198.out 0).trans rfl, (blk_cell BK198.out 1).trans rfl⟩) (fun hHeld => ?_)
 clear hK K
 refine norm_ (a' := ?_) ?_ ?_
 rotate_left
 {
 show Act.put _ (some 15) _ = _
 simp only [Act.put, zs, zz, zk, i64_w, i32_w]
 rfl
 }
 refine one_ (i := 8) (N := some 19) (bA 13 511) rfl rfl (one_of HT_.out (by kernel_rfl)) (by decide) (fun K hK => ?_)
 refine Kd.R_lit_step k62 _ 62 ?hg (N := 19) ?hd (xs := ([(⟨a1_0, a1_1⟩ : S62), (⟨a2_0, a2_1⟩ : S62)] : List (S62))) (inner := [.int .i8 a1_0, .int .i8 a1_1, .int .i8 a2_0, .int .i8 a2_1]) (ok := fun _ => True) (okp := fun _ => True) ?hr ?hp (fun _ hk => hk) trivial (Below.refl _ _) (Nat.le_refl _) (by simp) ?_; (case hd => rfl); (case hg => rfl); (case hr => first | (go_simp; done) | (go_simp; rfl)); (case hp => exact (Reps.c2 (show Kd.M k62 _ _ _ (⟨a1_0, a1_1⟩ : S62) [.int .i8 a1_0, .int .i8 a1_1] from (k62_mkM _ _ _ (⟨a1_0, a1_1⟩ : S62) )) (Reps.c2 (show Kd.M k62 _ _ _ (⟨a2_0, a2_1⟩ : S62) [.int .i8 a2_0, .int .i8 a2_1] from (k62_mkM _ _ _ (⟨a2_0, a2_1⟩ : S62) )) (Reps.none _ _))))
 intro v204 w16 ho17 hb hg_ hnew_
 clear hg_ hnew_
 (first | rw [← Ny203.out] at ho17 | (simp only [Int.reduceToNat] at ho17; rw [← Ny203.out] at ho17))
 have HO205 := ak (Kd.R_lower (Kd.R_newB (Kd.R_newB (Kd.R_new' ho17 (Kd.R_lt (zR HO201.out))) (g := gb197) (o := .cells #[.int .i8 a1_0, .int .i8 a1_1] 62 (0, 0)) (zK BK197.out)) (g := gb198) (o := .cells #[.int .i8 a2_0, .int .i8 a2_1] 62 (0, 0)) (zK BK198.out)) (below_size (zH3 HB GE196 GE197 GE198)))
 replace HO201 := kE HO201 ho17 hb
 replace BK196 := kK BK196 hb
 replace BK197 := kK BK197 hb
 replace BK198 := kK BK198 hb
 replace HB := kB3 HB GE196 GE197 GE198 hb
 refine hK.out _ _ (cr12 BK196 ⟨(blk_cell BK197.out 0).trans rfl, (blk_cell BK197.out 1).trans rfl, (blk_cell BK198.out 0).trans rfl, (blk_cell BK198.out 1).trans rfl⟩) (fun hHeld => ?_)
 clear hK K
 refine norm_ (a' := ?_) ?_ ?_
 rotate_left
 {
 show Act.put _ (some 19) _ = _
 simp only [Act.put, zs, zz, zk, i64_w, i32_w]
 rfl
 }
 exact norm_ (by simp only [putAll, Act.put, zs, zz, zk]) (hCont (.slice Ao14 y199.length co14, v204) _ ⟨hHeld, (by (with_reducible repeat (first | apply Kd.R_alloc | apply Kd.R_drewN | apply Kd.R_drew)); exact Kd.R_mono HO201.out (fun _ hk => ⟨hk.2, ⟨hk.1.1.2, hk.1.2⟩⟩)), (by (with_reducible repeat (first | apply Kd.R_alloc | apply Kd.R_drewN | apply Kd.R_drew)); exact Kd.R_mono HO205.out (fun _ hk => ⟨hk.1.1.2, ⟨hk.1.2, hk.2⟩⟩)), (zK BK196.out), (zK BK197.out), (zK BK198.out), (zH3 HB GE196 GE197 GE198)⟩)
 }
 {
 skip
 refine Kd.R_lit_step k62 _ 62 ?hg (N := 19) ?hd (xs := ([(⟨a1_0, a1_1⟩ : S62), (⟨a2_0, a2_1⟩ : S62)] : List (S62))) (inner := [.int .i8 a1_0, .int .i8 a1_1, .int .i8 a2_0, .int .i8 a2_1]) (ok := fun _ => True) (okp := fun _ => True) ?hr ?hp (fun _ hk => hk) trivial (Below.refl _ _) (Nat.le_refl _) (by simp) ?_; (case hd => rfl); (case hg => rfl); (case hr => first | (go_simp; done) | (go_simp; rfl)); (case hp => exact (Reps.c2 (show Kd.M k62 _ _ _ (⟨a1_0, a1_1⟩ : S62) [.int .i8 a1_0, .int .i8 a1_1] from (k62_mkM _ _ _ (⟨a1_0, a1_1⟩ : S62) )) (Reps.c2 (show Kd.M k62 _ _ _ (⟨a2_0, a2_1⟩ : S62) [.int .i8 a2_0, .int .i8 a2_1] from (k62_mkM _ _ _ (⟨a2_0, a2_1⟩ : S62) )) (Reps.none _ _))))
 intro v204 w14 ho15 hb hg_ hnew_
 clear hg_ hnew_
 (first | rw [← Ny203.out] at ho15 | (simp only [Int.reduceToNat] at ho15; rw [← Ny203.out] at ho15))
 have HO205 := ak (Kd.R_lower (Kd.R_newB (Kd.R_newB (Kd.R_new' ho15 (Kd.R_lt (zR HO201.out))) (g := gb197) (o := .cells #[.int .i8 a1_0, .int .i8 a1_1] 62 (0, 0)) (zK BK197.out)) (g := gb198) (o := .cells #[.int .i8 a2_0, .int .i8 a2_1] 62 (0, 0)) (zK BK198.out)) (below_size (zH3 HB GE196 GE197 GE198)))
 replace HO201 := kE HO201 ho15 hb
 replace BK196 := kK BK196 hb
 replace BK197 := kK BK197 hb
 replace BK198 := kK BK198 hb
 replace HB := kB3 HB GE196 GE197 GE198 hb
 obtain ⟨Ao16, co16, eo16⟩ := Kd.R_slice HO201.out
 (first | subst eo16 | (injection eo16 with f1_ f2_ f3_; have f4_ := f1_.symm; have f5_ := f3_.symm; clear f1_ f2_ f3_; subst f4_; subst f5_))
 refine hK.out _ _ (cr12 BK196 ⟨(blk_cell BK197.out 0).trans rfl, (blk_cell BK197.out 1).trans rfl, (blk_cell BK198.out 0).trans rfl, (blk_cell BK198.out 1).trans rfl⟩) (fun hHeld => ?_)
 clear hK K
 refine norm_ (a' := ?_) ?_ ?_
 rotate_left
 {
 show Act.put _ (some 19) _ = _
 simp only [Act.put, zs, zz, zk, i64_w, i32_w]
 rfl
 }
 refine one_ (i := 4) (N := some 15) (bA 13 511) rfl rfl (one_of HT_.out (by kernel_rfl)) (by decide) (fun K hK => ?_)
 refine goes_ Try.func46 (by kernel_rfl) rfl #[.agg #[.int .i8 a0_0, .int .i8 a0_1, .int .u16 a0_2, .int .u16 a0_3, .int .u16 a0_4, .int .u16 a0_5, .int .u16 a0_6, .int .u16 a0_7, .int .u16 a0_8, .int .u16 a0_9, .int .u16 a0_10, .int .u16 a0_11], .slice Ao16 y199.length co16] (by rfl) rfl rfl gl_ ?_
 with_reducible refine (impl_cellCode.calls k a0_0 a0_1 a0_2 a0_3 a0_4 a0_5 a0_6 a0_7 a0_8 a0_9 a0_10 a0_11 _ _ y199 t202 _ ?side1 ?side2 A4.out).mono ?_
 (case side1 => exact zC (Kd.R_reads' HO201.out).2.2)
 (case side2 => exact (Kd.R_reads' HO201.out).2.1)
 rintro e w17 ⟨rfl, hb⟩
 refine ⟨_, rfl, ?_⟩
 replace HO201 := kR HO201 hb
 replace HO205 := kR HO205 hb
 replace BK196 := kK BK196 hb
 replace BK197 := kK BK197 hb
 replace BK198 := kK BK198 hb
 replace HB := kB3 HB GE196 GE197 GE198 hb
 (try clear hb)
 refine hK.out _ _ (cr12 BK196 ⟨(blk_cell BK197.out 0).trans rfl, (blk_cell BK197.out 1).trans rfl, (blk_cell BK198.out 0).trans rfl, (blk_cell BK198.out 1).trans rfl⟩) (fun hHeld => ?_)
 clear hK K
 refine norm_ (a' := ?_) ?_ ?_
 rotate_left
 {
 show Act.put _ (some 15) _ = _
 simp only [Act.put, zs, zz, zk, i64_w, i32_w]
 rfl
 }
 exact norm_ (by simp only [putAll, Act.put, zs, zz, zk]) (hCont (.slice Ao16 y199.length co16, v204) _ ⟨hHeld, (by (with_reducible repeat (first | apply Kd.R_alloc | apply Kd.R_drewN | apply Kd.R_drew)); exact Kd.R_mono HO201.out (fun _ hk => ⟨hk.2, ⟨hk.1.1.2, hk.1.2⟩⟩)), (by (with_reducible repeat (first | apply Kd.R_alloc | apply Kd.R_drewN | apply Kd.R_drew)); exact Kd.R_mono HO205.out (fun _ hk => ⟨hk.1.1.2, ⟨hk.1.2, hk.2⟩⟩)), (zK BK196.out), (zK BK197.out), (zK BK198.out), (zH3 HB GE196 GE197 GE198)⟩)
 }
 }
 {
 skip
 refine Kd.R_lit_step k62 _ 62 ?hg (N := 19) ?hd (xs := ([(⟨a1_0, a1_1⟩ : S62), (⟨a2_0, a2_1⟩ : S62)] : List (S62))) (inner := [.int .i8 a1_0, .int .i8 a1_1, .int .i8 a2_0, .int .i8 a2_1]) (ok := fun _ => True) (okp := fun _ => True) ?hr ?hp (fun _ hk => hk) trivial (Below.refl _ _) (Nat.le_refl _) (by simp) ?_; (case hd => rfl); (case hg => rfl); (case hr => first | (go_simp; done) | (go_simp; rfl)); (case hp => exact (Reps.c2 (show Kd.M k62 _ _ _ (⟨a1_0, a1_1⟩ : S62) [.int .i8 a1_0, .int .i8 a1_1] from (k62_mkM _ _ _ (⟨a1_0, a1_1⟩ : S62) )) (Reps.c2 (show Kd.M k62 _ _ _ (⟨a2_0, a2_1⟩ : S62) [.int .i8 a2_0, .int .i8 a2_1] from (k62_mkM _ _ _ (⟨a2_0, a2_1⟩ : S62) )) (Reps.none _ _))))
 intro v204 w12 ho13 hb hg_ hnew_
 clear hg_ hnew_
 (first | rw [← Ny203.out] at ho13 | (simp only [Int.reduceToNat] at ho13; rw [← Ny203.out] at ho13))
 have HO205 := ak (Kd.R_lower (Kd.R_newB (Kd.R_newB ho13 (g := gb197) (o := .cells #[.int .i8 a1_0, .int .i8 a1_1] 62 (0, 0)) (zK BK197.out)) (g := gb198) (o := .cells #[.int .i8 a2_0, .int .i8 a2_1] 62 (0, 0)) (zK BK198.out)) (below_size (zH3 HB GE196 GE197 GE198)))
 replace BK196 := kK BK196 hb
 replace BK197 := kK BK197 hb
 replace BK198 := kK BK198 hb
 replace HB := kB3 HB GE196 GE197 GE198 hb
 refine hK.out _ _ (cr12 BK196 ⟨(blk_cell BK197.out 0).trans rfl, (blk_cell BK197.out 1).trans rfl, (blk_cell BK198.out 0).trans rfl, (blk_cell BK198.out 1).trans rfl⟩) (fun hHeld => ?_)
 clear hK K
 refine norm_ (a' := ?_) ?_ ?_
 rotate_left
 {
 show Act.put _ (some 19) _ = _
 simp only [Act.put, zs, zz, zk, i64_w, i32_w]
 rfl
 }
 refine one_ (i := 3) (N := some 14) (bA 13 495) rfl rfl (one_of HT_.out (by kernel_rfl)) (by decide) (fun K hK => ?_)
 refine Kd.R_lit_step k62 _ 62 ?hg (N := 14) ?hd (xs := ([(⟨a1_0, a1_1⟩ : S62), (⟨a2_0, a2_1⟩ : S62)] : List (S62))) (inner := [.int .i8 a1_0, .int .i8 a1_1, .int .i8 a2_0, .int .i8 a2_1]) (ok := fun _ => True) (okp := fun _ => True) ?hr ?hp (fun _ hk => hk) trivial (Below.refl _ _) (Nat.le_refl _) (by simp) ?_; (case hd => rfl); (case hg => rfl); (case hr => first | (go_simp; done) | (go_simp; rfl)); (case hp => exact (Reps.c2 (show Kd.M k62 _ _ _ (⟨a1_0, a1_1⟩ : S62) [.int .i8 a1_0, .int .i8 a1_1] from (k62_mkM _ _ _ (⟨a1_0, a1_1⟩ : S62) )) (Reps.c2 (show Kd.M k62 _ _ _ (⟨a2_0, a2_1⟩ : S62) [.int .i8 a2_0, .int .i8 a2_1] from (k62_mkM _ _ _ (⟨a2_0, a2_1⟩ : S62) )) (Reps.none _ _))))
 intro v200 w14 ho15 hb hg_ hnew_
 clear hg_ hnew_
 (first | rw [← Ny199.out] at ho15 | (simp only [Int.reduceToNat] at ho15; rw [← Ny199.out] at ho15))
 have HO201 := ak (Kd.R_lower (Kd.R_newB (Kd.R_newB (Kd.R_new' ho15 (Kd.R_lt (zR HO205.out))) (g := gb197) (o := .cells #[.int .i8 a1_0, .int .i8 a1_1] 62 (0, 0)) (zK BK197.out)) (g := gb198) (o := .cells #[.int .i8 a2_0, .int .i8 a2_1] 62 (0, 0)) (zK BK198.out)) (below_size (zH3 HB GE196 GE197 GE198)))
 replace HO205 := kE HO205 ho15 hb
 replace BK196 := kK BK196 hb
 replace BK197 := kK BK197 hb
 replace BK198 := kK BK198 hb
 replace HB := kB3 HB GE196 GE197 GE198 hb
 obtain ⟨Ao16, co16, eo16⟩ := Kd.R_slice HO201.out
 (first | subst eo16 | (injection eo16 with f1_ f2_ f3_; have f4_ := f1_.symm; have f5_ := f3_.symm; clear f1_ f2_ f3_; subst f4_; subst f5_))
 refine hK.out _ _ (cr12 BK196 ⟨(blk_cell BK197.out 0).trans rfl, (blk_cell BK197.out 1).trans rfl, (blk_cell BK198.out 0).trans rfl, (blk_cell BK198.out 1).trans rfl⟩) (fun hHeld => ?_)
 clear hK K
 refine norm_ (a' := ?_) ?_ ?_
 rotate_left
 {
 show Act.put _ (some 14) _ = _
 simp only [Act.put, zs, zz, zk, i64_w, i32_w]
 rfl
 }
 refine one_ (i := 4) (N := some 15) (bA 13 511) rfl rfl (one_of HT_.out (by kernel_rfl)) (by decide) (fun K hK => ?_)
 refine goes_ Try.func46 (by kernel_rfl) rfl #[.agg #[.int .i8 a0_0, .int .i8 a0_1, .int .u16 a0_2, .int .u16 a0_3, .int .u16 a0_4, .int .u16 a0_5, .int .u16 a0_6, .int .u16 a0_7, .int .u16 a0_8, .int .u16 a0_9, .int .u16 a0_10, .int .u16 a0_11], .slice Ao16 y199.length co16] (by rfl) rfl rfl gl_ ?_
 with_reducible refine (impl_cellCode.calls k a0_0 a0_1 a0_2 a0_3 a0_4 a0_5 a0_6 a0_7 a0_8 a0_9 a0_10 a0_11 _ _ y199 t202 _ ?side1 ?side2 A4.out).mono ?_
 (case side1 => exact zC (Kd.R_reads' HO201.out).2.2)
 (case side2 => exact (Kd.R_reads' HO201.out).2.1)
 rintro e w17 ⟨rfl, hb⟩
 refine ⟨_, rfl, ?_⟩
 replace HO205 := kR HO205 hb
 replace HO201 := kR HO201 hb
 replace BK196 := kK BK196 hb
 replace BK197 := kK BK197 hb
 replace BK198 := kK BK198 hb
 replace HB := kB3 HB GE196 GE197 GE198 hb
 (try clear hb)
 refine hK.out _ _ (cr12 BK196 ⟨(blk_cell BK197.out 0).trans rfl, (blk_cell BK197.out 1).trans rfl, (blk_cell BK198.out 0).trans rfl, (blk_cell BK198.out 1).trans rfl⟩) (fun hHeld => ?_)
 clear hK K
 refine norm_ (a' := ?_) ?_ ?_
 rotate_left
 {
 show Act.put _ (some 15) _ = _
 simp only [Act.put, zs, zz, zk, i64_w, i32_w]
 rfl
 }
 exact norm_ (by simp only [putAll, Act.put, zs, zz, zk]) (hCont (.slice Ao16 y199.length co16, v204) _ ⟨hHeld, (by (with_reducible repeat (first | apply Kd.R_alloc | apply Kd.R_drewN | apply Kd.R_drew)); exact Kd.R_mono HO201.out (fun _ hk => ⟨hk.1.1.2, ⟨hk.1.2, hk.2⟩⟩)), (by (with_reducible repeat (first | apply Kd.R_alloc | apply Kd.R_drewN | apply Kd.R_drew)); exact Kd.R_mono HO205.out (fun _ hk => ⟨hk.2, ⟨hk.1.1.2, hk.1.2⟩⟩)), (zK BK196.out), (zK BK197.out), (zK BK198.out), (zH3 HB GE196 GE197 GE198)⟩)
 }
 }
 rintro ⟨v200, v204⟩ w18 ⟨hS_, h0_, h1_, h2_, h3_, h4_, h5_⟩
 have n0_ : Aside0 (Kd.R k62 62 w18 w.heap.size (fun k_ => some k_ ≠ (v204 : Value).ownBlock ∧ k_ ≠ gb197 ∧ k_ ≠ gb198) v200 y199) := ⟨h0_⟩
 have n1_ : Aside0 (Kd.R k62 62 w18 w.heap.size (fun k_ => some k_ ≠ (v200 : Value).ownBlock ∧ k_ ≠ gb197 ∧ k_ ≠ gb198) v204 y203) := ⟨h1_⟩
 have n2_ : Aside0 (w18.heap[gb196]? = some (.cells #[.int .i8 a0_0, .int .i8 a0_1, .int .u16 a0_2, .int .u16 a0_3, .int .u16 a0_4, .int .u16 a0_5, .int .u16 a0_6, .int .u16 a0_7, .int .u16 a0_8, .int .u16 a0_9, .int .u16 a0_10, .int .u16 a0_11] 35 (0, 0))) := ⟨h2_⟩
 have n3_ : Aside0 (w18.heap[gb197]? = some (.cells #[.int .i8 a1_0, .int .i8 a1_1] 62 (0, 0))) := ⟨h3_⟩
 have n4_ : Aside0 (w18.heap[gb198]? = some (.cells #[.int .i8 a2_0, .int .i8 a2_1] 62 (0, 0))) := ⟨h4_⟩
 have n5_ : Aside0 (Below w.heap.size w w18) := ⟨h5_⟩
 clear BK196 BK197 BK198 HB h0_ h1_ h2_ h3_ h4_ h5_
 have HO201 := n0_
 have HO205 := n1_
 have BK196 := n2_
 have BK197 := n3_
 have BK198 := n4_
 have HB := n5_
 clear n0_ n1_ n2_ n3_ n4_ n5_
 have hHeld : w18.cell? ⟨gb196, 0, none⟩ = some (.int .i8 a0_0) ∧ w18.cell? ⟨gb196, 1, none⟩ = some (.int .i8 a0_1) ∧ w18.cell? ⟨gb196, 2, none⟩ = some (.int .u16 a0_2) ∧ w18.cell? ⟨gb196, 3, none⟩ = some (.int .u16 a0_3) ∧ w18.cell? ⟨gb196, 4, none⟩ = some (.int .u16 a0_4) ∧ w18.cell? ⟨gb196, 5, none⟩ = some (.int .u16 a0_5) ∧ w18.cell? ⟨gb196, 6, none⟩ = some (.int .u16 a0_6) ∧ w18.cell? ⟨gb196, 7, none⟩ = some (.int .u16 a0_7) ∧ w18.cell? ⟨gb196, 8, none⟩ = some (.int .u16 a0_8) ∧ w18.cell? ⟨gb196, 9, none⟩ = some (.int .u16 a0_9) ∧ w18.cell? ⟨gb196, 10, none⟩ = some (.int .u16 a0_10) ∧ w18.cell? ⟨gb196, 11, none⟩ = some (.int .u16 a0_11) ∧ w18.cell? ⟨gb197, 0, none⟩ = some (.int .i8 a1_0) ∧ w18.cell? ⟨gb197, 1, none⟩ = some (.int .i8 a1_1) ∧ w18.cell? ⟨gb198, 0, none⟩ = some (.int .i8 a2_0) ∧ w18.cell? ⟨gb198, 1, none⟩ = some (.int .i8 a2_1) := hS_
 obtain ⟨Ao19, co19, eo19⟩ := Kd.R_slice HO205.out
 (first | subst eo19 | (injection eo19 with f1_ f2_ f3_; have f4_ := f1_.symm; have f5_ := f3_.symm; clear f1_ f2_ f3_; subst f4_; subst f5_))
 refine norm_ (a' := ?_) ?_ ?_
 rotate_left
 · simp only [putAll, Act.put, zs, zz, zk]; rfl
 refine one_ (i := 9) (N := some 20) (bA 13 1023) rfl rfl (one_of HT_.out (by kernel_rfl)) (by decide) (fun K hK => ?_)
 refine goes_ Try.func92 (by kernel_rfl) rfl #[.agg #[.int .i8 a0_0, .int .i8 a0_1, .int .u16 a0_2, .int .u16 a0_3, .int .u16 a0_4, .int .u16 a0_5, .int .u16 a0_6, .int .u16 a0_7, .int .u16 a0_8, .int .u16 a0_9, .int .u16 a0_10, .int .u16 a0_11], .slice Ao19 y203.length co19] (by rfl) rfl rfl gl_ ?_
 with_reducible refine (impl_stateCode.calls k a0_0 a0_1 a0_2 a0_3 a0_4 a0_5 a0_6 a0_7 a0_8 a0_9 a0_10 a0_11 _ _ y203 t206 _ ?side1 ?side2 A5.out).mono ?_
 (case side1 => exact zC (Kd.R_reads' HO205.out).2.2)
 (case side2 => exact (Kd.R_reads' HO205.out).2.1)
 rintro e w20 ⟨rfl, hb⟩
 refine ⟨_, rfl, ?_⟩
 replace HO201 := kR HO201 hb
 replace HO205 := kR HO205 hb
 replace BK196 := kK BK196 hb
 replace BK197 := kK BK197 hb
 replace BK198 := kK BK198 hb
 replace HB := kB3 HB GE196 GE197 GE198 hb
 (try clear hb)
 refine hK.out _ _ (cr12 BK196 ⟨(blk_cell BK197.out 0).trans rfl, (blk_cell BK197.out 1).trans rfl, (blk_cell BK198.out 0).trans rfl, (blk_cell BK198.out 1).trans rfl⟩) (fun hHeld => ?_)
 clear hK K
 refine norm_ (a' := ?_) ?_ ?_
 rotate_left
 {
 show Act.put _ (some 20) _ = _
 simp only [Act.put, zs, zz, zk, i64_w, i32_w]
 rfl
 }
 refine one_ (i := 10) (N := some 21) (bA 13 2047) rfl rfl (one_of HT_.out (by kernel_rfl)) (by decide) (fun K hK => ?_)
 refine Kd.R_lit_step (Kd.int .i64) _ 2 ?hg (N := 21) ?hd (xs := ([t202, t206] : List Int)) (inner := [.int .i64 t202, .int .i64 t206]) (ok := fun _ => True) (okp := fun _ => True) ?hr ?hp (fun _ hk => hk) trivial (Below.refl _ _) (Nat.le_refl _) (by simp) ?_; (case hd => rfl); (case hg => rfl); (case hr => first | (go_simp; done) | (go_simp; rfl)); (case hp => exact (Reps.one (show Kd.M (Kd.int .i64) _ _ _ t202 [.int .i64 t202] from rfl) (Reps.one (show Kd.M (Kd.int .i64) _ _ _ t206 [.int .i64 t206] from rfl) (Reps.none _ _))))
 intro v208 w21 ho22 hb hg_ hnew_
 clear hg_ hnew_
 (first | rw [← Ny207.out] at ho22 | (simp only [Int.reduceToNat] at ho22; rw [← Ny207.out] at ho22))
 have HO209 := ak (Kd.R_lower ho22 (below_size (zH3 HB GE196 GE197 GE198)))
 replace HO201 := kR HO201 hb
 replace HO205 := kR HO205 hb
 replace BK196 := kK BK196 hb
 replace BK197 := kK BK197 hb
 replace BK198 := kK BK198 hb
 replace HB := kB3 HB GE196 GE197 GE198 hb
 obtain ⟨Ao23, co23, eo23⟩ := Kd.R_slice HO209.out
 (first | subst eo23 | (injection eo23 with f1_ f2_ f3_; have f4_ := f1_.symm; have f5_ := f3_.symm; clear f1_ f2_ f3_; subst f4_; subst f5_))
 refine hK.out _ _ (cr12 BK196 ⟨(blk_cell BK197.out 0).trans rfl, (blk_cell BK197.out 1).trans rfl, (blk_cell BK198.out 0).trans rfl, (blk_cell BK198.out 1).trans rfl⟩) (fun hHeld => ?_)
 clear hK K
 refine norm_ (a' := ?_) ?_ ?_
 rotate_left
 {
 show Act.put _ (some 21) _ = _
 simp only [Act.put, zs, zz, zk, i64_w, i32_w]
 rfl
 }
 refine one_ (i := 11) (N := some 22) (bA 13 4095) rfl rfl (one_of HT_.out (by kernel_rfl)) (by decide) (fun K hK => ?_)
 refine goes_ Try.func91 (by kernel_rfl) rfl #[.slice Ao23 y207.length co23] (by rfl) rfl rfl gl_ ?_
 with_reducible refine (impl_firstOf.calls k _ _ y207 t210 _ ?side1 ?side2 A6.out).mono ?_
 (case side1 => exact zC (Kd.R_reads' HO209.out).2.2)
 (case side2 => exact (Kd.R_reads' HO209.out).2.1)
 rintro e w' ⟨rfl, ⟨nd, rfl⟩⟩
 refine ⟨_, rfl, ?_⟩
 refine hK.out _ _ (cr12 BK196 ⟨(blk_cell BK197.out 0).trans rfl, (blk_cell BK197.out 1).trans rfl, (blk_cell BK198.out 0).trans rfl, (blk_cell BK198.out 1).trans rfl⟩) (fun hHeld => ?_)
 clear hK K
 refine norm_ (a' := ?_) ?_ ?_
 rotate_left
 {
 show Act.put _ (some 22) _ = _
 simp only [Act.put, zs, zz, zk, i64_w, i32_w]
 rfl
 }
 refine pU 12 8 (bA 13 8191) HT_ ?_
 refine done_ (done_of HT_.out (by kernel_rfl)) ?_
 go_wp2
 have hF : ((Go.Proofs.Ytooidjdgfoioiaa.H.bfsFrom (impl_StepsBetween.bes k a0_0 a0_1 a0_2 a0_3 a0_4 a0_5 a0_6 a0_7 a0_8 a0_9 a0_10 a0_11) k (a1_0, a1_1)).bind fun R => (if Go.Proofs.Ytooidjdgfoioiaa.H.inG (a2_0, a2_1) = true then some (match R (a2_0, a2_1) with | some d => ((d, 0) : Int × Int) | none => (0, 6)) else none)) = some (r1, r2) := HF.out
 obtain ⟨RR, hRR, hF⟩ := Option.bind_eq_some_iff.mp hF
 by_cases cg : Go.Proofs.Ytooidjdgfoioiaa.H.inG (a2_0, a2_1) = true
 {
 rw [if_pos cg] at hF
 have hF2 := ak (Option.some.inj hF)
 clear hF HF hHeld
 have hB4 := below_drew1 (pw_below_drewN HB.out nd)
 refine start_ (n := 10) (S := fun w' => w'.heap[gb196]? = some (.cells #[.int .i8 a0_0, .int .i8 a0_1, .int .u16 a0_2, .int .u16 a0_3, .int .u16 a0_4, .int .u16 a0_5, .int .u16 a0_6, .int .u16 a0_7, .int .u16 a0_8, .int .u16 a0_9, .int .u16 a0_10, .int .u16 a0_11] 35 (0, 0)) ∧ w'.heap[gb197]? = some (.cells #[.int .i8 a1_0, .int .i8 a1_1] 62 (0, 0)) ∧ w'.heap[gb198]? = some (.cells #[.int .i8 a2_0, .int .i8 a2_1] 62 (0, 0))) (ds := []) (bA 10 0) (by kernel_rfl) rfl rfl ⟨BK196.out, BK197.out, BK198.out⟩ (fun hHeld4 => ?_)
 generalize (w21.drewN nd).drew = W4 at hB4 hHeld4 ⊢
 refine take_ (i := 0) (N := some 27) (v := ?_) (a' := ?_) (bA 10 1) rfl rfl (by kernel_rfl) (fun _ _ _ h => h) (Or.inl ⟨by rfl, ?_⟩) hHeld4 ?_ ?_
 rotate_left
 {
 rintro w' ⟨s0, s1, s2⟩; have z_gb196_0 : w'.cell? ⟨gb196, 0, none⟩ = some (.int .i8 a0_0) := (blk_cell s0 0).trans rfl; have z_gb196_1 : w'.cell? ⟨gb196, 1, none⟩ = some (.int .i8 a0_1) := (blk_cell s0 1).trans rfl; have z_gb196_2 : w'.cell? ⟨gb196, 2, none⟩ = some (.int .u16 a0_2) := (blk_cell s0 2).trans rfl; have z_gb196_3 : w'.cell? ⟨gb196, 3, none⟩ = some (.int .u16 a0_3) := (blk_cell s0 3).trans rfl; have z_gb196_4 : w'.cell? ⟨gb196, 4, none⟩ = some (.int .u16 a0_4) := (blk_cell s0 4).trans rfl; have z_gb196_5 : w'.cell? ⟨gb196, 5, none⟩ = some (.int .u16 a0_5) := (blk_cell s0 5).trans rfl; have z_gb196_6 : w'.cell? ⟨gb196, 6, none⟩ = some (.int .u16 a0_6) := (blk_cell s0 6).trans rfl; have z_gb196_7 : w'.cell? ⟨gb196, 7, none⟩ = some (.int .u16 a0_7) := (blk_cell s0 7).trans rfl; have z_gb196_8 : w'.cell? ⟨gb196, 8, none⟩ = some (.int .u16 a0_8) := (blk_cell s0 8).trans rfl; have z_gb196_9 : w'.cell? ⟨gb196, 9, none⟩ = some (.int .u16 a0_9) := (blk_cell s0 9).trans rfl; have z_gb196_10 : w'.cell? ⟨gb196, 10, none⟩ = some (.int .u16 a0_10) := (blk_cell s0 10).trans rfl; have z_gb196_11 : w'.cell? ⟨gb196, 11, none⟩ = some (.int .u16 a0_11) := (blk_cell s0 11).trans rfl
 go_simp
 with_reducible rfl
 }
 rotate_left
 · simp only [Act.put, zs, zz, zk, i64_w, i32_w]; rfl
 refine take_ (i := 1) (N := some 28) (v := ?_) (a' := ?_) (bA 10 3) rfl rfl (by kernel_rfl) (fun _ _ _ h => h) (Or.inl ⟨by rfl, ?_⟩) hHeld4 ?_ ?_
 rotate_left
 {
 rintro w' ⟨s0, s1, s2⟩; have z_gb197_0 : w'.cell? ⟨gb197, 0, none⟩ = some (.int .i8 a1_0) := (blk_cell s1 0).trans rfl; have z_gb197_1 : w'.cell? ⟨gb197, 1, none⟩ = some (.int .i8 a1_1) := (blk_cell s1 1).trans rfl
 go_simp
 with_reducible rfl
 }
 rotate_left
 · simp only [Act.put, zs, zz, zk, i64_w, i32_w]; rfl
 refine take_ (i := 3) (N := some 30) (v := ?_) (a' := ?_) (bA 10 11) rfl rfl (by kernel_rfl) (fun _ _ _ h => h) (Or.inl ⟨by rfl, ?_⟩) hHeld4 ?_ ?_
 rotate_left
 {
 rintro w' ⟨s0, s1, s2⟩; have z_gb198_0 : w'.cell? ⟨gb198, 0, none⟩ = some (.int .i8 a2_0) := (blk_cell s2 0).trans rfl; have z_gb198_1 : w'.cell? ⟨gb198, 1, none⟩ = some (.int .i8 a2_1) := (blk_cell s2 1).trans rfl
 go_simp
 with_reducible rfl
 }
 rotate_left
 · simp only [Act.put, zs, zz, zk, i64_w, i32_w]; rfl
 refine one_ (i := 2) (N := some 29) (bA 10 15) rfl rfl (by kernel_rfl) (by decide) (fun K hK => ?_)
 refine goes_ Try.func93 (by kernel_rfl) rfl #[.agg #[.int .i8 a0_0, .int .i8 a0_1, .int .u16 a0_2, .int .u16 a0_3, .int .u16 a0_4, .int .u16 a0_5, .int .u16 a0_6, .int .u16 a0_7, .int .u16 a0_8, .int .u16 a0_9, .int .u16 a0_10, .int .u16 a0_11], .agg #[.int .i8 a1_0, .int .i8 a1_1]] (by rfl) rfl rfl (by (try simp only [List.map_toArray, List.map_cons, List.map_nil]); first | done | rfl) ?_
 refine (impl_StepsBetween.steps_ k a0_0 a0_1 a0_2 a0_3 a0_4 a0_5 a0_6 a0_7 a0_8 a0_9 a0_10 a0_11 (a1_0, a1_1) RR hRR W4).mono ?_
 rintro e W5 ⟨bm, rfl, ⟨nm, Dm, hOm, hDm⟩, hb⟩
 refine ⟨_, rfl, ?_⟩
 have hB5 := hB4.trans (hb.mono hB4.size)
 have hHeld5 : W5.heap[gb196]? = some (.cells #[.int .i8 a0_0, .int .i8 a0_1, .int .u16 a0_2, .int .u16 a0_3, .int .u16 a0_4, .int .u16 a0_5, .int .u16 a0_6, .int .u16 a0_7, .int .u16 a0_8, .int .u16 a0_9, .int .u16 a0_10, .int .u16 a0_11] 35 (0, 0)) ∧ W5.heap[gb197]? = some (.cells #[.int .i8 a1_0, .int .i8 a1_1] 62 (0, 0)) ∧ W5.heap[gb198]? = some (.cells #[.int .i8 a2_0, .int .i8 a2_1] 62 (0, 0)) := ⟨blk_below hHeld4.1 hb, blk_below hHeld4.2.1 hb, blk_below hHeld4.2.2 hb⟩
 refine hK.out _ _ hHeld5 (fun _ => ?_)
 clear hK K
 refine norm_ (a' := ?_) ?_ ?_
 rotate_left
 {
 show Act.put _ (some 29) _ = _
 simp only [Act.put, zs, zz, zk, i64_w, i32_w]
 rfl
 }
 have hlk := (Go.Proofs.Ytooidjdgfoioiaa.H.far_look hOm hDm cg).1
 dsimp only at hlk
 refine one_ (i := 4) (N := some 31) (bA 10 31) rfl rfl (by kernel_rfl) (by decide) (fun K hK => ?_)
 refine event_step (by rfl) (v := .tuple #[.int .i64 ((RR (a2_0, a2_1)).getD 0), .bool (RR (a2_0, a2_1)).isSome]) (w1 := W5) (by first | (go_simp; done) | (go_simp; rfl)) ?_
 refine hK.out _ _ hHeld5 (fun _ => ?_)
 clear hK K
 refine norm_ (a' := ?_) ?_ ?_
 rotate_left
 {
 show Act.put _ (some 31) _ = _
 simp only [Act.put, zs, zz, zk, i64_w, i32_w]
 rfl
 }
 refine pure_ (i := 5) (N := some 26) (v := ?_) (a' := ?_) (bA 10 63) rfl rfl (by kernel_rfl) (fun _ _ _ h => h) (Or.inl ⟨by rfl, ?_⟩) ?_ ?_
 rotate_left
 {
 intro w'
 go_simp
 with_reducible rfl
 }
 rotate_left
 · simp only [Act.put, zs, zz, zk, i64_w, i32_w]; rfl
 refine pure_ (i := 6) (N := some 32) (v := ?_) (a' := ?_) (bA 10 127) rfl rfl (by kernel_rfl) (fun _ _ _ h => h) (Or.inl ⟨by rfl, ?_⟩) ?_ ?_
 rotate_left
 {
 intro w'
 go_simp
 with_reducible rfl
 }
 rotate_left
 · simp only [Act.put, zs, zz, zk, i64_w, i32_w]; rfl
 refine pure_ (i := 7) (N := some 33) (v := ?_) (a' := ?_) (bA 10 255) rfl rfl (by kernel_rfl) (fun _ _ _ h => h) (Or.inl ⟨by rfl, ?_⟩) ?_ ?_
 rotate_left
 {
 intro w'
 go_simp
 with_reducible rfl
 }
 rotate_left
 · simp only [Act.put, zs, zz, zk, i64_w, i32_w]; rfl
 refine pure_ (i := 8) (N := some 9) (v := ?_) (a' := ?_) (bA 10 511) rfl rfl (by kernel_rfl) (fun _ _ _ h => h) (Or.inl ⟨by rfl, ?_⟩) ?_ ?_
 rotate_left
 {
 intro w'
 go_simp
 with_reducible rfl
 }
 rotate_left
 · simp only [Act.put, zs, zz, zk, i64_w, i32_w]; rfl
 refine pure_ (i := 9) (N := some 10) (v := ?_) (a' := ?_) (bA 10 1023) rfl rfl (by kernel_rfl) (fun _ _ _ h => h) (Or.inl ⟨by rfl, ?_⟩) ?_ ?_
 rotate_left
 {
 intro w'
 go_simp
 with_reducible rfl
 }
 rotate_left
 · simp only [Act.put, zs, zz, zk, i64_w, i32_w]; rfl
 refine done_ (by kernel_rfl) ?_
 clear hlk hOm hDm hHeld5 hHeld4 hb
 cases hq : RR (a2_0, a2_1) with
 | some d => (
 have hz := hF2.out
 rw [hq] at hz
 obtain ⟨rfl, rfl⟩ := Prod.mk.inj hz
 clear hz hF2
 go_wp2
 go_ret2
 exact ⟨rfl, hB5⟩
 )
 | none => (
 have hz := hF2.out
 rw [hq] at hz
 obtain ⟨rfl, rfl⟩ := Prod.mk.inj hz
 clear hz hF2
 go_wp2
 go_ret2
 exact ⟨rfl, hB5⟩
 )
 }
 · rw [if_neg cg] at hF; cases hF
 }
 {
 rw [if_neg c7] at H
 have c7b0 : (t210 == 0) = false := beq_eq_false_iff_ne.mpr c7
 have c7b1 : (t210 != 0) = true := bne_iff_ne.mpr c7
 simp only [Option.some.injEq, Prod.mk.injEq] at H
 obtain ⟨rfl, rfl⟩ := H
 go_enter Try.func79, Try.ntmps79
 try go_wp2_with (first | ((with_reducible refine gate_dst (N := 3) rfl ?_); refine box_event ?hg (N := 3) ?hd (cs := #[.int .i8 a0_0, .int .i8 a0_1, .int .u16 a0_2, .int .u16 a0_3, .int .u16 a0_4, .int .u16 a0_5, .int .u16 a0_6, .int .u16 a0_7, .int .u16 a0_8, .int .u16 a0_9, .int .u16 a0_10, .int .u16 a0_11]) (t := 35) ?hr ?_; (case hd => rfl); (case hg => rfl); (case hr => first | (go_simp; done) | (go_simp; rfl)); intro gb196 hg w24 hbox hb; have n0_ := ak (below_step (zB HB.out) hb); have n1_ := ak (hbox); have n2_ := gS HB hg; have n3_ := gS HB hg; clear HB; have HB := n0_; have BK196 := n1_; have GW196 := n2_; have GE196 := n3_; clear n0_ n1_ n2_ n3_; clear hb hbox hg) | ((with_reducible refine gate_dst (N := 4) rfl ?_); refine box_event ?hg (N := 4) ?hd (cs := #[.int .i8 a1_0, .int .i8 a1_1]) (t := 62) ?hr ?_; (case hd => rfl); (case hg => rfl); (case hr => first | (go_simp; done) | (go_simp; rfl)); intro gb197 hg w25 hbox hb; have n0_ := ak (blk_below (g := gb196) (o := .cells #[.int .i8 a0_0, .int .i8 a0_1, .int .u16 a0_2, .int .u16 a0_3, .int .u16 a0_4, .int .u16 a0_5, .int .u16 a0_6, .int .u16 a0_7, .int .u16 a0_8, .int .u16 a0_9, .int .u16 a0_10, .int .u16 a0_11] 35 (0, 0)) (zK BK196.out) hb); have n1_ := ak (below_step (zBG HB.out GE196.out) hb); have n2_ := ak (hbox); have n3_ := gS1 HB GE196 hg; have n4_ := gS1 HB GE196 hg; have n5_ := nL BK196 hg; have n6_ := nG BK196 hg; clear BK196 HB; have BK196 := n0_; have HB := n1_; have BK197 := n2_; have GW197 := n3_; have GE197 := n4_; have NB196_197 := n5_; have NB197_196 := n6_; clear n0_ n1_ n2_ n3_ n4_ n5_ n6_; clear hb hbox hg) | ((with_reducible refine gate_dst (N := 5) rfl ?_); refine box_event ?hg (N := 5) ?hd (cs := #[.int .i8 a2_0, .int .i8 a2_1]) (t := 62) ?hr ?_; (case hd => rfl); (case hg => rfl); (case hr => first | (go_simp; done) | (go_simp; rfl)); intro gb198 hg w26 hbox hb; have n0_ := ak (blk_below (g := gb196) (o := .cells #[.int .i8 a0_0, .int .i8 a0_1, .int .u16 a0_2, .int .u16 a0_3, .int .u16 a0_4, .int .u16 a0_5, .int .u16 a0_6, .int .u16 a0_7, .int .u16 a0_8, .int .u16 a0_9, .int .u16 a0_10, .int .u16 a0_11] 35 (0, 0)) (zK BK196.out) hb); have n1_ := ak (blk_below (g := gb197) (o := .cells #[.int .i8 a1_0, .int .i8 a1_1] 62 (0, 0)) (zK BK197.out) hb); have n2_ := ak (below_step (zH2 HB GE196 GE197) hb); have n3_ := ak (hbox); have n4_ := ak ((by rw [hg]; exact (below_size (zH2 HB GE196 GE197)) : w.heap.size ≤ gb198)); have n5_ := ak ((by rw [hg]; exact (below_size (zH2 HB GE196 GE197)) : w.heap.size ≤ gb198)); have n6_ := nL BK196 hg; have n7_ := nG BK196 hg; have n8_ := nL BK197 hg; have n9_ := nG BK197 hg; clear BK196 BK197 HB; have BK196 := n0_; have BK197 := n1_; have HB := n2_; have BK198 := n3_; have GW198 := n4_; have GE198 := n5_; have NB196_198 := n6_; have NB198_196 := n7_; have NB197_198 := n8_; have NB198_197 := n9_; clear n0_ n1_ n2_ n3_ n4_ n5_ n6_ n7_ n8_ n9_; clear hb hbox hg))
 replace BK196 := ak (blk_drew BK196.out)
 replace BK197 := ak (blk_drew BK197.out)
 replace BK198 := ak (blk_drew BK198.out)
 replace HB := ak (below_drew1 HB.out)
 refine start_ (n := 13) (S := fun w' => w'.cell? ⟨gb196, 0, none⟩ = some (.int .i8 a0_0) ∧ w'.cell? ⟨gb196, 1, none⟩ = some (.int .i8 a0_1) ∧ w'.cell? ⟨gb196, 2, none⟩ = some (.int .u16 a0_2) ∧ w'.cell? ⟨gb196, 3, none⟩ = some (.int .u16 a0_3) ∧ w'.cell? ⟨gb196, 4, none⟩ = some (.int .u16 a0_4) ∧ w'.cell? ⟨gb196, 5, none⟩ = some (.int .u16 a0_5) ∧ w'.cell? ⟨gb196, 6, none⟩ = some (.int .u16 a0_6) ∧ w'.cell? ⟨gb196, 7, none⟩ = some (.int .u16 a0_7) ∧ w'.cell? ⟨gb196, 8, none⟩ = some (.int .u16 a0_8) ∧ w'.cell? ⟨gb196, 9, none⟩ = some (.int .u16 a0_9) ∧ w'.cell? ⟨gb196, 10, none⟩ = some (.int .u16 a0_10) ∧ w'.cell? ⟨gb196, 11, none⟩ = some (.int .u16 a0_11) ∧ w'.cell? ⟨gb197, 0, none⟩ = some (.int .i8 a1_0) ∧ w'.cell? ⟨gb197, 1, none⟩ = some (.int .i8 a1_1) ∧ w'.cell? ⟨gb198, 0, none⟩ = some (.int .i8 a2_0) ∧ w'.cell? ⟨gb198, 1, none⟩ = some (.int .i8 a2_1)) (ds := []) (bA 13 0) (by kernel_rfl) rfl rfl (cr12 BK196 ⟨(blk_cell BK197.out 0).trans rfl, (blk_cell BK197.out 1).trans rfl, (blk_cell BK198.out 0).trans rfl, (blk_cell BK198.out 1).trans rfl⟩) (fun hHeld => ?_); refine with_tabW impl_StepsBetween.tab1 impl_StepsBetween.bits1 (fun HT_ HW_ => ?_)
 generalize w26.drew = w27 at BK196 BK197 BK198 HB hHeld ⊢
 refine tK 0 11 (bA 13 1) HT_ HW_ hHeld ?_
 refine tK 1 12 (bA 13 3) HT_ HW_ hHeld ?_
 refine tK 2 13 (bA 13 7) HT_ HW_ hHeld ?_
 refine tK 5 16 (bA 13 39) HT_ HW_ hHeld ?_
 refine tK 6 17 (bA 13 103) HT_ HW_ hHeld ?_
 refine tK 7 18 (bA 13 231) HT_ HW_ hHeld ?_
 refine join_ (σ := Value × Value) 4 #[true, true, true, true, true, true, true, true, true, false, false, false, false] (fun s_ => [(14, s_.1), (15, .int .i64 t202), (19, s_.2)]) (fun s_ w' => (w'.cell? ⟨gb196, 0, none⟩ = some (.int .i8 a0_0) ∧ w'.cell? ⟨gb196, 1, none⟩ = some (.int .i8 a0_1) ∧ w'.cell? ⟨gb196, 2, none⟩ = some (.int .u16 a0_2) ∧ w'.cell? ⟨gb196, 3, none⟩ = some (.int .u16 a0_3) ∧ w'.cell? ⟨gb196, 4, none⟩ = some (.int .u16 a0_4) ∧ w'.cell? ⟨gb196, 5, none⟩ = some (.int .u16 a0_5) ∧ w'.cell? ⟨gb196, 6, none⟩ = some (.int .u16 a0_6) ∧ w'.cell? ⟨gb196, 7, none⟩ = some (.int .u16 a0_7) ∧ w'.cell? ⟨gb196, 8, none⟩ = some (.int .u16 a0_8) ∧ w'.cell? ⟨gb196, 9, none⟩ = some (.int .u16 a0_9) ∧ w'.cell? ⟨gb196, 10, none⟩ = some (.int .u16 a0_10) ∧ w'.cell? ⟨gb196, 11, none⟩ = some (.int .u16 a0_11) ∧ w'.cell? ⟨gb197, 0, none⟩ = some (.int .i8 a1_0) ∧ w'.cell? ⟨gb197, 1, none⟩ = some (.int .i8 a1_1) ∧ w'.cell? ⟨gb198, 0, none⟩ = some (.int .i8 a2_0) ∧ w'.cell? ⟨gb198, 1, none⟩ = some (.int .i8 a2_1)) ∧ (Kd.R k62 62 w' w.heap.size (fun k_ => some k_ ≠ (s_.2 : Value).ownBlock ∧ k_ ≠ gb197 ∧ k_ ≠ gb198) s_.1 y199) ∧ (Kd.R k62 62 w' w.heap.size (fun k_ => some k_ ≠ (s_.1 : Value).ownBlock ∧ k_ ≠ gb197 ∧ k_ ≠ gb198) s_.2 y203) ∧ (w'.heap[gb196]? = some (.cells #[.int .i8 a0_0, .int .i8 a0_1, .int .u16 a0_2, .int .u16 a0_3, .int .u16 a0_4, .int .u16 a0_5, .int .u16 a0_6, .int .u16 a0_7, .int .u16 a0_8, .int .u16 a0_9, .int .u16 a0_10, .int .u16 a0_11] 35 (0, 0))) ∧ (w'.heap[gb197]? = some (.cells #[.int .i8 a1_0, .int .i8 a1_1] 62 (0, 0))) ∧ (w'.heap[gb198]? = some (.cells #[.int .i8 a2_0, .int .i8 a2_1] 62 (0, 0))) ∧ (Below w.heap.size w w')) ?_ ?_
 rotate_left
 {
 intro hCont
 refine two_ (i := 3) (j := 8) (Ni := some 14) (Nj := some 19) #[true, true, true, true, false, true, true, true, false, false, false, false, false] #[true, true, true, false, false, true, true, true, true, false, false, false, false] rfl rfl rfl rfl (two_of HT_.out (by kernel_rfl)) (by decide) (by decide) (fun K hK => ?_) (fun K hK => ?_)
 {
 skip
 refine Kd.R_lit_step k62 _ 62 ?hg (N := 14) ?hd (xs := ([(⟨a1_0, a1_1⟩ : S62), (⟨a2_0, a2_1⟩ : S62)] : List (S62))) (inner := [.int .i8 a1_0, .int .i8 a1_1, .int .i8 a2_0, .int .i8 a2_1]) (ok := fun _ => True) (okp := fun _ => True) ?hr ?hp (fun _ hk => hk) trivial (Below.refl _ _) (Nat.le_refl _) (by simp) ?_; (case hd => rfl); (case hg => rfl); (case hr => first | (go_simp; done) | (go_simp; rfl)); (case hp => exact (Reps.c2 (show Kd.M k62 _ _ _ (⟨a1_0, a1_1⟩ : S62) [.int .i8 a1_0, .int .i8 a1_1] from (k62_mkM _ _ _ (⟨a1_0, a1_1⟩ : S62) )) (Reps.c2 (show Kd.M k62 _ _ _ (⟨a2_0, a2_1⟩ : S62) [.int .i8 a2_0, .int .i8 a2_1] from (k62_mkM _ _ _ (⟨a2_0, a2_1⟩ : S62) )) (Reps.none _ _))))
 intro v200 w28 ho29 hb hg_ hnew_
 clear hg_ hnew_
 (first | rw [← Ny199.out] at ho29 | (simp only [Int.reduceToNat] at ho29; rw [← Ny199.out] at ho29))
 have HO201 := ak (Kd.R_lower (Kd.R_newB (Kd.R_newB ho29 (g := gb197) (o := .cells #[.int .i8 a1_0, .int .i8 a1_1] 62 (0, 0)) (zK BK197.out)) (g := gb198) (o := .cells #[.int .i8 a2_0, .int .i8 a2_1] 62 (0, 0)) (zK BK198.out)) (below_size (zH3 HB GE196 GE197 GE198)))
 replace BK196 := kK BK196 hb
 replace BK197 := kK BK197 hb
 replace BK198 := kK BK198 hb
 replace HB := kB3 HB GE196 GE197 GE198 hb
 obtain ⟨Ao30, co30, eo30⟩ := Kd.R_slice HO201.out
 (first | subst eo30 | (injection eo30 with f1_ f2_ f3_; have f4_ := f1_.symm; have f5_ := f3_.symm; clear f1_ f2_ f3_; subst f4_; subst f5_))
 refine hK.out _ _ (cr12 BK196 ⟨(blk_cell BK197.out 0).trans rfl, (blk_cell BK197.out 1).trans rfl, (blk_cell BK198.out 0).trans rfl, (blk_cell BK198.out 1).trans rfl⟩) (fun hHeld => ?_)
 clear hK K
 refine norm_ (a' := ?_) ?_ ?_
 rotate_left
 {
 show Act.put _ (some 14) _ = _
 simp only [Act.put, zs, zz, zk, i64_w, i32_w]
 rfl
 }
 refine two_ (i := 4) (j := 8) (Ni := some 15) (Nj := some 19) #[true, true, true, true, true, true, true, true, false, false, false, false, false] #[true, true, true, true, false, true, true, true, true, false, false, false, false] rfl rfl rfl rfl (two_of HT_.out (by kernel_rfl)) (by decide) (by decide) (fun K hK => ?_) (fun K hK => ?_)
 {
 skip
 refine goes_ Try.func46 (by kernel_rfl) rfl #[.agg #[.int .i8 a0_0, .int .i8 a0_1, .int .u16 a0_2, .int .u16 a0_3, .int .u16 a0_4, .int .u16 a0_5, .int .u16 a0_6, .int .u16 a0_7, .int .u16 a0_8, .int .u16 a0_9, .int .u16 a0_10, .int .u16 a0_11], .slice Ao30 y199.length co30] (by rfl) rfl rfl gl_ ?_
 with_reducible refine (impl_cellCode.calls k a0_0 a0_1 a0_2 a0_3 a0_4 a0_5 a0_6 a0_7 a0_8 a0_9 a0_10 a0_11 _ _ y199 t202 _ ?side1 ?side2 A4.out).mono ?_
 (case side1 => exact zC (Kd.R_reads' HO201.out).2.2)
 (case side2 => exact (Kd.R_reads' HO201.out).2.1)
 rintro e w31 ⟨rfl, hb⟩
 refine ⟨_, rfl, ?_⟩
 replace HO201 := kR HO201 hb
 replace BK196 := kK BK196 hb
 replace BK197 := kK BK197 hb
 replace BK198 := kK BK198 hb
 replace HB := kB3 HB GE196 GE197 GE198 hb
 (try clear hb)
 refine hK.out _ _ (cr12 BK196 ⟨(blk_cell BK197.out 0).trans rfl, (blk_cell BK197.out 1).trans rfl, (blk_cell BK198.out 0).trans rfl, (blk_cell BK198.out 1).trans rfl⟩) (fun hHeld => ?_)
 clear hK K
 refine norm_ (a' := ?_) ?_ ?_
 rotate_left
 {
 show Act.put _ (some 15) _ = _
 simp only [Act.put, zs, zz, zk, i64_w, i32_w]
 rfl
 }
 refine one_ (i := 8) (N := some 19) (bA 13 511) rfl rfl (one_of HT_.out (by kernel_rfl)) (by decide) (fun K hK => ?_)
 refine Kd.R_lit_step k62 _ 62 ?hg (N := 19) ?hd (xs := ([(⟨a1_0, a1_1⟩ : S62), (⟨a2_0, a2_1⟩ : S62)] : List (S62))) (inner := [.int .i8 a1_0, .int .i8 a1_1, .int .i8 a2_0, .int .i8 a2_1]) (ok := fun _ => True) (okp := fun _ => True) ?hr ?hp (fun _ hk => hk) trivial (Below.refl _ _) (Nat.le_refl _) (by simp) ?_; (case hd => rfl); (case hg => rfl); (case hr => first | (go_simp; done) | (go_simp; rfl)); (case hp => exact (Reps.c2 (show Kd.M k62 _ _ _ (⟨a1_0, a1_1⟩ : S62) [.int .i8 a1_0, .int .i8 a1_1] from (k62_mkM _ _ _ (⟨a1_0, a1_1⟩ : S62) )) (Reps.c2 (show Kd.M k62 _ _ _ (⟨a2_0, a2_1⟩ : S62) [.int .i8 a2_0, .int .i8 a2_1] from (k62_mkM _ _ _ (⟨a2_0, a2_1⟩ : S62) )) (Reps.none _ _))))
 intro v204 w32 ho33 hb hg_ hnew_
 clear hg_ hnew_
 (first | rw [← Ny203.out] at ho33 | (simp only [Int.reduceToNat] at ho33; rw [← Ny203.out] at ho33))
 have HO205 := ak (Kd.R_lower (Kd.R_newB (Kd.R_newB (Kd.R_new' ho33 (Kd.R_lt (zR HO201.out))) (g := gb197) (o := .cells #[.int .i8 a1_0, .int .i8 a1_1] 62 (0, 0)) (zK BK197.out)) (g := gb198) (o := .cells #[.int .i8 a2_0, .int .i8 a2_1] 62 (0, 0)) (zK BK198.out)) (below_size (zH3 HB GE196 GE197 GE198)))
 replace HO201 := kE HO201 ho33 hb
 replace BK196 := kK BK196 hb
 replace BK197 := kK BK197 hb
 replace BK198 := kK BK198 hb
 replace HB := kB3 HB GE196 GE197 GE198 hb
 refine hK.out _ _ (cr12 BK196 ⟨(blk_cell BK197.out 0).trans rfl, (blk_cell BK197.out 1).trans rfl, (blk_cell BK198.out 0).trans rfl, (blk_cell BK198.out 1).trans rfl⟩) (fun hHeld => ?_)
 clear hK K
 refine norm_ (a' := ?_) ?_ ?_
 rotate_left
 {
 show Act.put _ (some 19) _ = _
 simp only [Act.put, zs, zz, zk, i64_w, i32_w]
 rfl
 }
 exact norm_ (by simp only [putAll, Act.put, zs, zz, zk]) (hCont (.slice Ao30 y199.length co30, v204) _ ⟨hHeld, (by (with_reducible repeat (first | apply Kd.R_alloc | apply Kd.R_drewN | apply Kd.R_drew)); exact Kd.R_mono HO201.out (fun _ hk => ⟨hk.2, ⟨hk.1.1.2, hk.1.2⟩⟩)), (by (with_reducible repeat (first | apply Kd.R_alloc | apply Kd.R_drewN | apply Kd.R_drew)); exact Kd.R_mono HO205.out (fun _ hk => ⟨hk.1.1.2, ⟨hk.1.2, hk.2⟩⟩)), (zK BK196.out), (zK BK197.out), (zK BK198.out), (zH3 HB GE196 GE197 GE198)⟩)
 }
 {
 skip
 refine Kd.R_lit_step k62 _ 62 ?hg (N := 19) ?hd (xs := ([(⟨a1_0, a1_1⟩ : S62), (⟨a2_0, a2_1⟩ : S62)] : List (S62))) (inner := [.int .i8 a1_0, .int .i8 a1_1, .int .i8 a2_0, .int .i8 a2_1]) (ok := fun _ => True) (okp := fun _ => True) ?hr ?hp (fun _ hk => hk) trivial (Below.refl _ _) (Nat.le_refl _) (by simp) ?_; (case hd => rfl); (case hg => rfl); (case hr => first | (go_simp; done) | (go_simp; rfl)); (case hp => exact (Reps.c2 (show Kd.M k62 _ _ _ (⟨a1_0, a1_1⟩ : S62) [.int .i8 a1_0, .int .i8 a1_1] from (k62_mkM _ _ _ (⟨a1_0, a1_1⟩ : S62) )) (Reps.c2 (show Kd.M k62 _ _ _ (⟨a2_0, a2_1⟩ : S62) [.int .i8 a2_0, .int .i8 a2_1] from (k62_mkM _ _ _ (⟨a2_0, a2_1⟩ : S62) )) (Reps.none _ _))))
 intro v204 w30 ho31 hb hg_ hnew_
 clear hg_ hnew_
 (first | rw [← Ny203.out] at ho31 | (simp only [Int.reduceToNat] at ho31; rw [← Ny203.out] at ho31))
 have HO205 := ak (Kd.R_lower (Kd.R_newB (Kd.R_newB (Kd.R_new' ho31 (Kd.R_lt (zR HO201.out))) (g := gb197) (o := .cells #[.int .i8 a1_0, .int .i8 a1_1] 62 (0, 0)) (zK BK197.out)) (g := gb198) (o := .cells #[.int .i8 a2_0, .int .i8 a2_1] 62 (0, 0)) (zK BK198.out)) (below_size (zH3 HB GE196 GE197 GE198)))
 replace HO201 := kE HO201 ho31 hb
 replace BK196 := kK BK196 hb
 replace BK197 := kK BK197 hb
 replace BK198 := kK BK198 hb
 replace HB := kB3 HB GE196 GE197 GE198 hb
 obtain ⟨Ao32, co32, eo32⟩ := Kd.R_slice HO201.out
 (first | subst eo32 | (injection eo32 with f1_ f2_ f3_; have f4_ := f1_.symm; have f5_ := f3_.symm; clear f1_ f2_ f3_; subst f4_; subst f5_))
 refine hK.out _ _ (cr12 BK196 ⟨(blk_cell BK197.out 0).trans rfl, (blk_cell BK197.out 1).trans rfl, (blk_cell BK198.out 0).trans rfl, (blk_cell BK198.out 1).trans rfl⟩) (fun hHeld => ?_)
 clear hK K
 refine norm_ (a' := ?_) ?_ ?_
 rotate_left
 {
 show Act.put _ (some 19) _ = _
 simp only [Act.put, zs, zz, zk, i64_w, i32_w]
 rfl
 }
 refine one_ (i := 4) (N := some 15) (bA 13 511) rfl rfl (one_of HT_.out (by kernel_rfl)) (by decide) (fun K hK => ?_)
 refine goes_ Try.func46 (by kernel_rfl) rfl #[.agg #[.int .i8 a0_0, .int .i8 a0_1, .int .u16 a0_2, .int .u16 a0_3, .int .u16 a0_4, .int .u16 a0_5, .int .u16 a0_6, .int .u16 a0_7, .int .u16 a0_8, .int .u16 a0_9, .int .u16 a0_10, .int .u16 a0_11], .slice Ao32 y199.length co32] (by rfl) rfl rfl gl_ ?_
 with_reducible refine (impl_cellCode.calls k a0_0 a0_1 a0_2 a0_3 a0_4 a0_5 a0_6 a0_7 a0_8 a0_9 a0_10 a0_11 _ _ y199 t202 _ ?side1 ?side2 A4.out).mono ?_
 (case side1 => exact zC (Kd.R_reads' HO201.out).2.2)
 (case side2 => exact (Kd.R_reads' HO201.out).2.1)
 rintro e w33 ⟨rfl, hb⟩
 refine ⟨_, rfl, ?_⟩
 replace HO201 := kR HO201 hb
 replace HO205 := kR HO205 hb
 replace BK196 := kK BK196 hb
 replace BK197 := kK BK197 hb
 replace BK198 := kK BK198 hb
 replace HB := kB3 HB GE196 GE197 GE198 hb
 (try clear hb)
 refine hK.out _ _ (cr12 BK196 ⟨(blk_cell BK197.out 0).trans rfl, (blk_cell BK197.out 1).trans rfl, (blk_cell BK198.out 0).trans rfl, (blk_cell BK198.out 1).trans rfl⟩) (fun hHeld => ?_)
 clear hK K
 refine norm_ (a' := ?_) ?_ ?_
 rotate_left
 {
 show Act.put _ (some 15) _ = _
 simp only [Act.put, zs, zz, zk, i64_w, i32_w]
 rfl
 }
 exact norm_ (by simp only [putAll, Act.put, zs, zz, zk]) (hCont (.slice Ao32 y199.length co32, v204) _ ⟨hHeld, (by (with_reducible repeat (first | apply Kd.R_alloc | apply Kd.R_drewN | apply Kd.R_drew)); exact Kd.R_mono HO201.out (fun _ hk => ⟨hk.2, ⟨hk.1.1.2, hk.1.2⟩⟩)), (by (with_reducible repeat (first | apply Kd.R_alloc | apply Kd.R_drewN | apply Kd.R_drew)); exact Kd.R_mono HO205.out (fun _ hk => ⟨hk.1.1.2, ⟨hk.1.2, hk.2⟩⟩)), (zK BK196.out), (zK BK197.out), (zK BK198.out), (zH3 HB GE196 GE197 GE198)⟩)
 }
 }
 {
 skip
 refine Kd.R_lit_step k62 _ 62 ?hg (N := 19) ?hd (xs := ([(⟨a1_0, a1_1⟩ : S62), (⟨a2_0, a2_1⟩ : S62)] : List (S62))) (inner := [.int .i8 a1_0, .int .i8 a1_1, .int .i8 a2_0, .int .i8 a2_1]) (ok := fun _ => True) (okp := fun _ => True) ?hr ?hp (fun _ hk => hk) trivial (Below.refl _ _) (Nat.le_refl _) (by simp) ?_; (case hd => rfl); (case hg => rfl); (case hr => first | (go_simp; done) | (go_simp; rfl)); (case hp => exact (Reps.c2 (show Kd.M k62 _ _ _ (⟨a1_0, a1_1⟩ : S62) [.int .i8 a1_0, .int .i8 a1_1] from (k62_mkM _ _ _ (⟨a1_0, a1_1⟩ : S62) )) (Reps.c2 (show Kd.M k62 _ _ _ (⟨a2_0, a2_1⟩ : S62) [.int .i8 a2_0, .int .i8 a2_1] from (k62_mkM _ _ _ (⟨a2_0, a2_1⟩ : S62) )) (Reps.none _ _))))
 intro v204 w28 ho29 hb hg_ hnew_
 clear hg_ hnew_
 (first | rw [← Ny203.out] at ho29 | (simp only [Int.reduceToNat] at ho29; rw [← Ny203.out] at ho29))
 have HO205 := ak (Kd.R_lower (Kd.R_newB (Kd.R_newB ho29 (g := gb197) (o := .cells #[.int .i8 a1_0, .int .i8 a1_1] 62 (0, 0)) (zK BK197.out)) (g := gb198) (o := .cells #[.int .i8 a2_0, .int .i8 a2_1] 62 (0, 0)) (zK BK198.out)) (below_size (zH3 HB GE196 GE197 GE198)))
 replace BK196 := kK BK196 hb
 replace BK197 := kK BK197 hb
 replace BK198 := kK BK198 hb
 replace HB := kB3 HB GE196 GE197 GE198 hb
 refine hK.out _ _ (cr12 BK196 ⟨(blk_cell BK197.out 0).trans rfl, (blk_cell BK197.out 1).trans rfl, (blk_cell BK198.out 0).trans rfl, (blk_cell BK198.out 1).trans rfl⟩) (fun hHeld => ?_)
 clear hK K
 refine norm_ (a' := ?_) ?_ ?_
 rotate_left
 {
 show Act.put _ (some 19) _ = _
 simp only [Act.put, zs, zz, zk, i64_w, i32_w]
 rfl
 }
 refine one_ (i := 3) (N := some 14) (bA 13 495) rfl rfl (one_of HT_.out (by kernel_rfl)) (by decide) (fun K hK => ?_)
 refine Kd.R_lit_step k62 _ 62 ?hg (N := 14) ?hd (xs := ([(⟨a1_0, a1_1⟩ : S62), (⟨a2_0, a2_1⟩ : S62)] : List (S62))) (inner := [.int .i8 a1_0, .int .i8 a1_1, .int .i8 a2_0, .int .i8 a2_1]) (ok := fun _ => True) (okp := fun _ => True) ?hr ?hp (fun _ hk => hk) trivial (Below.refl _ _) (Nat.le_refl _) (by simp) ?_; (case hd => rfl); (case hg => rfl); (case hr => first | (go_simp; done) | (go_simp; rfl)); (case hp => exact (Reps.c2 (show Kd.M k62 _ _ _ (⟨a1_0, a1_1⟩ : S62) [.int .i8 a1_0, .int .i8 a1_1] from (k62_mkM _ _ _ (⟨a1_0, a1_1⟩ : S62) )) (Reps.c2 (show Kd.M k62 _ _ _ (⟨a2_0, a2_1⟩ : S62) [.int .i8 a2_0, .int .i8 a2_1] from (k62_mkM _ _ _ (⟨a2_0, a2_1⟩ : S62) )) (Reps.none _ _))))
 intro v200 w30 ho31 hb hg_ hnew_
 clear hg_ hnew_
 (first | rw [← Ny199.out] at ho31 | (simp only [Int.reduceToNat] at ho31; rw [← Ny199.out] at ho31))
 have HO201 := ak (Kd.R_lower (Kd.R_newB (Kd.R_newB (Kd.R_new' ho31 (Kd.R_lt (zR HO205.out))) (g := gb197) (o := .cells #[.int .i8 a1_0, .int .i8 a1_1] 62 (0, 0)) (zK BK197.out)) (g := gb198) (o := .cells #[.int .i8 a2_0, .int .i8 a2_1] 62 (0, 0)) (zK BK198.out)) (below_size (zH3 HB GE196 GE197 GE198)))
 replace HO205 := kE HO205 ho31 hb
 replace BK196 := kK BK196 hb
 replace BK197 := kK BK197 hb
 replace BK198 := kK BK198 hb
 replace HB := kB3 HB GE196 GE197 GE198 hb
 obtain ⟨Ao32, co32, eo32⟩ := Kd.R_slice HO201.out
 (first | subst eo32 | (injection eo32 with f1_ f2_ f3_; have f4_ := f1_.symm; have f5_ := f3_.symm; clear f1_ f2_ f3_; subst f4_; subst f5_))
 refine hK.out _ _ (cr12 BK196 ⟨(blk_cell BK197.out 0).trans rfl, (blk_cell BK197.out 1).trans rfl, (blk_cell BK198.out 0).trans rfl, (blk_cell BK198.out 1).trans rfl⟩) (fun hHeld => ?_)
 clear hK K
 refine norm_ (a' := ?_) ?_ ?_
 rotate_left
 {
 show Act.put _ (some 14) _ = _
 simp only [Act.put, zs, zz, zk, i64_w, i32_w]
 rfl
 }
 refine one_ (i := 4) (N := some 15) (bA 13 511) rfl rfl (one_of HT_.out (by kernel_rfl)) (by decide) (fun K hK => ?_)
 refine goes_ Try.func46 (by kernel_rfl) rfl #[.agg #[.int .i8 a0_0, .int .i8 a0_1, .int .u16 a0_2, .int .u16 a0_3, .int .u16 a0_4, .int .u16 a0_5, .int .u16 a0_6, .int .u16 a0_7, .int .u16 a0_8, .int .u16 a0_9, .int .u16 a0_10, .int .u16 a0_11], .slice Ao32 y199.length co32] (by rfl) rfl rfl gl_ ?_
 with_reducible refine (impl_cellCode.calls k a0_0 a0_1 a0_2 a0_3 a0_4 a0_5 a0_6 a0_7 a0_8 a0_9 a0_10 a0_11 _ _ y199 t202 _ ?side1 ?side2 A4.out).mono ?_
 (case side1 => exact zC (Kd.R_reads' HO201.out).2.2)
 (case side2 => exact (Kd.R_reads' HO201.out).2.1)
 rintro e w33 ⟨rfl, hb⟩
 refine ⟨_, rfl, ?_⟩
 replace HO205 := kR HO205 hb
 replace HO201 := kR HO201 hb
 replace BK196 := kK BK196 hb
 replace BK197 := kK BK197 hb
 replace BK198 := kK BK198 hb
 replace HB := kB3 HB GE196 GE197 GE198 hb
 (try clear hb)
 refine hK.out _ _ (cr12 BK196 ⟨(blk_cell BK197.out 0).trans rfl, (blk_cell BK197.out 1).trans rfl, (blk_cell BK198.out 0).trans rfl, (blk_cell BK198.out 1).trans rfl⟩) (fun hHeld => ?_)
 clear hK K
 refine norm_ (a' := ?_) ?_ ?_
 rotate_left
 {
 show Act.put _ (some 15) _ = _
 simp only [Act.put, zs, zz, zk, i64_w, i32_w]
 rfl
 }
 exact norm_ (by simp only [putAll, Act.put, zs, zz, zk]) (hCont (.slice Ao32 y199.length co32, v204) _ ⟨hHeld, (by (with_reducible repeat (first | apply Kd.R_alloc | apply Kd.R_drewN | apply Kd.R_drew)); exact Kd.R_mono HO201.out (fun _ hk => ⟨hk.1.1.2, ⟨hk.1.2, hk.2⟩⟩)), (by (with_reducible repeat (first | apply Kd.R_alloc | apply Kd.R_drewN | apply Kd.R_drew)); exact Kd.R_mono HO205.out (fun _ hk => ⟨hk.2, ⟨hk.1.1.2, hk.1.2⟩⟩)), (zK BK196.out), (zK BK197.out), (zK BK198.out), (zH3 HB GE196 GE197 GE198)⟩)
 }
 }
 rintro ⟨v200, v204⟩ w34 ⟨hS_, h0_, h1_, h2_, h3_, h4_, h5_⟩
 have n0_ : Aside0 (Kd.R k62 62 w34 w.heap.size (fun k_ => some k_ ≠ (v204 : Value).ownBlock ∧ k_ ≠ gb197 ∧ k_ ≠ gb198) v200 y199) := ⟨h0_⟩
 have n1_ : Aside0 (Kd.R k62 62 w34 w.heap.size (fun k_ => some k_ ≠ (v200 : Value).ownBlock ∧ k_ ≠ gb197 ∧ k_ ≠ gb198) v204 y203) := ⟨h1_⟩
 have n2_ : Aside0 (w34.heap[gb196]? = some (.cells #[.int .i8 a0_0, .int .i8 a0_1, .int .u16 a0_2, .int .u16 a0_3, .int .u16 a0_4, .int .u16 a0_5, .int .u16 a0_6, .int .u16 a0_7, .int .u16 a0_8, .int .u16 a0_9, .int .u16 a0_10, .int .u16 a0_11] 35 (0, 0))) := ⟨h2_⟩
 have n3_ : Aside0 (w34.heap[gb197]? = some (.cells #[.int .i8 a1_0, .int .i8 a1_1] 62 (0, 0))) := ⟨h3_⟩
 have n4_ : Aside0 (w34.heap[gb198]? = some (.cells #[.int .i8 a2_0, .int .i8 a2_1] 62 (0, 0))) := ⟨h4_⟩
 have n5_ : Aside0 (Below w.heap.size w w34) := ⟨h5_⟩
 clear BK196 BK197 BK198 HB h0_ h1_ h2_ h3_ h4_ h5_
 have HO201 := n0_
 have HO205 := n1_
 have BK196 := n2_
 have BK197 := n3_
 have BK198 := n4_
 have HB := n5_
 clear n0_ n1_ n2_ n3_ n4_ n5_
 have hHeld : w34.cell? ⟨gb196, 0, none⟩ = some (.int .i8 a0_0) ∧ w34.cell? ⟨gb196, 1, none⟩ = some (.int .i8 a0_1) ∧ w34.cell? ⟨gb196, 2, none⟩ = some (.int .u16 a0_2) ∧ w34.cell? ⟨gb196, 3, none⟩ = some (.int .u16 a0_3) ∧ w34.cell? ⟨gb196, 4, none⟩ = some (.int .u16 a0_4) ∧ w34.cell? ⟨gb196, 5, none⟩ = some (.int .u16 a0_5) ∧ w34.cell? ⟨gb196, 6, none⟩ = some (.int .u16 a0_6) ∧ w34.cell? ⟨gb196, 7, none⟩ = some (.int .u16 a0_7) ∧ w34.cell? ⟨gb196, 8, none⟩ = some (.int .u16 a0_8) ∧ w34.cell? ⟨gb196, 9, none⟩ = some (.int .u16 a0_9) ∧ w34.cell? ⟨gb196, 10, none⟩ = some (.int .u16 a0_10) ∧ w34.cell? ⟨gb196, 11, none⟩ = some (.int .u16 a0_11) ∧ w34.cell? ⟨gb197, 0, none⟩ = some (.int .i8 a1_0) ∧ w34.cell? ⟨gb197, 1, none⟩ = some (.int .i8 a1_1) ∧ w34.cell? ⟨gb198, 0, none⟩ = some (.int .i8 a2_0) ∧ w34.cell? ⟨gb198, 1, none⟩ = some (.int .i8 a2_1) := hS_
 obtain ⟨Ao35, co35, eo35⟩ := Kd.R_slice HO205.out
 (first | subst eo35 | (injection eo35 with f1_ f2_ f3_; have f4_ := f1_.symm; have f5_ := f3_.symm; clear f1_ f2_ f3_; subst f4_; subst f5_))
 refine norm_ (a' := ?_) ?_ ?_
 rotate_left
 · simp only [putAll, Act.put, zs, zz, zk]; rfl
 refine one_ (i := 9) (N := some 20) (bA 13 1023) rfl rfl (one_of HT_.out (by kernel_rfl)) (by decide) (fun K hK => ?_)
 refine goes_ Try.func92 (by kernel_rfl) rfl #[.agg #[.int .i8 a0_0, .int .i8 a0_1, .int .u16 a0_2, .int .u16 a0_3, .int .u16 a0_4, .int .u16 a0_5, .int .u16 a0_6, .int .u16 a0_7, .int .u16 a0_8, .int .u16 a0_9, .int .u16 a0_10, .int .u16 a0_11], .slice Ao35 y203.length co35] (by rfl) rfl rfl gl_ ?_
 with_reducible refine (impl_stateCode.calls k a0_0 a0_1 a0_2 a0_3 a0_4 a0_5 a0_6 a0_7 a0_8 a0_9 a0_10 a0_11 _ _ y203 t206 _ ?side1 ?side2 A5.out).mono ?_
 (case side1 => exact zC (Kd.R_reads' HO205.out).2.2)
 (case side2 => exact (Kd.R_reads' HO205.out).2.1)
 rintro e w36 ⟨rfl, hb⟩
 refine ⟨_, rfl, ?_⟩
 replace HO201 := kR HO201 hb
 replace HO205 := kR HO205 hb
 replace BK196 := kK BK196 hb
 replace BK197 := kK BK197 hb
 replace BK198 := kK BK198 hb
 replace HB := kB3 HB GE196 GE197 GE198 hb
 (try clear hb)
 refine hK.out _ _ (cr12 BK196 ⟨(blk_cell BK197.out 0).trans rfl, (blk_cell BK197.out 1).trans rfl, (blk_cell BK198.out 0).trans rfl, (blk_cell BK198.out 1).trans rfl⟩) (fun hHeld => ?_)
 clear hK K
 refine norm_ (a' := ?_) ?_ ?_
 rotate_left
 {
 show Act.put _ (some 20) _ = _
 simp only [Act.put, zs, zz, zk, i64_w, i32_w]
 rfl
 }
 refine one_ (i := 10) (N := some 21) (bA 13 2047) rfl rfl (one_of HT_.out (by kernel_rfl)) (by decide) (fun K hK => ?_)
 refine Kd.R_lit_step (Kd.int .i64) _ 2 ?hg (N := 21) ?hd (xs := ([t202, t206] : List Int)) (inner := [.int .i64 t202, .int .i64 t206]) (ok := fun _ => True) (okp := fun _ => True) ?hr ?hp (fun _ hk => hk) trivial (Below.refl _ _) (Nat.le_refl _) (by simp) ?_; (case hd => rfl); (case hg => rfl); (case hr => first | (go_simp; done) | (go_simp; rfl)); (case hp => exact (Reps.one (show Kd.M (Kd.int .i64) _ _ _ t202 [.int .i64 t202] from rfl) (Reps.one (show Kd.M (Kd.int .i64) _ _ _ t206 [.int .i64 t206] from rfl) (Reps.none _ _))))
 intro v208 w37 ho38 hb hg_ hnew_
 clear hg_ hnew_
 (first | rw [← Ny207.out] at ho38 | (simp only [Int.reduceToNat] at ho38; rw [← Ny207.out] at ho38))
 have HO209 := ak (Kd.R_lower ho38 (below_size (zH3 HB GE196 GE197 GE198)))
 replace HO201 := kR HO201 hb
 replace HO205 := kR HO205 hb
 replace BK196 := kK BK196 hb
 replace BK197 := kK BK197 hb
 replace BK198 := kK BK198 hb
 replace HB := kB3 HB GE196 GE197 GE198 hb
 obtain ⟨Ao39, co39, eo39⟩ := Kd.R_slice HO209.out
 (first | subst eo39 | (injection eo39 with f1_ f2_ f3_; have f4_ := f1_.symm; have f5_ := f3_.symm; clear f1_ f2_ f3_; subst f4_; subst f5_))
 refine hK.out _ _ (cr12 BK196 ⟨(blk_cell BK197.out 0).trans rfl, (blk_cell BK197.out 1).trans rfl, (blk_cell BK198.out 0).trans rfl, (blk_cell BK198.out 1).trans rfl⟩) (fun hHeld => ?_)
 clear hK K
 refine norm_ (a' := ?_) ?_ ?_
 rotate_left
 {
 show Act.put _ (some 21) _ = _
 simp only [Act.put, zs, zz, zk, i64_w, i32_w]
 rfl
 }
 refine one_ (i := 11) (N := some 22) (bA 13 4095) rfl rfl (one_of HT_.out (by kernel_rfl)) (by decide) (fun K hK => ?_)
 refine goes_ Try.func91 (by kernel_rfl) rfl #[.slice Ao39 y207.length co39] (by rfl) rfl rfl gl_ ?_
 with_reducible refine (impl_firstOf.calls k _ _ y207 t210 _ ?side1 ?side2 A6.out).mono ?_
 (case side1 => exact zC (Kd.R_reads' HO209.out).2.2)
 (case side2 => exact (Kd.R_reads' HO209.out).2.1)
 rintro e w' ⟨rfl, ⟨nd, rfl⟩⟩
 refine ⟨_, rfl, ?_⟩
 refine hK.out _ _ (cr12 BK196 ⟨(blk_cell BK197.out 0).trans rfl, (blk_cell BK197.out 1).trans rfl, (blk_cell BK198.out 0).trans rfl, (blk_cell BK198.out 1).trans rfl⟩) (fun hHeld => ?_)
 clear hK K
 refine norm_ (a' := ?_) ?_ ?_
 rotate_left
 {
 show Act.put _ (some 22) _ = _
 simp only [Act.put, zs, zz, zk, i64_w, i32_w]
 rfl
 }
 refine pU 12 8 (bA 13 8191) HT_ ?_
 refine done_ (done_of HT_.out (by kernel_rfl)) ?_
 try go_wp2
 go_ret2
 exact ⟨by first | rfl | (simp [errW_none, errW_some] <;> rfl) | (simp [*, errW_none, errW_some] <;> rfl), zH3 HB GE196 GE197 GE198⟩
 }
end Go.Proofs.Ytooidjdgfoioiaa.P
