-- Printed by wip/print (my turned copy of the kit's print) out of the translation; Lean checks it.
import Derived.Test.YtooidjdgfoioiaaP0
import Derived.Test.YtooidjdgfoioiaaP7
import Derived.Test.YtooidjdgfoioiaaP9
namespace Go.Proofs.Ytooidjdgfoioiaa.P
open Go.RowKit Go.Proofs.YtooidjdgfoioiaaW.PrintWords Go.Proofs.YtooidjdgfoioiaaW.PrintLast Go.Proofs.YtooidjdgfoioiaaW.PrintMore
attribute [local go_sem] max2_int min2_int max_two min_two max_three min_three max_four min_four   -- for this text's walks alone
set_option linter.unusedVariables false
set_option linter.unusedSimpArgs false

/-! ### impl_StepsBetween: function 79 -/
def toS (p : Int × Int) : S62 := ⟨p.1, p.2⟩
theorem alloc_size_ (w : World) (o : Obj) : (w.alloc o).heap.size = w.heap.size + 1 := by rw [World.alloc]; simp only [Array.size_push]
theorem spot_row (W : World) (base : Nat) (ok : Nat → Prop) (x y : Int) (hb : base ≤ W.heap.size) (hok : ok W.heap.size) : Kd.R k62 62 (W.alloc (.cells #[.int .i8 x, .int .i8 y] 62)) base ok (.slice (some ⟨W.heap.size, 0, none⟩) 1 1) [(⟨x, y⟩ : S62)] := by
  refine ⟨fun k hk => ?_, [.int .i8 x, .int .i8 y], ?_, ?_⟩
  · have : W.heap.size = k := by simpa [Value.ownBlock] using hk
    subst this
    exact hok
  · have h2 := World.ownsRow_lit (base := base) (e := 62) (size := 2) W #[.int .i8 x, .int .i8 y] 1 hb (by simp [maxLen]) (by simp)
    exact (by simpa using h2 : (W.alloc (Obj.cells #[Value.int IntKind.i8 x, Value.int IntKind.i8 y] 62)).ownsRow base 62 2 (Value.slice (some { block := W.heap.size, off := 0 }) 1 1) 1 [Value.int IntKind.i8 x, Value.int IntKind.i8 y])
  · exact Reps.c2 (k62_mkM _ _ _ (⟨x, y⟩ : S62)) (Reps.none _ _)
theorem R62re {w : World} {base : Nat} {ok ok' : Nat → Prop} {v : Value} {xs : List S62} (h : Kd.R k62 62 w base ok v xs) (h2 : ∀ k, v.ownBlock = some k → ok' k) : Kd.R k62 62 w base ok' v xs := ⟨h2, h.2.imp_ (fun x cs hp => by have := k62_openM hp; subst this; exact k62_mkM _ _ _ _)⟩
/-- What stands behind region 1 of 'steps': the map with its first spot, the queue with it. -/
def St1 (w : World) (room : Array Value) (a : Int × Int) (b g : Nat) (W : World) : Prop :=
  (∃ D, W.ownsMap Try.prog 62 (plainElem (H := Unit) Try.prog 2) b 1 D ∧ H.FarD D (H.farPut (fun _ => none) a 0)) ∧ Kd.R k62 62 W w.heap.size (fun k => k ≠ b) (.slice (some ⟨g, 0, none⟩) 1 1) [toS a] ∧ W.heap[w.heap.size]? = some (.cells room 35 (0, 0)) ∧ Below w.heap.size w W ∧ w.heap.size ≤ b
theorem ins0 {W : World} {b : Nat} (a : Int × Int) (ha : H.inG a = true) (h : W.ownsMap Try.prog 62 (plainElem (H := Unit) Try.prog 2) b 0 (.map [])) : ∃ W', (Instr.mapUpdate 132 (.map (some b)) (.agg #[.int .i8 a.1, .int .i8 a.2]) (.int .i64 0)).run Try.prog W = .ok () W' ∧ (∃ D, W'.ownsMap Try.prog 62 (plainElem (H := Unit) Try.prog 2) b 1 D ∧ H.FarD D (H.farPut (fun _ => none) a 0)) ∧ W.grownBy W' (some b) := by
  obtain ⟨W', hrun, h1, h2⟩ := h.update H.spotKeyed Try.underlying132 (by simp [maxLen]) (H.keyG ha) (plainElem_int Try.underlying2 (show (Lit.int .i64 0).wf = true by decide))
  exact ⟨W', hrun, ⟨_, h1, H.FarD.put H.FarD.nil h.isMap ha 0⟩, h2⟩
set_option maxHeartbeats 8000000 in
set_option maxRecDepth 1000000 in
theorem steps_calls (r0 r1 r2 r3 r4 r5 r6 r7 r8 r9 AL AM : Int) (bes : Int × Int → Option (List (Int × Int)))
    (hbes : ∀ W s nx, bes s = some nx → Calls Try.prog 100 #[.agg #[.int .i8 r0, .int .i8 r1, .int .u16 r2, .int .u16 r3, .int .u16 r4, .int .u16 r5, .int .u16 r6, .int .u16 r7, .int .u16 r8, .int .u16 r9, .int .u16 AL, .int .u16 AM], .agg #[.int .i8 s.1, .int .i8 s.2]] W fun e w' => ∃ v, e = .returned v ∧ Kd.R k62 62 w' W.heap.size (fun _ => True) v (nx.map toS) ∧ Below W.heap.size W w')
    (k : Nat) (a : Int × Int) (R : Int × Int → Option Int) (hR : Go.Proofs.Ytooidjdgfoioiaa.H.bfsFrom bes k a = some R) (w : World) :
    Calls Try.prog 93 #[.agg #[.int .i8 r0, .int .i8 r1, .int .u16 r2, .int .u16 r3, .int .u16 r4, .int .u16 r5, .int .u16 r6, .int .u16 r7, .int .u16 r8, .int .u16 r9, .int .u16 AL, .int .u16 AM], .agg #[.int .i8 a.1, .int .i8 a.2]] w fun e w' => ∃ b, e = .returned (.map (some b)) ∧ (∃ n D, w'.ownsMap Try.prog 62 (plainElem (H := Unit) Try.prog 2) b n D ∧ Go.Proofs.Ytooidjdgfoioiaa.H.FarD D R) ∧ Below w.heap.size w w' := by
  have Ax := Try.underlying35
  have Ay := Try.underlying62
  go_enter Try.func93, Try.ntmps93
  have AF : Below w.heap.size w ((w.alloc (.cells #[.int .i8 r0, .int .i8 r1, .int .u16 r2, .int .u16 r3, .int .u16 r4, .int .u16 r5, .int .u16 r6, .int .u16 r7, .int .u16 r8, .int .u16 r9, .int .u16 AL, .int .u16 AM] 35)).alloc (.cells #[.int .i8 a.1, .int .i8 a.2] 62)) := Below.alloc (Below.alloc (Below.refl _ _) (Nat.le_refl _) _) (Below.alloc (Below.refl _ _) (Nat.le_refl _) _).size _
  have AA : ((w.alloc (.cells #[.int .i8 r0, .int .i8 r1, .int .u16 r2, .int .u16 r3, .int .u16 r4, .int .u16 r5, .int .u16 r6, .int .u16 r7, .int .u16 r8, .int .u16 r9, .int .u16 AL, .int .u16 AM] 35)).alloc (.cells #[.int .i8 a.1, .int .i8 a.2] 62)).heap[w.heap.size]? = some (.cells #[.int .i8 r0, .int .i8 r1, .int .u16 r2, .int .u16 r3, .int .u16 r4, .int .u16 r5, .int .u16 r6, .int .u16 r7, .int .u16 r8, .int .u16 r9, .int .u16 AL, .int .u16 AM] 35 (0, 0)) := (Below.heap_alloc _ _ _ (by rw [alloc_size_]; omega)).trans (heap_alloc_new w _)
  have AJ : ((w.alloc (.cells #[.int .i8 r0, .int .i8 r1, .int .u16 r2, .int .u16 r3, .int .u16 r4, .int .u16 r5, .int .u16 r6, .int .u16 r7, .int .u16 r8, .int .u16 r9, .int .u16 AL, .int .u16 AM] 35)).alloc (.cells #[.int .i8 a.1, .int .i8 a.2] 62)).heap[w.heap.size + 1]? = some (.cells #[.int .i8 a.1, .int .i8 a.2] 62 (0, 0)) := by
    have h := heap_alloc_new (w.alloc (.cells #[.int .i8 r0, .int .i8 r1, .int .u16 r2, .int .u16 r3, .int .u16 r4, .int .u16 r5, .int .u16 r6, .int .u16 r7, .int .u16 r8, .int .u16 r9, .int .u16 AL, .int .u16 AM] 35)) (.cells #[.int .i8 a.1, .int .i8 a.2] 62)
    rw [alloc_size_] at h
    exact h
  have ha : H.inG a = true := by
    unfold H.bfsFrom at hR
    by_cases c : H.inG a = true
    · exact c
    · rw [if_neg c] at hR; cases hR
  have hV : Hid (H.bfs bes k 0 [a] (H.farPut (fun _ => none) a 0) = some R) := by
    unfold H.bfsFrom at hR
    rw [if_pos ha] at hR
    exact hR
  clear hR
  obtain ⟨a1, a2⟩ := a
  dsimp only at *
  go_wp2
  generalize ((w.alloc (.cells #[.int .i8 r0, .int .i8 r1, .int .u16 r2, .int .u16 r3, .int .u16 r4, .int .u16 r5, .int .u16 r6, .int .u16 r7, .int .u16 r8, .int .u16 r9, .int .u16 AL, .int .u16 AM] 35)).alloc (.cells #[.int .i8 a1, .int .i8 a2] 62)) = W0 at AF AA AJ ⊢
  refine start_ (n := 8) (S := fun w' => w'.cell? ⟨w.heap.size + 1, 0, none⟩ = some (.int .i8 a1) ∧ w'.cell? ⟨w.heap.size + 1, 1, none⟩ = some (.int .i8 a2)) (ds := []) (bA 8 0) (by kernel_rfl) rfl rfl ⟨(blk_cell (blk_drew AJ) 0).trans rfl, (blk_cell (blk_drew AJ) 1).trans rfl⟩ (fun hHeld => ?_)
  replace AF := below_drew1 AF
  replace AA := blk_drew AA
  replace AJ := blk_drew AJ
  generalize W0.drew = W1 at AF AA AJ hHeld ⊢
  refine take_ (i := 1) (N := some 13) (v := ?_) (a' := ?_) (bA 8 2) rfl rfl (by kernel_rfl) (fun _ _ _ h => h) (Or.inl ⟨by rfl, ?_⟩) hHeld ?_ ?_
  rotate_left
  · rintro w' ⟨s0, s1⟩
    go_simp
    with_reducible rfl
  rotate_left
  · simp only [Act.put, zs, zz, zk]; rfl
  refine take_ (i := 4) (N := some 15) (v := ?_) (a' := ?_) (bA 8 18) rfl rfl (by kernel_rfl) (fun _ _ _ h => h) (Or.inl ⟨by rfl, ?_⟩) hHeld ?_ ?_
  rotate_left
  · rintro w' ⟨s0, s1⟩
    go_simp
    with_reducible rfl
  rotate_left
  · simp only [Act.put, zs, zz, zk]; rfl
  refine join_ (σ := Nat × Nat) 1 #[true, true, true, true, true, true, true, false] (fun s_ => [(12, .map (some s_.1)), (16, .slice (some ⟨s_.2, 0, none⟩) 1 1), (14, .map (some s_.1)), (5, .map (some s_.1))]) (fun s_ w' => St1 w #[.int .i8 r0, .int .i8 r1, .int .u16 r2, .int .u16 r3, .int .u16 r4, .int .u16 r5, .int .u16 r6, .int .u16 r7, .int .u16 r8, .int .u16 r9, .int .u16 AL, .int .u16 AM] (a1, a2) s_.1 s_.2 w') ?_ ?_
  rotate_left
  · intro hCont
    have held : ∀ W' : World, W'.heap[w.heap.size + 1]? = some (.cells #[.int .i8 a1, .int .i8 a2] 62 (0, 0)) → W'.cell? ⟨w.heap.size + 1, 0, none⟩ = some (.int .i8 a1) ∧ W'.cell? ⟨w.heap.size + 1, 1, none⟩ = some (.int .i8 a2) := fun W' h => ⟨(blk_cell h 0).trans rfl, (blk_cell h 1).trans rfl⟩
    have Aj := blk_lt AJ
    refine two_ (i := 0) (j := 5) (Ni := some 12) (Nj := some 16) #[true, true, false, false, true, false, false, false] #[false, true, false, false, true, true, false, false] rfl rfl rfl rfl (by kernel_rfl) (by decide) (by decide) (fun K hK => ?_) (fun K hK => ?_)
    · refine event_step (by rfl) (v := .map (some W1.heap.size)) (w1 := W1.alloc (.map #[] 0)) rfl ?_
      have hO := World.ownsMap_made W1 Try.prog 62 (plainElem (H := Unit) Try.prog 2)
      have AD := blk_alloc AA (.map #[] 0)
      have AB := blk_alloc AJ (.map #[] 0)
      have hB' := Below.alloc AF AF.size (.map #[] 0)
      have hbw := AF.size
      obtain ⟨b, hb⟩ : ∃ b, b = W1.heap.size := ⟨_, rfl⟩
      have hsz : (W1.alloc (.map #[] 0)).heap.size = b + 1 := by rw [alloc_size_, hb]
      rw [← hb] at hO hbw Aj ⊢
      refine hK.out _ _ (held _ AB) (fun AE => ?_)
      generalize W1.alloc (.map #[] 0) = W2 at hO AD AB hB' hsz ⊢
      clear hK K hb AA AJ AF hHeld
      refine norm_ (a' := ?_) ?_ ?_
      rotate_left
      · show Act.put _ (some 12) _ = _
        simp only [Act.put, zs, zz, zk]
        rfl
      refine two_ (i := 2) (j := 5) (Ni := none) (Nj := some 16) #[true, true, true, false, true, false, false, false] #[true, true, false, false, true, true, false, false] rfl rfl rfl rfl (by kernel_rfl) (by decide) (by decide) (fun K hK => ?_) (fun K hK => ?_)
      ·
        obtain ⟨W3, hrun, ⟨D, AT, AZ⟩, AO⟩ := ins0 (a1, a2) ha hO
        have AG := blk_grown AD AO (fun z => by have := Option.some.inj z; omega)
        have AP := blk_grown AB AO (fun z => by have := Option.some.inj z; omega)
        have hBn := hB'.grown AO hB'.size (fun k hk => by have := Option.some.inj hk; omega)
        have Ae := AT.lt
        rw [if_pos (by rfl)]
        unfold Oper.wp
        go_simp
        refine hK.out _ _ (held _ AP) (fun AC => ?_)
        clear hK K
        refine pure_ (i := 3) (N := some 14) (v := ?_) (a' := ?_) (bA 8 31) rfl rfl (by kernel_rfl) (fun _ _ _ h => h) (Or.inl ⟨by rfl, ?_⟩) ?_ ?_
        rotate_left
        · intro w'
          go_simp
          with_reducible rfl
        rotate_left
        · simp only [Act.put, zs, zz, zk]; rfl
        refine pure_ (i := 6) (N := some 5) (v := ?_) (a' := ?_) (bA 8 95) rfl rfl (by kernel_rfl) (fun _ _ _ h => h) (Or.inl ⟨by rfl, ?_⟩) ?_ ?_
        rotate_left
        · intro w'
          go_simp
          with_reducible rfl
        rotate_left
        · simp only [Act.put, zs, zz, zk]; rfl
        refine one_ (i := 5) (N := some 16) (bA 8 127) rfl rfl (by kernel_rfl) (by decide) (fun K hK => ?_)
        refine event_step (by rfl) (v := .slice (some ⟨W3.heap.size, 0, none⟩) 1 1) (w1 := W3.alloc (.cells #[.int .i8 a1, .int .i8 a2] 62)) (by first | (go_simp; done) | (go_simp; rfl)) ?_
        refine hK.out _ _ (held _ (blk_alloc AP _)) (fun Al => ?_)
        clear hK K
        have hC := hCont (b, W3.heap.size) _ ⟨⟨D, H.map_below AT (Below.alloc (Below.refl _ _) (Nat.le_refl _) _), AZ⟩, spot_row W3 _ _ a1 a2 hBn.size (by show W3.heap.size ≠ b; omega), blk_alloc AG _, Below.alloc hBn hBn.size _, hbw⟩
        simp only [putAll, Act.put, zs, zz, zk] at hC ⊢
        exact hC
      · refine event_step (by rfl) (v := .slice (some ⟨W2.heap.size, 0, none⟩) 1 1) (w1 := W2.alloc (.cells #[.int .i8 a1, .int .i8 a2] 62)) (by first | (go_simp; done) | (go_simp; rfl)) ?_
        have hrow := spot_row W2 w.heap.size (fun k => k ≠ b) a1 a2 hB'.size (by show W2.heap.size ≠ b; omega)
        replace hO := H.map_below hO (Below.alloc (Below.refl _ _) (Nat.le_refl _) (.cells #[.int .i8 a1, .int .i8 a2] 62))
        replace AD := blk_alloc AD (.cells #[.int .i8 a1, .int .i8 a2] 62)
        replace AB := blk_alloc AB (.cells #[.int .i8 a1, .int .i8 a2] 62)
        replace hB' := Below.alloc hB' hB'.size (.cells #[.int .i8 a1, .int .i8 a2] 62)
        have hgb : W2.heap.size ≠ b := by omega
        obtain ⟨g, hg⟩ : ∃ g, g = W2.heap.size := ⟨_, rfl⟩
        rw [← hg] at hrow hgb ⊢
        refine hK.out _ _ (held _ AB) (fun AC => ?_)
        generalize W2.alloc (.cells #[.int .i8 a1, .int .i8 a2] 62) = Av at hO AD AB hB' hrow ⊢
        clear hK K hg hsz
        refine norm_ (a' := ?_) ?_ ?_
        rotate_left
        · show Act.put _ (some 16) _ = _
          simp only [Act.put, zs, zz, zk]
          rfl
        refine one_ (i := 2) (N := none) (bA 8 55) rfl rfl (by kernel_rfl) (by decide) (fun K hK => ?_)
        obtain ⟨W3, hrun, ⟨D, AT, AZ⟩, AO⟩ := ins0 (a1, a2) ha hO
        have AG := blk_grown AD AO (fun z => by have := Option.some.inj z; omega)
        have AP := blk_grown AB AO (fun z => by have := Option.some.inj z; omega)
        have hBn := hB'.grown AO hB'.size (fun k hk => by have := Option.some.inj hk; omega)
        have Ae := AT.lt
        rw [if_pos (by rfl)]
        unfold Oper.wp
        go_simp
        refine hK.out _ _ (held _ AP) (fun AC => ?_)
        clear hK K
        have AS := Kd.R_grown hrow AO (fun k hk z => hk (Option.some.inj z))
        refine pure_ (i := 3) (N := some 14) (v := ?_) (a' := ?_) (bA 8 63) rfl rfl (by kernel_rfl) (fun _ _ _ h => h) (Or.inl ⟨by rfl, ?_⟩) ?_ ?_
        rotate_left
        · intro w'
          go_simp
          with_reducible rfl
        rotate_left
        · simp only [Act.put, zs, zz, zk]; rfl
        refine pure_ (i := 6) (N := some 5) (v := ?_) (a' := ?_) (bA 8 127) rfl rfl (by kernel_rfl) (fun _ _ _ h => h) (Or.inl ⟨by rfl, ?_⟩) ?_ ?_
        rotate_left
        · intro w'
          go_simp
          with_reducible rfl
        rotate_left
        · simp only [Act.put, zs, zz, zk]; rfl
        have hC := hCont (b, g) _ ⟨⟨D, AT, AZ⟩, AS, AG, hBn, hbw⟩
        simp only [putAll, Act.put, zs, zz, zk] at hC ⊢
        exact hC
    · refine event_step (by rfl) (v := .slice (some ⟨W1.heap.size, 0, none⟩) 1 1) (w1 := W1.alloc (.cells #[.int .i8 a1, .int .i8 a2] 62)) (by first | (go_simp; done) | (go_simp; rfl)) ?_
      have Af : (W1.alloc (.cells #[.int .i8 a1, .int .i8 a2] 62)).heap.size = W1.heap.size + 1 := alloc_size_ _ _
      have hrow := spot_row W1 w.heap.size (fun k => k ≠ W1.heap.size + 1) a1 a2 AF.size (by show W1.heap.size ≠ W1.heap.size + 1; omega)
      replace AA := blk_alloc AA (.cells #[.int .i8 a1, .int .i8 a2] 62)
      replace AJ := blk_alloc AJ (.cells #[.int .i8 a1, .int .i8 a2] 62)
      replace AF := Below.alloc AF AF.size (.cells #[.int .i8 a1, .int .i8 a2] 62)
      obtain ⟨g, hg⟩ : ∃ g, g = W1.heap.size := ⟨_, rfl⟩
      rw [← hg] at hrow Af Aj ⊢
      refine hK.out _ _ (held _ AJ) (fun AE => ?_)
      generalize W1.alloc (.cells #[.int .i8 a1, .int .i8 a2] 62) = W2 at AA AJ AF hrow Af ⊢
      clear hK K hg hHeld
      refine norm_ (a' := ?_) ?_ ?_
      rotate_left
      · show Act.put _ (some 16) _ = _
        simp only [Act.put, zs, zz, zk]
        rfl
      refine one_ (i := 0) (N := some 12) (bA 8 51) rfl rfl (by kernel_rfl) (by decide) (fun K hK => ?_)
      refine event_step (by rfl) (v := .map (some W2.heap.size)) (w1 := W2.alloc (.map #[] 0)) rfl ?_
      have hO := World.ownsMap_made W2 Try.prog 62 (plainElem (H := Unit) Try.prog 2)
      have AD := blk_alloc AA (.map #[] 0)
      have AB := blk_alloc AJ (.map #[] 0)
      have hB' := Below.alloc AF AF.size (.map #[] 0)
      have hbw := AF.size
      have AK := Kd.R_alloc hrow (.map #[] 0)
      rw [← Af] at AK
      obtain ⟨b, hb⟩ : ∃ b, b = W2.heap.size := ⟨_, rfl⟩
      rw [← hb] at hO hbw Af AK ⊢
      replace Aj : w.heap.size + 1 < b := by omega
      clear Af
      refine hK.out _ _ (held _ AB) (fun AC => ?_)
      generalize W2.alloc (.map #[] 0) = Av at hO AD AB hB' AK ⊢
      clear hK K hb AA AJ AF hrow AE
      refine norm_ (a' := ?_) ?_ ?_
      rotate_left
      · show Act.put _ (some 12) _ = _
        simp only [Act.put, zs, zz, zk]
        rfl
      refine one_ (i := 2) (N := none) (bA 8 55) rfl rfl (by kernel_rfl) (by decide) (fun K hK => ?_)
      obtain ⟨W3, hrun, ⟨D, AT, AZ⟩, AO⟩ := ins0 (a1, a2) ha hO
      have AG := blk_grown AD AO (fun z => by have := Option.some.inj z; omega)
      have AP := blk_grown AB AO (fun z => by have := Option.some.inj z; omega)
      have hBn := hB'.grown AO hB'.size (fun k hk => by have := Option.some.inj hk; omega)
      have Ae := AT.lt
      rw [if_pos (by rfl)]
      unfold Oper.wp
      go_simp
      refine hK.out _ _ (held _ AP) (fun AC => ?_)
      clear hK K
      have AS := Kd.R_grown AK AO (fun k hk z => hk (Option.some.inj z))
      refine pure_ (i := 3) (N := some 14) (v := ?_) (a' := ?_) (bA 8 63) rfl rfl (by kernel_rfl) (fun _ _ _ h => h) (Or.inl ⟨by rfl, ?_⟩) ?_ ?_
      rotate_left
      · intro w'
        go_simp
        with_reducible rfl
      rotate_left
      · simp only [Act.put, zs, zz, zk]; rfl
      refine pure_ (i := 6) (N := some 5) (v := ?_) (a' := ?_) (bA 8 127) rfl rfl (by kernel_rfl) (fun _ _ _ h => h) (Or.inl ⟨by rfl, ?_⟩) ?_ ?_
      rotate_left
      · intro w'
        go_simp
        with_reducible rfl
      rotate_left
      · simp only [Act.put, zs, zz, zk]; rfl
      have hC := hCont (b, g) _ ⟨⟨D, AT, AZ⟩, AS, AG, hBn, hbw⟩
      simp only [putAll, Act.put, zs, zz, zk] at hC ⊢
      exact hC
  rintro ⟨b, g⟩ W4 ⟨⟨D, hO, hD⟩, hrow, AG, hBn, hbw⟩
  clear AA AJ AF hHeld
  simp only [putAll, Act.put, zs, zz, zk]
  refine pure_ (i := 7) (N := some 6) (v := ?_) (a' := ?_) (bA 8 255) rfl rfl (by kernel_rfl) (fun _ _ _ h => h) (Or.inl ⟨by rfl, ?_⟩) ?_ ?_
  rotate_left
  · intro w'
    go_simp
    with_reducible rfl
  rotate_left
  · simp only [Act.put, zs, zz, zk]; rfl
  refine done_ (by kernel_rfl) ?_
  dsimp only at hO hrow hbw
  go_wp2
  go_loopg [6, 7] k (fun kq v6 v7 wr => ∃ (kk i : Nat) (l : List (Int × Int)) (M : Int × Int → Option Int) (D : DataW Unit), v7 = .int .i64 (i : Int) ∧ kk ≤ kq ∧ i ≤ l.length ∧ Hid (H.bfs bes kk i l M = some R) ∧ l.length ≤ 1000 ∧ H.FarOk M l.length ∧ H.FarD D M ∧ wr.ownsMap Try.prog 62 (plainElem (H := Unit) Try.prog 2) b l.length D ∧ Kd.R k62 62 wr w.heap.size (fun k => k ≠ b) v6 (l.map toS) ∧ wr.heap[w.heap.size]? = some (.cells #[.int .i8 r0, .int .i8 r1, .int .u16 r2, .int .u16 r3, .int .u16 r4, .int .u16 r5, .int .u16 r6, .int .u16 r7, .int .u16 r8, .int .u16 r9, .int .u16 AL, .int .u16 AM] 35 (0, 0)) ∧ Below w.heap.size w wr)
  case atStart => exact ⟨k, 0, [(a1, a2)], _, D, rfl, Nat.le_refl _, Nat.zero_le _, hV, by simp, H.FarOk.one ha, hD, hO, hrow, AG, hBn⟩
  case round =>
    clear hD hO hrow AG hBn hV D
    obtain ⟨kk, i, l, M, D, rfl, hk, hi, hV, hl, hMo, hMD, hO, hrow, AA, hB⟩ := hrel
    cases kk with
    | zero => exact absurd hV (by simp [H.bfs, Hid])
    | succ kk =>
      have Aa : (if h : i < l.length then (bes l[i]).bind fun nx => (H.bfsIn l[i] nx l M).bind fun p => H.bfs bes kk (i + 1) p.1 p.2 else some M) = some R := hV
      clear hV
      obtain ⟨A6, c6, rfl⟩ := Kd.R_slice hrow
      rw [List.length_map] at hrow ⊢
      by_cases c : i < l.length
      · rw [dif_pos c] at Aa
        obtain ⟨nx, hnx, Ao⟩ := Option.bind_eq_some_iff.1 Aa
        obtain ⟨⟨l2, M2⟩, hin, Aw⟩ := Option.bind_eq_some_iff.1 Ao
        clear Aa Ao
        have f1 : ((i : Int) < (l.length : Int)) = True := eq_true (by omega)
        have f2 : (0 ≤ (i : Int)) = True := eq_true (by omega)
        obtain ⟨ad, e_, AR, AQ⟩ := at_T62 (Kd.R_reads' hrow).2.2 (i : Int) (by omega) (by rw [List.length_map]; omega)
        subst e_
        have hrd : rd_T62 (l.map toS) (i : Int) = toS l[i] := by simp [rd_T62, List.getD_eq_getElem?_getD, c]
        rw [hrd] at AR AQ
        generalize hcur : l[i] = cur at hnx hin AR AQ hrd
        obtain ⟨cx, cy⟩ := cur
        dsimp only [toS] at AR AQ
        rw [Int.toNat_natCast] at AR AQ
        go_wp2
        refine start_ (n := 8) (S := fun w' => w'.heap[w.heap.size]? = some (.cells #[.int .i8 r0, .int .i8 r1, .int .u16 r2, .int .u16 r3, .int .u16 r4, .int .u16 r5, .int .u16 r6, .int .u16 r7, .int .u16 r8, .int .u16 r9, .int .u16 AL, .int .u16 AM] 35 (0, 0)) ∧ w'.cell? (ad.add (i * 2)) = some (.int .i8 cx) ∧ w'.cell? ⟨(ad.add (i * 2)).block, (ad.add (i * 2)).off + 1, none⟩ = some (.int .i8 cy)) (ds := []) (bA 8 0) (by kernel_rfl) rfl rfl ⟨blk_drew AA, AR, AQ⟩ (fun hHeld => ?_)
        replace hO := H.map_block (w1 := wr.drew) hO rfl
        replace hrow := Kd.R_drew hrow
        replace AA := blk_drew AA
        replace hB := below_drew1 hB
        generalize wr.drew = W1 at hO hrow AA hB hHeld ⊢
        refine pure_ (i := 1) (N := some 24) (v := ?_) (a' := ?_) (bA 8 2) rfl rfl (by kernel_rfl) (fun _ _ _ h => h) (Or.inl ⟨by rfl, ?_⟩) ?_ ?_
        rotate_left
        · intro w'
          go_simp
          with_reducible rfl
        rotate_left
        · simp only [Act.put, zs, zz, zk]; rfl
        refine pure_ (i := 2) (N := some 25) (v := ?_) (a' := ?_) (bA 8 6) rfl rfl (by kernel_rfl) (fun _ _ _ h => h) (Or.inl ⟨by rfl, ?_⟩) ?_ ?_
        rotate_left
        · intro w'
          go_simp
          with_reducible rfl
        rotate_left
        · simp only [Act.put, zs, zz, zk]; rfl
        refine pure_ (i := 7) (N := some 30) (v := ?_) (a' := ?_) (bA 8 134) rfl rfl (by kernel_rfl) (fun _ _ _ h => h) (Or.inl ⟨by rfl, ?_⟩) ?_ ?_
        rotate_left
        · intro w'
          go_simp
          with_reducible rfl
        rotate_left
        · simp only [Act.put, zs, zz, zk]; rfl
        refine take_ (i := 0) (N := some 23) (v := ?_) (a' := ?_) (bA 8 135) rfl rfl (by kernel_rfl) (fun _ _ _ h => h) (Or.inl ⟨by rfl, ?_⟩) hHeld ?_ ?_
        rotate_left
        · rintro w' ⟨s0, s1, s2⟩; have q0 : w'.cell? ⟨w.heap.size, 0, none⟩ = some (.int .i8 r0) := (blk_cell s0 0).trans rfl; have q1 : w'.cell? ⟨w.heap.size, 1, none⟩ = some (.int .i8 r1) := (blk_cell s0 1).trans rfl; have q2 : w'.cell? ⟨w.heap.size, 2, none⟩ = some (.int .u16 r2) := (blk_cell s0 2).trans rfl; have q3 : w'.cell? ⟨w.heap.size, 3, none⟩ = some (.int .u16 r3) := (blk_cell s0 3).trans rfl; have q4 : w'.cell? ⟨w.heap.size, 4, none⟩ = some (.int .u16 r4) := (blk_cell s0 4).trans rfl; have q5 : w'.cell? ⟨w.heap.size, 5, none⟩ = some (.int .u16 r5) := (blk_cell s0 5).trans rfl; have q6 : w'.cell? ⟨w.heap.size, 6, none⟩ = some (.int .u16 r6) := (blk_cell s0 6).trans rfl; have q7 : w'.cell? ⟨w.heap.size, 7, none⟩ = some (.int .u16 r7) := (blk_cell s0 7).trans rfl; have q8 : w'.cell? ⟨w.heap.size, 8, none⟩ = some (.int .u16 r8) := (blk_cell s0 8).trans rfl; have q9 : w'.cell? ⟨w.heap.size, 9, none⟩ = some (.int .u16 r9) := (blk_cell s0 9).trans rfl; have A3 : w'.cell? ⟨w.heap.size, 10, none⟩ = some (.int .u16 AL) := (blk_cell s0 10).trans rfl; have A4 : w'.cell? ⟨w.heap.size, 11, none⟩ = some (.int .u16 AM) := (blk_cell s0 11).trans rfl
          go_simp
          with_reducible rfl
        rotate_left
        · simp only [Act.put, zs, zz, zk]; rfl
        refine pure_ (i := 3) (N := some 26) (v := ?_) (a' := ?_) (bA 8 143) rfl rfl (by kernel_rfl) (fun _ _ _ h => h) (Or.inl ⟨by rfl, ?_⟩) ?_ ?_
        rotate_left
        · intro w'
          go_simp
          with_reducible rfl
        rotate_left
        · simp only [Act.put, zs, zz, zk]; rfl
        refine take_ (i := 4) (N := some 27) (v := ?_) (a' := ?_) (bA 8 159) rfl rfl (by kernel_rfl) (fun _ _ _ h => h) (Or.inl ⟨by rfl, ?_⟩) hHeld ?_ ?_
        rotate_left
        · rintro w' ⟨s0, s1, s2⟩
          go_simp
          with_reducible rfl
        rotate_left
        · simp only [Act.put, zs, zz, zk]; rfl
        refine one_ (i := 5) (N := some 28) (bA 8 191) rfl rfl (by kernel_rfl) (by decide) (fun K hK => ?_)
        refine goes_ Try.func100 (by kernel_rfl) rfl #[.agg #[.int .i8 r0, .int .i8 r1, .int .u16 r2, .int .u16 r3, .int .u16 r4, .int .u16 r5, .int .u16 r6, .int .u16 r7, .int .u16 r8, .int .u16 r9, .int .u16 AL, .int .u16 AM], .agg #[.int .i8 cx, .int .i8 cy]] (by rfl) rfl rfl (by (try simp only [List.map_toArray, List.map_cons, List.map_nil]); first | done | rfl) ?_
        refine (hbes _ (cx, cy) nx hnx).mono ?_
        rintro e w2 ⟨Ap, rfl, ho, hb⟩
        refine ⟨_, rfl, ?_⟩
        obtain ⟨es, clock, hbm, F, Ar, hD_⟩ := hO
        have hO : W1.ownsMap Try.prog 62 (plainElem (H := Unit) Try.prog 2) b l.length D := ⟨es, clock, hbm, F, Ar, hD_⟩
        have hblt := blk_lt hbm
        have hN : Kd.R k62 62 w2 w.heap.size (fun k => k ≠ b) Ap (nx.map toS) := Kd.R_lower (R62re ho (fun k hk z => by have := Kd.R_base ho k hk; omega)) hB.size
        have hA : ∀ k, (Value.slice (some ad) l.length c6).ownBlock = some k → Ap.ownBlock ≠ some k := fun k hk z => by
          have h1 := Kd.R_lt hrow k hk
          have h2 := Kd.R_base ho k z
          omega
        have Ac : w2.cell? (ad.add (i * 2)) = some (.int .i8 cx) := (hb.cell (World.block_lt_of_cell? W1 _ hHeld.2.1)).trans hHeld.2.1
        have Ag : w2.cell? ⟨(ad.add (i * 2)).block, (ad.add (i * 2)).off + 1, none⟩ = some (.int .i8 cy) := (hb.cell (World.block_lt_of_cell? W1 _ hHeld.2.2)).trans hHeld.2.2
        replace hO := H.map_below hO hb
        replace hrow := Kd.R_below hrow hb
        replace AA := blk_below AA hb
        replace hB := hB.trans (hb.mono hB.size)
        obtain ⟨As, AW, rfl⟩ := Kd.R_slice hN
        rw [List.length_map] at hN hA ⊢
        refine hK.out _ _ ⟨AA, Ac, Ag⟩ (fun AE => ?_)
        clear hK K AE Ac Ag ho hb hbm F Ar hD_ hblt hHeld AR AQ
        refine norm_ (a' := ?_) ?_ ?_
        rotate_left
        · show Act.put _ (some 28) _ = _
          simp only [Act.put, zs, zz, zk]
          rfl
        refine pure_ (i := 6) (N := some 29) (v := ?_) (a' := ?_) (bA 8 255) rfl rfl (by kernel_rfl) (fun _ _ _ h => h) (Or.inl ⟨by rfl, ?_⟩) ?_ ?_
        rotate_left
        · intro w'
          go_simp
          with_reducible rfl
        rotate_left
        · simp only [Act.put, zs, zz, zk]; rfl
        refine done_ (by kernel_rfl) ?_
        go_wp2
        have hci : l[i]? = some (cx, cy) := by rw [List.getElem?_eq_getElem c, hcur]
        clear hrd hcur f1 f2 hi c
        go_loopg [6, 30] nx.length (fun gq v6 A0 w3 => ∃ (j : Nat) (l' : List (Int × Int)) (M' : Int × Int → Option Int) (D' : DataW Unit), A0 = .int .i64 (j : Int) ∧ nx.length - j ≤ gq ∧ j ≤ nx.length ∧ Hid (H.bfsIn (cx, cy) (nx.drop j) l' M' = some (l2, M2)) ∧ l'[i]? = some (cx, cy) ∧ l'.length ≤ 1000 ∧ H.FarOk M' l'.length ∧ H.FarD D' M' ∧ w3.ownsMap Try.prog 62 (plainElem (H := Unit) Try.prog 2) b l'.length D' ∧ Kd.R k62 62 w3 w.heap.size (fun k => k ≠ b) v6 (l'.map toS) ∧ (∀ k, v6.ownBlock = some k → (Value.slice As nx.length AW).ownBlock ≠ some k) ∧ Kd.R k62 62 w3 w.heap.size (fun k => k ≠ b) (.slice As nx.length AW) (nx.map toS) ∧ w3.heap[w.heap.size]? = some (.cells #[.int .i8 r0, .int .i8 r1, .int .u16 r2, .int .u16 r3, .int .u16 r4, .int .u16 r5, .int .u16 r6, .int .u16 r7, .int .u16 r8, .int .u16 r9, .int .u16 AL, .int .u16 AM] 35 (0, 0)) ∧ Below w.heap.size w w3)
        case atStart => exact ⟨0, l, M, D, rfl, by omega, Nat.zero_le _, hin, hci, hl, hMo, hMD, hO, hrow, hA, hN, AA, hB⟩
        case round =>
          clear hin hci hl hMo hMD hO hrow hA hN AA hB
          obtain ⟨j, l', M', D', rfl, hjq, hj, hin, hci, hl, hMo, hMD, hO, hrow, hA, hN, AA, hB⟩ := hrel
          obtain ⟨A6, c6, rfl⟩ := Kd.R_slice hrow
          rw [List.length_map] at hrow hA ⊢
          by_cases cj : j < nx.length
          · have f1 : ((j : Int) < (nx.length : Int)) = True := eq_true (by omega)
            have f2 : (0 ≤ (j : Int)) = True := eq_true (by omega)
            obtain ⟨Ah, e_, AR, AQ⟩ := at_T62 (Kd.R_reads' hN).2.2 (j : Int) (by omega) (by rw [List.length_map]; omega)
            subst e_
            have hrd : rd_T62 (nx.map toS) (j : Int) = toS nx[j] := by simp [rd_T62, List.getD_eq_getElem?_getD, cj]
            rw [hrd] at AR AQ
            have hdr : nx.drop j = nx[j] :: nx.drop (j + 1) := List.drop_eq_getElem_cons cj
            rw [hdr] at hin
            generalize nx[j] = s at AR AQ hin hrd hdr
            obtain ⟨sx, sy⟩ := s
            dsimp only [toS] at AR AQ
            rw [Int.toNat_natCast] at AR AQ
            have AH : (if H.inG (sx, sy) = true then (match M' (sx, sy) with | some _ => H.bfsIn (cx, cy) (nx.drop (j + 1)) l' M' | none => (match M' (cx, cy) with | some d => (if l'.length < 1000 then H.bfsIn (cx, cy) (nx.drop (j + 1)) (l' ++ [(sx, sy)]) (H.farPut M' (sx, sy) (d + 1)) else none) | none => none)) else none) = some (l2, M2) := hin
            clear hin hrd hdr
            by_cases cg : H.inG (sx, sy) = true
            · rw [if_pos cg] at AH
              go_upto_region 8 with (fail)
              have hBl : Below wr.heap.size wr (wr.alloc (.cells #[.int .i8 sx, .int .i8 sy] 62)) := Below.alloc (Below.refl _ _) (Nat.le_refl _) _
              have AN := heap_alloc_new wr (.cells #[.int .i8 sx, .int .i8 sy] 62)
              replace hO := H.map_below hO hBl
              replace hrow := Kd.R_below hrow hBl
              replace hN := Kd.R_below hN hBl
              replace AA := blk_below AA hBl
              have hgw : w.heap.size ≤ wr.heap.size := hB.size
              replace hB := hB.trans (hBl.mono hB.size)
              clear hBl AR AQ
              generalize wr.alloc (.cells #[.int .i8 sx, .int .i8 sy] 62) = W3 at hO hrow hN AA hB AN ⊢
              generalize wr.heap.size = g9 at AN hgw ⊢
              have q0 : W3.cell? ⟨g9, 0, none⟩ = some (.int .i8 sx) := (blk_cell AN 0).trans rfl
              have q1 : W3.cell? ⟨g9, 1, none⟩ = some (.int .i8 sy) := (blk_cell AN 1).trans rfl
              have hlk := (H.far_look hO hMD cg).1
              have hwj : IntKind.i64.wrap ((j : Int) + 1) = ((j + 1 : Nat) : Int) := by have hz := Kd.C_max (Kd.R_reads' hN).2.2; rw [List.length_map] at hz; simp [IntKind.wrap, IntKind.bits, IntKind.signed]; omega
              cases hq : M' (sx, sy) with
              | some d =>
                rw [hq] at AH hlk
                dsimp only [Option.getD_some, Option.isSome_some] at AH hlk
                have Am : Hid (H.bfsIn (cx, cy) (nx.drop (j + 1)) l' M' = some (l2, M2)) := AH
                clear AH f1 f2
                go_wp2
                go_roundg (nx.length - (j + 1))
                case measure => omega
                case rel => exact ⟨j + 1, l', M', D', by simp, by omega, by omega, Am, hci, hl, hMo, hMD, hO, hrow, hA, hN, AA, hB⟩
              | none =>
                rw [hq] at AH hlk
                dsimp only [Option.getD_none, Option.isSome_none] at AH hlk
                cases hq2 : M' (cx, cy) with
                | none => rw [hq2] at AH; cases AH
                | some d =>
                  rw [hq2] at AH
                  by_cases cl : l'.length < 1000
                  · have Am : Hid (H.bfsIn (cx, cy) (nx.drop (j + 1)) (l' ++ [(sx, sy)]) (H.farPut M' (sx, sy) (d + 1)) = some (l2, M2)) := by
                      have h2 := AH
                      dsimp only at h2
                      rw [if_pos cl] at h2
                      exact h2
                    have AI := hMo _ _ hq2
                    have hlg := (H.far_look hO hMD AI.1).2 d hq2
                    clear AH f1 f2
                    go_upto_region 10 with (fail)
                    have hil := (List.getElem?_eq_some_iff.1 hci).1
                    have f1 : ((i : Int) < (l'.length : Int)) = True := eq_true (by omega)
                    have f2 : (0 ≤ (i : Int)) = True := eq_true (by omega)
                    obtain ⟨AV, e_, Ab, AY⟩ := at_T62 (Kd.R_reads' hrow).2.2 (i : Int) (by omega) (by rw [List.length_map]; omega)
                    subst e_
                    have hrd : rd_T62 (l'.map toS) (i : Int) = (⟨cx, cy⟩ : S62) := by
                      have h2 : (l'.map toS)[i]? = some (toS (cx, cy)) := by rw [List.getElem?_map, hci]; rfl
                      simp [rd_T62, List.getD_eq_getElem?_getD, h2, toS]
                    rw [hrd] at Ab AY
                    dsimp only at Ab AY
                    rw [Int.toNat_natCast] at Ab AY
                    have hwd : IntKind.i64.wrap (d + 1) = d + 1 := by have := AI.2.1; have := AI.2.2; simp [IntKind.wrap, IntKind.bits, IntKind.signed]; omega
                    have hwf : (Lit.int .i64 (d + 1)).wf = true := by have := AI.2.1; have := AI.2.2; simp [Lit.wf, IntKind.min, IntKind.max, IntKind.bits, IntKind.signed]; omega
                    clear hrd hlk q0 q1
                    refine start_ (n := 10) (S := fun w' => w'.cell? ⟨g9, 0, none⟩ = some (.int .i8 sx) ∧ w'.cell? ⟨g9, 1, none⟩ = some (.int .i8 sy) ∧ w'.cell? (AV.add (i * 2)) = some (.int .i8 cx) ∧ w'.cell? ⟨(AV.add (i * 2)).block, (AV.add (i * 2)).off + 1, none⟩ = some (.int .i8 cy) ∧ (Instr.lookup 132 (.map (some b)) (.agg #[.int .i8 cx, .int .i8 cy]) false).run Try.prog w' = .ok (.int .i64 d) w') (ds := [9]) (bA 10 0) (by kernel_rfl) rfl rfl ⟨(blk_cell (blk_drew AN) 0).trans rfl, (blk_cell (blk_drew AN) 1).trans rfl, Ab, AY, (H.far_look (H.map_block (w1 := W3.drew) hO rfl) hMD AI.1).2 d hq2⟩ (fun hHeld => ?_)
                    replace hO := H.map_block (w1 := W3.drew) hO rfl
                    replace hrow := Kd.R_drew hrow
                    replace hN := Kd.R_drew hN
                    replace AA := blk_drew AA
                    replace AN := blk_drew AN
                    replace hB := below_drew1 hB
                    clear hlg Ab AY
                    generalize W3.drew = W4 at hO hrow hN AA AN hB hHeld ⊢
                    refine pure_ (i := 0) (N := some 42) (v := ?_) (a' := ?_) (bA 10 1) rfl rfl (by kernel_rfl) (fun _ _ _ h => h) (Or.inl ⟨by rfl, ?_⟩) ?_ ?_
                    rotate_left
                    · intro w'
                      go_simp
                      with_reducible rfl
                    rotate_left
                    · simp only [Act.put, zs, zz, zk]; rfl
                    refine pure_ (i := 2) (N := some 44) (v := ?_) (a' := ?_) (bA 10 5) rfl rfl (by kernel_rfl) (fun _ _ _ h => h) (Or.inl ⟨by rfl, ?_⟩) ?_ ?_
                    rotate_left
                    · intro w'
                      go_simp
                      with_reducible rfl
                    rotate_left
                    · simp only [Act.put, zs, zz, zk]; rfl
                    refine pure_ (i := 3) (N := some 45) (v := ?_) (a' := ?_) (bA 10 13) rfl rfl (by kernel_rfl) (fun _ _ _ h => h) (Or.inl ⟨by rfl, ?_⟩) ?_ ?_
                    rotate_left
                    · intro w'
                      go_simp
                      with_reducible rfl
                    rotate_left
                    · simp only [Act.put, zs, zz, zk]; rfl
                    refine pure_ (i := 4) (N := some 46) (v := ?_) (a' := ?_) (bA 10 29) rfl rfl (by kernel_rfl) (fun _ _ _ h => h) (Or.inl ⟨by rfl, ?_⟩) ?_ ?_
                    rotate_left
                    · intro w'
                      go_simp
                      with_reducible rfl
                    rotate_left
                    · simp only [Act.put, zs, zz, zk]; rfl
                    refine take_ (i := 1) (N := some 43) (v := ?_) (a' := ?_) (bA 10 31) rfl rfl (by kernel_rfl) (fun _ _ _ h => h) (Or.inl ⟨by rfl, ?_⟩) hHeld ?_ ?_
                    rotate_left
                    · rintro w' ⟨s0, s1, s2, s3, s4⟩
                      go_simp
                      with_reducible rfl
                    rotate_left
                    · simp only [Act.put, zs, zz, zk]; rfl
                    refine pure_ (i := 5) (N := some 47) (v := ?_) (a' := ?_) (bA 10 63) rfl rfl (by kernel_rfl) (fun _ _ _ h => h) (Or.inl ⟨by rfl, ?_⟩) ?_ ?_
                    rotate_left
                    · intro w'
                      go_simp
                      with_reducible rfl
                    rotate_left
                    · simp only [Act.put, zs, zz, zk]; rfl
                    refine take_ (i := 6) (N := some 48) (v := ?_) (a' := ?_) (bA 10 127) rfl rfl (by kernel_rfl) (fun _ _ _ h => h) (Or.inl ⟨by rfl, ?_⟩) hHeld ?_ ?_
                    rotate_left
                    · rintro w' ⟨s0, s1, s2, s3, s4⟩
                      go_simp
                      with_reducible rfl
                    rotate_left
                    · simp only [Act.put, zs, zz, zk]; rfl
                    refine take_ (i := 7) (N := some 49) (v := ?_) (a' := ?_) (bA 10 255) rfl rfl (by kernel_rfl) (fun _ _ _ h => h) (Or.inl ⟨by rfl, ?_⟩) hHeld ?_ ?_
                    rotate_left
                    · rintro w' ⟨s0, s1, s2, s3, s4⟩
                      go_simp
                      with_reducible rfl
                    rotate_left
                    · simp only [Act.put, zs, zz, zk]; rfl
                    refine pure_ (i := 8) (N := some 50) (v := ?_) (a' := ?_) (bA 10 511) rfl rfl (by kernel_rfl) (fun _ _ _ h => h) (Or.inl ⟨by rfl, ?_⟩) ?_ ?_
                    rotate_left
                    · intro w'
                      go_simp
                      with_reducible rfl
                    rotate_left
                    · simp only [Act.put, zs, zz, zk]; rfl
                    refine last_ (i := 9) (N := none) #[true, true, true, true, true, true, true, true, true, true] rfl rfl (by kernel_rfl) (by decide) (fun K hK => ?_)
                    obtain ⟨W5, hrun, Aq, Ad⟩ := hO.update H.spotKeyed Try.underlying132 (by unfold maxLen; omega) (H.keyG cg) (plainElem_int Try.underlying2 hwf)
                    have Ai := hMD.put hO.isMap cg (d + 1)
                    have Ak := hMo.put cg AI.2.1 AI.2.2
                    have hOlt := hO.lt
                    have hwb : w.heap.size ≠ b := fun z => by
                      obtain ⟨es, clock, hbm, _⟩ := hO
                      rw [← z, AA] at hbm
                      cases hbm
                    have A1 : g9 ≠ b := fun z => by
                      obtain ⟨es, clock, hbm, _⟩ := hO
                      rw [← z, AN] at hbm
                      cases hbm
                    replace hrow := Kd.R_grown hrow Ad (fun k hk z => hk (Option.some.inj z))
                    replace hN := Kd.R_grown hN Ad (fun k hk z => hk (Option.some.inj z))
                    replace AA := blk_grown AA Ad (fun z => hwb (Option.some.inj z))
                    replace AN := blk_grown AN Ad (fun z => A1 (Option.some.inj z))
                    replace hB := hB.grown Ad hB.size (fun k hk => by have := Option.some.inj hk; omega)
                    rw [if_pos (by rfl)]
                    unfold Oper.wp
                    go_simp
                    refine hK.out _ _ ?_
                    clear hK K
                    refine done_ (by kernel_rfl) ?_
                    clear hHeld hO hMD hMo hrun f1 f2
                    have q0 : W5.cell? ⟨g9, 0, none⟩ = some (.int .i8 sx) := (blk_cell AN 0).trans rfl
                    have q1 : W5.cell? ⟨g9, 1, none⟩ = some (.int .i8 sy) := (blk_cell AN 1).trans rfl
                    have AX := Aq.lt
                    have At : Kd.R k62 62 W5 w.heap.size (fun k => (Value.slice (some AV) l'.length c6).ownBlock ≠ some k) (.slice (some Ah) nx.length AW) (nx.map toS) := R62re hN (fun k hk z => hA k z hk)
                    have Au : Kd.R k62 62 W5 w.heap.size (fun k => k ≠ b ∧ (Value.slice (some Ah) nx.length AW).ownBlock ≠ some k) (.slice (some AV) l'.length c6) (l'.map toS) := R62re hrow (fun k hk => ⟨hrow.1 k hk, hA k hk⟩)
                    have hfr : ∀ k, W5.heap.size ≤ k → k ≠ b ∧ (Value.slice (some Ah) nx.length AW).ownBlock ≠ some k := fun k hk => ⟨by omega, fun z => by have := Kd.R_lt hN k z; omega⟩
                    go_wp2_with (((with_reducible refine gate_builtin (b := .append) (xs := #[.tmp 51, .tmp 53]) rfl ?_); at_builtin; refine Kd.R_append k62 (w0 := w) w.heap.size rfl (.tmp 51) (.tmp 53) 37 62 (.agg #[(.int .i8 0), (.int .i8 0)]) 2 rfl Try.underlying37 info62 rfl (by decide) (by omega) (.slice (some AV) l'.length c6) (l'.map toS) (⟨sx, sy⟩ : S62) [.int .i8 sx, .int .i8 sy] (fun k => k ≠ b ∧ (Value.slice (some Ah) nx.length AW).ownBlock ≠ some k) (fun _ => False) rfl rfl ?aP (fun _ hk => hk.elim) ?aF ?aO ?aB ?aS ?aL ?_; (case aP => exact k62_mkM _ _ _ (⟨sx, sy⟩ : S62)); (case aF => exact hfr); (case aO => exact Au); (case aB => exact hB); (case aS => exact hB.size); (case aL => rw [List.length_map]; omega); intro A2 W6 ho Az An hat))
                    have hlen : (l' ++ [(sx, sy)]).length = l'.length + 1 := by rw [List.length_append]; rfl
                    go_roundg (nx.length - (j + 1))
                    case measure => omega
                    case rel => exact ⟨j + 1, l' ++ [(sx, sy)], _, _, by simp, by omega, by omega, Am, by rw [List.getElem?_append_left hil]; exact hci, by omega, by rw [hlen]; exact Ak, Ai, by rw [hlen]; exact H.map_block Aq (An.block b AX (fun z => hrow.1 b z.symm rfl)), by rw [List.map_append]; exact Kd.R_mono ho (fun k hk => hk.1), fun k hk => (ho.1 k hk).2, R62re (Kd.R_grown At An (fun k hk z => hk z.symm)) (fun k hk => hN.1 k hk), blk_grown AA An (Kd.R_ne hrow AA (by decide)), Az⟩
                  · exfalso
                    dsimp only at AH
                    rw [if_neg cl] at AH
                    cases AH
            · rw [if_neg cg] at AH; cases AH
          · obtain rfl : j = nx.length := by omega
            rw [List.drop_length] at hin
            have AU : some (l', M') = some (l2, M2) := hin
            injection AU with AU
            injection AU with e1 e2
            subst e1
            subst e2
            have f1 : ((nx.length : Int) < (nx.length : Int)) = False := eq_false (by omega)
            have hwi : IntKind.i64.wrap ((i : Int) + 1) = ((i + 1 : Nat) : Int) := by simp [IntKind.wrap, IntKind.bits, IntKind.signed]; have := (List.getElem?_eq_some_iff.1 hci).1; omega
            go_wp2
            go_roundg kk
            case measure => omega
            case rel => exact ⟨kk, i + 1, l', M', D', by simp, Nat.le_refl _, (List.getElem?_eq_some_iff.1 hci).1, Aw, hl, hMo, hMD, hO, hrow, AA, hB⟩
      · rw [dif_neg c] at Aa
        obtain rfl := Option.some.inj Aa
        have f1 : ((i : Int) < (l.length : Int)) = False := eq_false (by omega)
        go_wp2
        go_ret
        exact ⟨b, rfl, ⟨l.length, D, hO, hMD⟩, hB⟩

/-- What r.beside yields, as pairs. -/
def impl_StepsBetween.bes (k : Nat) (AG : Int) (AI : Int) (AL : Int) (AD : Int) (AF : Int) (AE : Int) (AJ : Int) (AH : Int) (AK : Int) (AC : Int) (AB : Int) (AA : Int) : Int × Int → Option (List (Int × Int)) := fun s => (impl_Room_beside.f k AG AI AL AD AF AE AJ AH AK AC AB AA s.1 s.2).map (List.map (fun x => (x.f0, x.f1)))
theorem impl_StepsBetween.steps_ (k : Nat) (AC : Int) (AE : Int) (AJ : Int) (AF : Int) (AG : Int) (AK : Int) (AI : Int) (AD : Int) (AL : Int) (AH : Int) (AA : Int) (AB : Int) (a : Int × Int) (R : Int × Int → Option Int) (hR : Go.Proofs.Ytooidjdgfoioiaa.H.bfsFrom (impl_StepsBetween.bes k AC AE AJ AF AG AK AI AD AL AH AA AB) k a = some R) (w : World) :
    Calls Try.prog 93 #[.agg #[.int .i8 AC, .int .i8 AE, .int .u16 AJ, .int .u16 AF, .int .u16 AG, .int .u16 AK, .int .u16 AI, .int .u16 AD, .int .u16 AL, .int .u16 AH, .int .u16 AA, .int .u16 AB], .agg #[.int .i8 a.1, .int .i8 a.2]] w fun e w' => ∃ b, e = .returned (.map (some b)) ∧ (∃ n D, w'.ownsMap Try.prog 62 (plainElem (H := Unit) Try.prog 2) b n D ∧ Go.Proofs.Ytooidjdgfoioiaa.H.FarD D R) ∧ Below w.heap.size w w' :=
  steps_calls AC AE AJ AF AG AK AI AD AL AH AA AB (impl_StepsBetween.bes k AC AE AJ AF AG AK AI AD AL AH AA AB) (fun W s nx hs => by
    obtain ⟨xs, hxs, hmap⟩ := Option.map_eq_some_iff.1 hs
    have hid : nx.map toS = xs := by rw [← hmap, List.map_map]; exact (List.map_congr_left (fun x _ => rfl)).trans (List.map_id xs)
    refine (impl_Room_beside.calls k AC AE AJ AF AG AK AI AD AL AH AA AB s.1 s.2 xs W hxs).mono ?_
    rintro e w' ⟨v, h1, h2, h3⟩
    exact ⟨v, h1, by rw [hid]; exact h2, h3⟩) k a R hR w
def impl_StepsBetween.far (k : Nat) (AJ : Int) (AM : Int) (AP : Int) (AG : Int) (AH : Int) (AF : Int) (AN : Int) (AI : Int) (AO : Int) (AE : Int) (AD : Int) (AC : Int) (AL AK AB AA : Int) : Option (Int × Int) := (Go.Proofs.Ytooidjdgfoioiaa.H.bfsFrom (impl_StepsBetween.bes k AJ AM AP AG AH AF AN AI AO AE AD AC) k (AL, AK)).bind fun R => (if Go.Proofs.Ytooidjdgfoioiaa.H.inG (AB, AA) = true then some (match R (AB, AA) with | some d => ((d, 0) : Int × Int) | none => (0, 6)) else none)
def impl_StepsBetween.f (k : Nat) (AC : Int) (AE : Int) (AM : Int) (AG : Int) (AH : Int) (AO : Int) (AL : Int) (AD : Int) (AP : Int) (AJ : Int) (AA : Int) (AB : Int) (AI : Int) (AK : Int) (AN : Int) (AF : Int) : Option (Int × Int) := (impl_cellCode.f k AC AE AM AG AH AO AL AD AP AJ AA AB (([(⟨AI, AK⟩ : S62), (⟨AN, AF⟩ : S62)] : List (S62)))).bind fun AR => ((impl_stateCode.f k AC AE AM AG AH AO AL AD AP AJ AA AB (([(⟨AI, AK⟩ : S62), (⟨AN, AF⟩ : S62)] : List (S62)))).bind fun AS => ((impl_firstOf.f k (([AR, AS] : List Int))).bind fun AQ => (if AQ = 0 then (impl_StepsBetween.far k AC AE AM AG AH AO AL AD AP AJ AA AB AI AK AN AF) else (some (0, AQ)))))
def impl_StepsBetween.T1 : Bool × List (List Nat × List Nat) := (true, [([], []), ([], []), ([], []), ([1, 2], [1, 2]), ([0, 3], [0, 3]), ([], []), ([], []), ([], []), ([6, 7], [6, 7]), ([5, 8, 4], [5, 8]), ([4, 9], [4, 9]), ([10, 9], [10]), ([11, 11, 0, 1, 2, 3, 4, 5, 6, 7, 8, 9, 10, 11], [11])])
def impl_StepsBetween.B1 : List Nat := [0, 0, 0, 6, 15, 0, 0, 0, 192, 511, 1023, 2047, 4095]
theorem impl_StepsBetween.tab1 : rtab .any (opsOf Try.f79 1) = impl_StepsBetween.T1 := by kernel_rfl
theorem impl_StepsBetween.bits1 : waitsOk impl_StepsBetween.T1.2 impl_StepsBetween.B1 = true := by kernel_rfl
set_option maxHeartbeats 8000000 in
set_option maxRecDepth 100000 in
theorem impl_StepsBetween.calls (k : Nat) (AY : Int) (AT : Int) (AX : Int) (AR : Int) (AU : Int) (AV : Int) (Aa : Int) (AZ : Int) (AS : Int) (AW : Int) (AM : Int) (AL : Int) (AH : Int) (AI : Int) (AF : Int) (AG : Int) (r1 : Int) (r2 : Int) (w : World) (h : impl_StepsBetween.f k AY AT AX AR AU AV Aa AZ AS AW AM AL AH AI AF AG = some (r1, r2)) :
    Calls Try.prog 79 #[.agg #[.int .i8 AY, .int .i8 AT, .int .u16 AX, .int .u16 AR, .int .u16 AU, .int .u16 AV, .int .u16 Aa, .int .u16 AZ, .int .u16 AS, .int .u16 AW, .int .u16 AM, .int .u16 AL], .agg #[.int .i8 AH, .int .i8 AI], .agg #[.int .i8 AF, .int .i8 AG]] w fun e w' => e = .returned (.tuple #[.int .i64 r1, .int .i64 r2]) ∧ Below w.heap.size w w' := by
 have CH := Try.underlying35
 have CJ := Try.underlying62
 have HB := ak (Below.refl w.heap.size w)
 have H := h
 unfold impl_StepsBetween.f at H
 clear h
 obtain ⟨Ac, A2⟩ : ∃ y_ : List (S62), y_ = (([(⟨AH, AI⟩ : S62), (⟨AF, AG⟩ : S62)] : List (S62))) := ⟨_, rfl⟩
 replace H : ((impl_cellCode.f k AY AT AX AR AU AV Aa AZ AS AW AM AL Ac).bind fun Ad => ((impl_stateCode.f k AY AT AX AR AU AV Aa AZ AS AW AM AL (([(⟨AH, AI⟩ : S62), (⟨AF, AG⟩ : S62)] : List (S62)))).bind fun Ai => ((impl_firstOf.f k (([Ad, Ai] : List Int))).bind fun Ah => (if Ah = 0 then (impl_StepsBetween.far k AY AT AX AR AU AV Aa AZ AS AW AM AL AH AI AF AG) else (some (0, Ah)))))) = some (r1, r2) := by first | (rw [A2]; with_reducible exact H) | (have BH := (Option.bind_some _ _).symm.trans H; rw [A2]; with_reducible exact BH) | (have BH := (Option.bind_some _ _).symm.trans H; with_reducible exact BH) | with_reducible exact H | (rw [A2]; exact H) | exact H
 have Aj := ak A2
 clear A2
 replace H := Option.bind_eq_some_iff.mp H
 obtain ⟨Ad, CA, H⟩ := H
 have A4 := ak CA
 clear CA
 obtain ⟨Ay, A3⟩ : ∃ y_ : List (S62), y_ = (([(⟨AH, AI⟩ : S62), (⟨AF, AG⟩ : S62)] : List (S62))) := ⟨_, rfl⟩
 replace H : ((impl_stateCode.f k AY AT AX AR AU AV Aa AZ AS AW AM AL Ay).bind fun Ai => ((impl_firstOf.f k (([Ad, Ai] : List Int))).bind fun Ah => (if Ah = 0 then (impl_StepsBetween.far k AY AT AX AR AU AV Aa AZ AS AW AM AL AH AI AF AG) else (some (0, Ah))))) = some (r1, r2) := by first | (rw [A3]; with_reducible exact H) | (have BH := (Option.bind_some _ _).symm.trans H; rw [A3]; with_reducible exact BH) | (have BH := (Option.bind_some _ _).symm.trans H; with_reducible exact BH) | with_reducible exact H | (rw [A3]; exact H) | exact H
 have Ae := ak A3
 clear A3
 replace H := Option.bind_eq_some_iff.mp H
 obtain ⟨Ai, B8, H⟩ := H
 have A5 := ak B8
 clear B8
 obtain ⟨BL, A1⟩ : ∃ y_ : List Int, y_ = (([Ad, Ai] : List Int)) := ⟨_, rfl⟩
 replace H : ((impl_firstOf.f k BL).bind fun Ah => (if Ah = 0 then (impl_StepsBetween.far k AY AT AX AR AU AV Aa AZ AS AW AM AL AH AI AF AG) else (some (0, Ah)))) = some (r1, r2) := by first | (rw [A1]; with_reducible exact H) | (have BH := (Option.bind_some _ _).symm.trans H; rw [A1]; with_reducible exact BH) | (have BH := (Option.bind_some _ _).symm.trans H; with_reducible exact BH) | with_reducible exact H | (rw [A1]; exact H) | exact H
 have A9 := ak A1
 clear A1
 replace H := Option.bind_eq_some_iff.mp H
 obtain ⟨Ah, CB, H⟩ := H
 have A6 := ak CB
 clear CB
 by_cases c7 : Ah = 0
 {
 rw [if_pos c7] at H
 have B3 : (Ah == 0) = true := beq_iff_eq.mpr c7
 have Bz : (Ah != 0) = false := bne_eq_false_iff_eq.mpr c7
 clear c7
 have HF := ak H
 clear H
 go_enter Try.func79, Try.ntmps79
 try go_wp2_with (first | ((with_reducible refine gate_dst (N := 3) rfl ?_); refine box_event ?hg (N := 3) ?hd (cs := #[.int .i8 AY, .int .i8 AT, .int .u16 AX, .int .u16 AR, .int .u16 AU, .int .u16 AV, .int .u16 Aa, .int .u16 AZ, .int .u16 AS, .int .u16 AW, .int .u16 AM, .int .u16 AL]) (t := 35) ?hr ?_; (case hd => rfl); (case hg => rfl); (case hr => first | (go_simp; done) | (go_simp; rfl)); intro AD hg w8 hbox hb; have Ap := ak (below_step (zB HB.out) hb); have Ak := ak (hbox); have An := gS HB hg; have Aq := gS HB hg; clear HB; have HB := Ap; have AC := Ak; have Ba := An; have AJ := Aq; clear Ap Ak An Aq; clear hb hbox hg) | ((with_reducible refine gate_dst (N := 4) rfl ?_); refine box_event ?hg (N := 4) ?hd (cs := #[.int .i8 AH, .int .i8 AI]) (t := 62) ?hr ?_; (case hd => rfl); (case hg => rfl); (case hr => first | (go_simp; done) | (go_simp; rfl)); intro AP hg w9 hbox hb; have Ap := ak (blk_below (g := AD) (o := .cells #[.int .i8 AY, .int .i8 AT, .int .u16 AX, .int .u16 AR, .int .u16 AU, .int .u16 AV, .int .u16 Aa, .int .u16 AZ, .int .u16 AS, .int .u16 AW, .int .u16 AM, .int .u16 AL] 35 (0, 0)) (zK AC.out) hb); have Ak := ak (below_step (zBG HB.out AJ.out) hb); have An := ak (hbox); have Aq := gS1 HB AJ hg; have A7 := gS1 HB AJ hg; have A0 := nL AC hg; have BP := nG AC hg; clear AC HB; have AC := Ap; have HB := Ak; have AA := An; have Bm := Aq; have AK := A7; have BF := A0; have BC := BP; clear Ap Ak An Aq A7 A0 BP; clear hb hbox hg) | ((with_reducible refine gate_dst (N := 5) rfl ?_); refine box_event ?hg (N := 5) ?hd (cs := #[.int .i8 AF, .int .i8 AG]) (t := 62) ?hr ?_; (case hd => rfl); (case hg => rfl); (case hr => first | (go_simp; done) | (go_simp; rfl)); intro AN hg CF hbox hb; have Ap := ak (blk_below (g := AD) (o := .cells #[.int .i8 AY, .int .i8 AT, .int .u16 AX, .int .u16 AR, .int .u16 AU, .int .u16 AV, .int .u16 Aa, .int .u16 AZ, .int .u16 AS, .int .u16 AW, .int .u16 AM, .int .u16 AL] 35 (0, 0)) (zK AC.out) hb); have Ak := ak (blk_below (g := AP) (o := .cells #[.int .i8 AH, .int .i8 AI] 62 (0, 0)) (zK AA.out) hb); have An := ak (below_step (zH2 HB AJ AK) hb); have Aq := ak (hbox); have A7 := ak ((by rw [hg]; exact (below_size (zH2 HB AJ AK)) : w.heap.size ≤ AN)); have A0 := ak ((by rw [hg]; exact (below_size (zH2 HB AJ AK)) : w.heap.size ≤ AN)); have BP := nL AC hg; have Bb := nG AC hg; have Be := nL AA hg; have Bg := nG AA hg; clear AC AA HB; have AC := Ap; have AA := Ak; have HB := An; have AB := Aq; have Bc := A7; have AQ := A0; have BE := BP; have BA := Bb; have BD := Be; have BB := Bg; clear Ap Ak An Aq A7 A0 BP Bb Be Bg; clear hb hbox hg))
 replace AC := ak (blk_drew AC.out)
 replace AA := ak (blk_drew AA.out)
 replace AB := ak (blk_drew AB.out)
 replace HB := ak (below_drew1 HB.out)
 refine start_ (n := 13) (S := fun w' => w'.cell? ⟨AD, 0, none⟩ = some (.int .i8 AY) ∧ w'.cell? ⟨AD, 1, none⟩ = some (.int .i8 AT) ∧ w'.cell? ⟨AD, 2, none⟩ = some (.int .u16 AX) ∧ w'.cell? ⟨AD, 3, none⟩ = some (.int .u16 AR) ∧ w'.cell? ⟨AD, 4, none⟩ = some (.int .u16 AU) ∧ w'.cell? ⟨AD, 5, none⟩ = some (.int .u16 AV) ∧ w'.cell? ⟨AD, 6, none⟩ = some (.int .u16 Aa) ∧ w'.cell? ⟨AD, 7, none⟩ = some (.int .u16 AZ) ∧ w'.cell? ⟨AD, 8, none⟩ = some (.int .u16 AS) ∧ w'.cell? ⟨AD, 9, none⟩ = some (.int .u16 AW) ∧ w'.cell? ⟨AD, 10, none⟩ = some (.int .u16 AM) ∧ w'.cell? ⟨AD, 11, none⟩ = some (.int .u16 AL) ∧ w'.cell? ⟨AP, 0, none⟩ = some (.int .i8 AH) ∧ w'.cell? ⟨AP, 1, none⟩ = some (.int .i8 AI) ∧ w'.cell? ⟨AN, 0, none⟩ = some (.int .i8 AF) ∧ w'.cell? ⟨AN, 1, none⟩ = some (.int .i8 AG)) (ds := []) (bA 13 0) (by kernel_rfl) rfl rfl (cr12 AC ⟨(blk_cell AA.out 0).trans rfl, (blk_cell AA.out 1).trans rfl, (blk_cell AB.out 0).trans rfl, (blk_cell AB.out 1).trans rfl⟩) (fun hHeld => ?_); refine with_tabW impl_StepsBetween.tab1 impl_StepsBetween.bits1 (fun HT_ HW_ => ?_)
 generalize CF.drew = CQ at AC AA AB HB hHeld ⊢
 refine tK 0 11 (bA 13 1) HT_ HW_ hHeld ?_
 refine tK 1 12 (bA 13 3) HT_ HW_ hHeld ?_
 refine tK 2 13 (bA 13 7) HT_ HW_ hHeld ?_
 refine tK 5 16 (bA 13 39) HT_ HW_ hHeld ?_
 refine tK 6 17 (bA 13 103) HT_ HW_ hHeld ?_
 refine tK 7 18 (bA 13 231) HT_ HW_ hHeld ?_
 refine join_ (σ := Value × Value) 4 #[true, true, true, true, true, true, true, true, true, false, false, false, false] (fun s_ => [(14, s_.1), (15, .int .i64 Ad), (19, s_.2)]) (fun s_ w' => (w'.cell? ⟨AD, 0, none⟩ = some (.int .i8 AY) ∧ w'.cell? ⟨AD, 1, none⟩ = some (.int .i8 AT) ∧ w'.cell? ⟨AD, 2, none⟩ = some (.int .u16 AX) ∧ w'.cell? ⟨AD, 3, none⟩ = some (.int .u16 AR) ∧ w'.cell? ⟨AD, 4, none⟩ = some (.int .u16 AU) ∧ w'.cell? ⟨AD, 5, none⟩ = some (.int .u16 AV) ∧ w'.cell? ⟨AD, 6, none⟩ = some (.int .u16 Aa) ∧ w'.cell? ⟨AD, 7, none⟩ = some (.int .u16 AZ) ∧ w'.cell? ⟨AD, 8, none⟩ = some (.int .u16 AS) ∧ w'.cell? ⟨AD, 9, none⟩ = some (.int .u16 AW) ∧ w'.cell? ⟨AD, 10, none⟩ = some (.int .u16 AM) ∧ w'.cell? ⟨AD, 11, none⟩ = some (.int .u16 AL) ∧ w'.cell? ⟨AP, 0, none⟩ = some (.int .i8 AH) ∧ w'.cell? ⟨AP, 1, none⟩ = some (.int .i8 AI) ∧ w'.cell? ⟨AN, 0, none⟩ = some (.int .i8 AF) ∧ w'.cell? ⟨AN, 1, none⟩ = some (.int .i8 AG)) ∧ (Kd.R k62 62 w' w.heap.size (fun k_ => some k_ ≠ (s_.2 : Value).ownBlock ∧ k_ ≠ AP ∧ k_ ≠ AN) s_.1 Ac) ∧ (Kd.R k62 62 w' w.heap.size (fun k_ => some k_ ≠ (s_.1 : Value).ownBlock ∧ k_ ≠ AP ∧ k_ ≠ AN) s_.2 Ay) ∧ (w'.heap[AD]? = some (.cells #[.int .i8 AY, .int .i8 AT, .int .u16 AX, .int .u16 AR, .int .u16 AU, .int .u16 AV, .int .u16 Aa, .int .u16 AZ, .int .u16 AS, .int .u16 AW, .int .u16 AM, .int .u16 AL] 35 (0, 0))) ∧ (w'.heap[AP]? = some (.cells #[.int .i8 AH, .int .i8 AI] 62 (0, 0))) ∧ (w'.heap[AN]? = some (.cells #[.int .i8 AF, .int .i8 AG] 62 (0, 0))) ∧ (Below w.heap.size w w')) ?_ ?_
 rotate_left
 {
 intro hCont
 refine two_ (i := 3) (j := 8) (Ni := some 14) (Nj := some 19) #[true, true, true, true, false, true, true, true, false, false, false, false, false] #[true, true, true, false, false, true, true, true, true, false, false, false, false] rfl rfl rfl rfl (two_of HT_.out (by kernel_rfl)) (by decide) (by decide) (fun K hK => ?_) (fun K hK => ?_)
 {
 skip
 refine Kd.R_lit_step k62 _ 62 ?hg (N := 14) ?hd (xs := ([(⟨AH, AI⟩ : S62), (⟨AF, AG⟩ : S62)] : List (S62))) (inner := [.int .i8 AH, .int .i8 AI, .int .i8 AF, .int .i8 AG]) (ok := fun _ => True) (okp := fun _ => True) ?hr ?hp (fun _ hk => hk) trivial (Below.refl _ _) (Nat.le_refl _) (by simp) ?_; (case hd => rfl); (case hg => rfl); (case hr => first | (go_simp; done) | (go_simp; rfl)); (case hp => exact (Reps.c2 (show Kd.M k62 _ _ _ (⟨AH, AI⟩ : S62) [.int .i8 AH, .int .i8 AI] from (k62_mkM _ _ _ (⟨AH, AI⟩ : S62) )) (Reps.c2 (show Kd.M k62 _ _ _ (⟨AF, AG⟩ : S62) [.int .i8 AF, .int .i8 AG] from (k62_mkM _ _ _ (⟨AF, AG⟩ : S62) )) (Reps.none _ _))))
 intro Av CC Az hb Ao Ab
 clear Ao Ab
 (first | rw [← Aj.out] at Az | (simp only [Int.reduceToNat] at Az; rw [← Aj.out] at Az))
 have AE := ak (Kd.R_lower (Kd.R_newB (Kd.R_newB Az (g := AP) (o := .cells #[.int .i8 AH, .int .i8 AI] 62 (0, 0)) (zK AA.out)) (g := AN) (o := .cells #[.int .i8 AF, .int .i8 AG] 62 (0, 0)) (zK AB.out)) (below_size (zH3 HB AJ AK AQ)))
 replace AC := kK AC hb
 replace AA := kK AA hb
 replace AB := kK AB hb
 replace HB := kB3 HB AJ AK AQ hb
 obtain ⟨Bo, BV, BY⟩ := Kd.R_slice AE.out
 (first | subst BY | (injection BY with f1_ f2_ f3_; have Aw := f1_.symm; have Au := f3_.symm; clear f1_ f2_ f3_; subst Aw; subst Au))
 refine hK.out _ _ (cr12 AC ⟨(blk_cell AA.out 0).trans rfl, (blk_cell AA.out 1).trans rfl, (blk_cell AB.out 0).trans rfl, (blk_cell AB.out 1).trans rfl⟩) (fun hHeld => ?_)
 clear hK K
 refine norm_ (a' := ?_) ?_ ?_
 rotate_left
 {
 show Act.put _ (some 14) _ = _
 simp only [Act.put, zs, zz, zk, i64_w, i32_w]
 rfl
 }
 refine two_ (i := 4) (j := 8) (Ni := some 15) (Nj := some 19) #[true, true, true, true, true, true, true, true, false, false, false, false, false] #[true, true, true, true, false, true, true, true, true, false, false, false, false] rfl rfl rfl rfl (two_of HT_.out (by kernel_rfl)) (by decide) (by decide) (fun K hK => ?_) (fun K hK => ?_)
 {
 skip
 refine goes_ Try.func46 (by kernel_rfl) rfl #[.agg #[.int .i8 AY, .int .i8 AT, .int .u16 AX, .int .u16 AR, .int .u16 AU, .int .u16 AV, .int .u16 Aa, .int .u16 AZ, .int .u16 AS, .int .u16 AW, .int .u16 AM, .int .u16 AL], .slice Bo Ac.length BV] (by rfl) rfl rfl gl_ ?_
 with_reducible refine (impl_cellCode.calls k AY AT AX AR AU AV Aa AZ AS AW AM AL _ _ Ac Ad _ ?side1 ?side2 A4.out).mono ?_
 (case side1 => exact zC (Kd.R_reads' AE.out).2.2)
 (case side2 => exact (Kd.R_reads' AE.out).2.1)
 rintro e CT ⟨rfl, hb⟩
 refine ⟨_, rfl, ?_⟩
 replace AE := kR AE hb
 replace AC := kK AC hb
 replace AA := kK AA hb
 replace AB := kK AB hb
 replace HB := kB3 HB AJ AK AQ hb
 refine hK.out _ _ (cr12 AC ⟨(blk_cell AA.out 0).trans rfl, (blk_cell AA.out 1).trans rfl, (blk_cell AB.out 0).trans rfl, (blk_cell AB.out 1).trans rfl⟩) (fun hHeld => ?_)
 clear hK K
 refine norm_ (a' := ?_) ?_ ?_
 rotate_left
 {
 show Act.put _ (some 15) _ = _
 simp only [Act.put, zs, zz, zk, i64_w, i32_w]
 rfl
 }
 refine one_ (i := 8) (N := some 19) (bA 13 511) rfl rfl (one_of HT_.out (by kernel_rfl)) (by decide) (fun K hK => ?_)
 refine Kd.R_lit_step k62 _ 62 ?hg (N := 19) ?hd (xs := ([(⟨AH, AI⟩ : S62), (⟨AF, AG⟩ : S62)] : List (S62))) (inner := [.int .i8 AH, .int .i8 AI, .int .i8 AF, .int .i8 AG]) (ok := fun _ => True) (okp := fun _ => True) ?hr ?hp (fun _ hk => hk) trivial (Below.refl _ _) (Nat.le_refl _) (by simp) ?_; (case hd => rfl); (case hg => rfl); (case hr => first | (go_simp; done) | (go_simp; rfl)); (case hp => exact (Reps.c2 (show Kd.M k62 _ _ _ (⟨AH, AI⟩ : S62) [.int .i8 AH, .int .i8 AI] from (k62_mkM _ _ _ (⟨AH, AI⟩ : S62) )) (Reps.c2 (show Kd.M k62 _ _ _ (⟨AF, AG⟩ : S62) [.int .i8 AF, .int .i8 AG] from (k62_mkM _ _ _ (⟨AF, AG⟩ : S62) )) (Reps.none _ _))))
 intro Af CU BK hb Ao Ab
 clear Ao Ab
 (first | rw [← Ae.out] at BK | (simp only [Int.reduceToNat] at BK; rw [← Ae.out] at BK))
 have AO := ak (Kd.R_lower (Kd.R_newB (Kd.R_newB (Kd.R_new' BK (Kd.R_lt (zR AE.out))) (g := AP) (o := .cells #[.int .i8 AH, .int .i8 AI] 62 (0, 0)) (zK AA.out)) (g := AN) (o := .cells #[.int .i8 AF, .int .i8 AG] 62 (0, 0)) (zK AB.out)) (below_size (zH3 HB AJ AK AQ)))
 replace AE := kE AE BK hb
 replace AC := kK AC hb
 replace AA := kK AA hb
 replace AB := kK AB hb
 replace HB := kB3 HB AJ AK AQ hb
 refine hK.out _ _ (cr12 AC ⟨(blk_cell AA.out 0).trans rfl, (blk_cell AA.out 1).trans rfl, (blk_cell AB.out 0).trans rfl, (blk_cell AB.out 1).trans rfl⟩) (fun hHeld => ?_)
 clear hK K
 refine norm_ (a' := ?_) ?_ ?_
 rotate_left
 {
 show Act.put _ (some 19) _ = _
 simp only [Act.put, zs, zz, zk, i64_w, i32_w]
 rfl
 }
 exact norm_ (by simp only [putAll, Act.put, zs, zz, zk]) (hCont (.slice Bo Ac.length BV, Af) _ ⟨hHeld, (Kd.R_mono AE.out (fun _ hk => ⟨hk.2, ⟨hk.1.1.2, hk.1.2⟩⟩)), (Kd.R_mono AO.out (fun _ hk => ⟨hk.1.1.2, ⟨hk.1.2, hk.2⟩⟩)), (zK AC.out), (zK AA.out), (zK AB.out), (zH3 HB AJ AK AQ)⟩)
 }
 {
 skip
 refine Kd.R_lit_step k62 _ 62 ?hg (N := 19) ?hd (xs := ([(⟨AH, AI⟩ : S62), (⟨AF, AG⟩ : S62)] : List (S62))) (inner := [.int .i8 AH, .int .i8 AI, .int .i8 AF, .int .i8 AG]) (ok := fun _ => True) (okp := fun _ => True) ?hr ?hp (fun _ hk => hk) trivial (Below.refl _ _) (Nat.le_refl _) (by simp) ?_; (case hd => rfl); (case hg => rfl); (case hr => first | (go_simp; done) | (go_simp; rfl)); (case hp => exact (Reps.c2 (show Kd.M k62 _ _ _ (⟨AH, AI⟩ : S62) [.int .i8 AH, .int .i8 AI] from (k62_mkM _ _ _ (⟨AH, AI⟩ : S62) )) (Reps.c2 (show Kd.M k62 _ _ _ (⟨AF, AG⟩ : S62) [.int .i8 AF, .int .i8 AG] from (k62_mkM _ _ _ (⟨AF, AG⟩ : S62) )) (Reps.none _ _))))
 intro Af CK Al hb Ao Ab
 clear Ao Ab
 (first | rw [← Ae.out] at Al | (simp only [Int.reduceToNat] at Al; rw [← Ae.out] at Al))
 have AO := ak (Kd.R_lower (Kd.R_newB (Kd.R_newB (Kd.R_new' Al (Kd.R_lt (zR AE.out))) (g := AP) (o := .cells #[.int .i8 AH, .int .i8 AI] 62 (0, 0)) (zK AA.out)) (g := AN) (o := .cells #[.int .i8 AF, .int .i8 AG] 62 (0, 0)) (zK AB.out)) (below_size (zH3 HB AJ AK AQ)))
 replace AE := kE AE Al hb
 replace AC := kK AC hb
 replace AA := kK AA hb
 replace AB := kK AB hb
 replace HB := kB3 HB AJ AK AQ hb
 obtain ⟨BI, BN, BG⟩ := Kd.R_slice AE.out
 (first | subst BG | (injection BG with f1_ f2_ f3_; have Aw := f1_.symm; have Au := f3_.symm; clear f1_ f2_ f3_; subst Aw; subst Au))
 refine hK.out _ _ (cr12 AC ⟨(blk_cell AA.out 0).trans rfl, (blk_cell AA.out 1).trans rfl, (blk_cell AB.out 0).trans rfl, (blk_cell AB.out 1).trans rfl⟩) (fun hHeld => ?_)
 clear hK K
 refine norm_ (a' := ?_) ?_ ?_
 rotate_left
 {
 show Act.put _ (some 19) _ = _
 simp only [Act.put, zs, zz, zk, i64_w, i32_w]
 rfl
 }
 refine one_ (i := 4) (N := some 15) (bA 13 511) rfl rfl (one_of HT_.out (by kernel_rfl)) (by decide) (fun K hK => ?_)
 refine goes_ Try.func46 (by kernel_rfl) rfl #[.agg #[.int .i8 AY, .int .i8 AT, .int .u16 AX, .int .u16 AR, .int .u16 AU, .int .u16 AV, .int .u16 Aa, .int .u16 AZ, .int .u16 AS, .int .u16 AW, .int .u16 AM, .int .u16 AL], .slice BI Ac.length BN] (by rfl) rfl rfl gl_ ?_
 with_reducible refine (impl_cellCode.calls k AY AT AX AR AU AV Aa AZ AS AW AM AL _ _ Ac Ad _ ?side1 ?side2 A4.out).mono ?_
 (case side1 => exact zC (Kd.R_reads' AE.out).2.2)
 (case side2 => exact (Kd.R_reads' AE.out).2.1)
 rintro e CG ⟨rfl, hb⟩
 refine ⟨_, rfl, ?_⟩
 replace AE := kR AE hb
 replace AO := kR AO hb
 replace AC := kK AC hb
 replace AA := kK AA hb
 replace AB := kK AB hb
 replace HB := kB3 HB AJ AK AQ hb
 refine hK.out _ _ (cr12 AC ⟨(blk_cell AA.out 0).trans rfl, (blk_cell AA.out 1).trans rfl, (blk_cell AB.out 0).trans rfl, (blk_cell AB.out 1).trans rfl⟩) (fun hHeld => ?_)
 clear hK K
 refine norm_ (a' := ?_) ?_ ?_
 rotate_left
 {
 show Act.put _ (some 15) _ = _
 simp only [Act.put, zs, zz, zk, i64_w, i32_w]
 rfl
 }
 exact norm_ (by simp only [putAll, Act.put, zs, zz, zk]) (hCont (.slice BI Ac.length BN, Af) _ ⟨hHeld, (Kd.R_mono AE.out (fun _ hk => ⟨hk.2, ⟨hk.1.1.2, hk.1.2⟩⟩)), (Kd.R_mono AO.out (fun _ hk => ⟨hk.1.1.2, ⟨hk.1.2, hk.2⟩⟩)), (zK AC.out), (zK AA.out), (zK AB.out), (zH3 HB AJ AK AQ)⟩)
 }
 }
 {
 skip
 refine Kd.R_lit_step k62 _ 62 ?hg (N := 19) ?hd (xs := ([(⟨AH, AI⟩ : S62), (⟨AF, AG⟩ : S62)] : List (S62))) (inner := [.int .i8 AH, .int .i8 AI, .int .i8 AF, .int .i8 AG]) (ok := fun _ => True) (okp := fun _ => True) ?hr ?hp (fun _ hk => hk) trivial (Below.refl _ _) (Nat.le_refl _) (by simp) ?_; (case hd => rfl); (case hg => rfl); (case hr => first | (go_simp; done) | (go_simp; rfl)); (case hp => exact (Reps.c2 (show Kd.M k62 _ _ _ (⟨AH, AI⟩ : S62) [.int .i8 AH, .int .i8 AI] from (k62_mkM _ _ _ (⟨AH, AI⟩ : S62) )) (Reps.c2 (show Kd.M k62 _ _ _ (⟨AF, AG⟩ : S62) [.int .i8 AF, .int .i8 AG] from (k62_mkM _ _ _ (⟨AF, AG⟩ : S62) )) (Reps.none _ _))))
 intro Af CC Az hb Ao Ab
 clear Ao Ab
 (first | rw [← Ae.out] at Az | (simp only [Int.reduceToNat] at Az; rw [← Ae.out] at Az))
 have AO := ak (Kd.R_lower (Kd.R_newB (Kd.R_newB Az (g := AP) (o := .cells #[.int .i8 AH, .int .i8 AI] 62 (0, 0)) (zK AA.out)) (g := AN) (o := .cells #[.int .i8 AF, .int .i8 AG] 62 (0, 0)) (zK AB.out)) (below_size (zH3 HB AJ AK AQ)))
 replace AC := kK AC hb
 replace AA := kK AA hb
 replace AB := kK AB hb
 replace HB := kB3 HB AJ AK AQ hb
 refine hK.out _ _ (cr12 AC ⟨(blk_cell AA.out 0).trans rfl, (blk_cell AA.out 1).trans rfl, (blk_cell AB.out 0).trans rfl, (blk_cell AB.out 1).trans rfl⟩) (fun hHeld => ?_)
 clear hK K
 refine norm_ (a' := ?_) ?_ ?_
 rotate_left
 {
 show Act.put _ (some 19) _ = _
 simp only [Act.put, zs, zz, zk, i64_w, i32_w]
 rfl
 }
 refine one_ (i := 3) (N := some 14) (bA 13 495) rfl rfl (one_of HT_.out (by kernel_rfl)) (by decide) (fun K hK => ?_)
 refine Kd.R_lit_step k62 _ 62 ?hg (N := 14) ?hd (xs := ([(⟨AH, AI⟩ : S62), (⟨AF, AG⟩ : S62)] : List (S62))) (inner := [.int .i8 AH, .int .i8 AI, .int .i8 AF, .int .i8 AG]) (ok := fun _ => True) (okp := fun _ => True) ?hr ?hp (fun _ hk => hk) trivial (Below.refl _ _) (Nat.le_refl _) (by simp) ?_; (case hd => rfl); (case hg => rfl); (case hr => first | (go_simp; done) | (go_simp; rfl)); (case hp => exact (Reps.c2 (show Kd.M k62 _ _ _ (⟨AH, AI⟩ : S62) [.int .i8 AH, .int .i8 AI] from (k62_mkM _ _ _ (⟨AH, AI⟩ : S62) )) (Reps.c2 (show Kd.M k62 _ _ _ (⟨AF, AG⟩ : S62) [.int .i8 AF, .int .i8 AG] from (k62_mkM _ _ _ (⟨AF, AG⟩ : S62) )) (Reps.none _ _))))
 intro Av CK Al hb Ao Ab
 clear Ao Ab
 (first | rw [← Aj.out] at Al | (simp only [Int.reduceToNat] at Al; rw [← Aj.out] at Al))
 have AE := ak (Kd.R_lower (Kd.R_newB (Kd.R_newB (Kd.R_new' Al (Kd.R_lt (zR AO.out))) (g := AP) (o := .cells #[.int .i8 AH, .int .i8 AI] 62 (0, 0)) (zK AA.out)) (g := AN) (o := .cells #[.int .i8 AF, .int .i8 AG] 62 (0, 0)) (zK AB.out)) (below_size (zH3 HB AJ AK AQ)))
 replace AO := kE AO Al hb
 replace AC := kK AC hb
 replace AA := kK AA hb
 replace AB := kK AB hb
 replace HB := kB3 HB AJ AK AQ hb
 obtain ⟨BI, BN, BG⟩ := Kd.R_slice AE.out
 (first | subst BG | (injection BG with f1_ f2_ f3_; have Aw := f1_.symm; have Au := f3_.symm; clear f1_ f2_ f3_; subst Aw; subst Au))
 refine hK.out _ _ (cr12 AC ⟨(blk_cell AA.out 0).trans rfl, (blk_cell AA.out 1).trans rfl, (blk_cell AB.out 0).trans rfl, (blk_cell AB.out 1).trans rfl⟩) (fun hHeld => ?_)
 clear hK K
 refine norm_ (a' := ?_) ?_ ?_
 rotate_left
 {
 show Act.put _ (some 14) _ = _
 simp only [Act.put, zs, zz, zk, i64_w, i32_w]
 rfl
 }
 refine one_ (i := 4) (N := some 15) (bA 13 511) rfl rfl (one_of HT_.out (by kernel_rfl)) (by decide) (fun K hK => ?_)
 refine goes_ Try.func46 (by kernel_rfl) rfl #[.agg #[.int .i8 AY, .int .i8 AT, .int .u16 AX, .int .u16 AR, .int .u16 AU, .int .u16 AV, .int .u16 Aa, .int .u16 AZ, .int .u16 AS, .int .u16 AW, .int .u16 AM, .int .u16 AL], .slice BI Ac.length BN] (by rfl) rfl rfl gl_ ?_
 with_reducible refine (impl_cellCode.calls k AY AT AX AR AU AV Aa AZ AS AW AM AL _ _ Ac Ad _ ?side1 ?side2 A4.out).mono ?_
 (case side1 => exact zC (Kd.R_reads' AE.out).2.2)
 (case side2 => exact (Kd.R_reads' AE.out).2.1)
 rintro e CG ⟨rfl, hb⟩
 refine ⟨_, rfl, ?_⟩
 replace AO := kR AO hb
 replace AE := kR AE hb
 replace AC := kK AC hb
 replace AA := kK AA hb
 replace AB := kK AB hb
 replace HB := kB3 HB AJ AK AQ hb
 refine hK.out _ _ (cr12 AC ⟨(blk_cell AA.out 0).trans rfl, (blk_cell AA.out 1).trans rfl, (blk_cell AB.out 0).trans rfl, (blk_cell AB.out 1).trans rfl⟩) (fun hHeld => ?_)
 clear hK K
 refine norm_ (a' := ?_) ?_ ?_
 rotate_left
 {
 show Act.put _ (some 15) _ = _
 simp only [Act.put, zs, zz, zk, i64_w, i32_w]
 rfl
 }
 exact norm_ (by simp only [putAll, Act.put, zs, zz, zk]) (hCont (.slice BI Ac.length BN, Af) _ ⟨hHeld, (Kd.R_mono AE.out (fun _ hk => ⟨hk.1.1.2, ⟨hk.1.2, hk.2⟩⟩)), (Kd.R_mono AO.out (fun _ hk => ⟨hk.2, ⟨hk.1.1.2, hk.1.2⟩⟩)), (zK AC.out), (zK AA.out), (zK AB.out), (zH3 HB AJ AK AQ)⟩)
 }
 }
 rintro ⟨Av, Af⟩ As ⟨hS_, Bi, BT, BX, Bl, BW, Bj⟩
 have Ap : Aside0 (Kd.R k62 62 As w.heap.size (fun k_ => some k_ ≠ (Af : Value).ownBlock ∧ k_ ≠ AP ∧ k_ ≠ AN) Av Ac) := ⟨Bi⟩
 have Ak : Aside0 (Kd.R k62 62 As w.heap.size (fun k_ => some k_ ≠ (Av : Value).ownBlock ∧ k_ ≠ AP ∧ k_ ≠ AN) Af Ay) := ⟨BT⟩
 have An : Aside0 (As.heap[AD]? = some (.cells #[.int .i8 AY, .int .i8 AT, .int .u16 AX, .int .u16 AR, .int .u16 AU, .int .u16 AV, .int .u16 Aa, .int .u16 AZ, .int .u16 AS, .int .u16 AW, .int .u16 AM, .int .u16 AL] 35 (0, 0))) := ⟨BX⟩
 have Aq : Aside0 (As.heap[AP]? = some (.cells #[.int .i8 AH, .int .i8 AI] 62 (0, 0))) := ⟨Bl⟩
 have A7 : Aside0 (As.heap[AN]? = some (.cells #[.int .i8 AF, .int .i8 AG] 62 (0, 0))) := ⟨BW⟩
 have A0 : Aside0 (Below w.heap.size w As) := ⟨Bj⟩
 clear AC AA AB HB Bi BT BX Bl BW Bj
 have AE := Ap
 have AO := Ak
 have AC := An
 have AA := Aq
 have AB := A7
 have HB := A0
 clear Ap Ak An Aq A7 A0
 have hHeld : As.cell? ⟨AD, 0, none⟩ = some (.int .i8 AY) ∧ As.cell? ⟨AD, 1, none⟩ = some (.int .i8 AT) ∧ As.cell? ⟨AD, 2, none⟩ = some (.int .u16 AX) ∧ As.cell? ⟨AD, 3, none⟩ = some (.int .u16 AR) ∧ As.cell? ⟨AD, 4, none⟩ = some (.int .u16 AU) ∧ As.cell? ⟨AD, 5, none⟩ = some (.int .u16 AV) ∧ As.cell? ⟨AD, 6, none⟩ = some (.int .u16 Aa) ∧ As.cell? ⟨AD, 7, none⟩ = some (.int .u16 AZ) ∧ As.cell? ⟨AD, 8, none⟩ = some (.int .u16 AS) ∧ As.cell? ⟨AD, 9, none⟩ = some (.int .u16 AW) ∧ As.cell? ⟨AD, 10, none⟩ = some (.int .u16 AM) ∧ As.cell? ⟨AD, 11, none⟩ = some (.int .u16 AL) ∧ As.cell? ⟨AP, 0, none⟩ = some (.int .i8 AH) ∧ As.cell? ⟨AP, 1, none⟩ = some (.int .i8 AI) ∧ As.cell? ⟨AN, 0, none⟩ = some (.int .i8 AF) ∧ As.cell? ⟨AN, 1, none⟩ = some (.int .i8 AG) := hS_
 obtain ⟨Bv, B0, BZ⟩ := Kd.R_slice AO.out
 (first | subst BZ | (injection BZ with f1_ f2_ f3_; have Aw := f1_.symm; have Au := f3_.symm; clear f1_ f2_ f3_; subst Aw; subst Au))
 refine norm_ (a' := ?_) ?_ ?_
 rotate_left
 · simp only [putAll, Act.put, zs, zz, zk]; rfl
 refine one_ (i := 9) (N := some 20) (bA 13 1023) rfl rfl (one_of HT_.out (by kernel_rfl)) (by decide) (fun K hK => ?_)
 refine goes_ Try.func92 (by kernel_rfl) rfl #[.agg #[.int .i8 AY, .int .i8 AT, .int .u16 AX, .int .u16 AR, .int .u16 AU, .int .u16 AV, .int .u16 Aa, .int .u16 AZ, .int .u16 AS, .int .u16 AW, .int .u16 AM, .int .u16 AL], .slice Bv Ay.length B0] (by rfl) rfl rfl gl_ ?_
 with_reducible refine (impl_stateCode.calls k AY AT AX AR AU AV Aa AZ AS AW AM AL _ _ Ay Ai _ ?side1 ?side2 A5.out).mono ?_
 (case side1 => exact zC (Kd.R_reads' AO.out).2.2)
 (case side2 => exact (Kd.R_reads' AO.out).2.1)
 rintro e CN ⟨rfl, hb⟩
 refine ⟨_, rfl, ?_⟩
 replace AE := kR AE hb
 replace AO := kR AO hb
 replace AC := kK AC hb
 replace AA := kK AA hb
 replace AB := kK AB hb
 replace HB := kB3 HB AJ AK AQ hb
 refine hK.out _ _ (cr12 AC ⟨(blk_cell AA.out 0).trans rfl, (blk_cell AA.out 1).trans rfl, (blk_cell AB.out 0).trans rfl, (blk_cell AB.out 1).trans rfl⟩) (fun hHeld => ?_)
 clear hK K
 refine norm_ (a' := ?_) ?_ ?_
 rotate_left
 {
 show Act.put _ (some 20) _ = _
 simp only [Act.put, zs, zz, zk, i64_w, i32_w]
 rfl
 }
 refine one_ (i := 10) (N := some 21) (bA 13 2047) rfl rfl (one_of HT_.out (by kernel_rfl)) (by decide) (fun K hK => ?_)
 refine Kd.R_lit_step (Kd.int .i64) _ 2 ?hg (N := 21) ?hd (xs := ([Ad, Ai] : List Int)) (inner := [.int .i64 Ad, .int .i64 Ai]) (ok := fun _ => True) (okp := fun _ => True) ?hr ?hp (fun _ hk => hk) trivial (Below.refl _ _) (Nat.le_refl _) (by simp) ?_; (case hd => rfl); (case hg => rfl); (case hr => first | (go_simp; done) | (go_simp; rfl)); (case hp => exact (Reps.one (show Kd.M (Kd.int .i64) _ _ _ Ad [.int .i64 Ad] from rfl) (Reps.one (show Kd.M (Kd.int .i64) _ _ _ Ai [.int .i64 Ai] from rfl) (Reps.none _ _))))
 intro Bq CM BR hb Ao Ab
 clear Ao Ab
 (first | rw [← A9.out] at BR | (simp only [Int.reduceToNat] at BR; rw [← A9.out] at BR))
 have Am := ak (Kd.R_lower BR (below_size (zH3 HB AJ AK AQ)))
 replace AE := kR AE hb
 replace AO := kR AO hb
 replace AC := kK AC hb
 replace AA := kK AA hb
 replace AB := kK AB hb
 replace HB := kB3 HB AJ AK AQ hb
 obtain ⟨Bx, By, Bd⟩ := Kd.R_slice Am.out
 (first | subst Bd | (injection Bd with f1_ f2_ f3_; have Aw := f1_.symm; have Au := f3_.symm; clear f1_ f2_ f3_; subst Aw; subst Au))
 refine hK.out _ _ (cr12 AC ⟨(blk_cell AA.out 0).trans rfl, (blk_cell AA.out 1).trans rfl, (blk_cell AB.out 0).trans rfl, (blk_cell AB.out 1).trans rfl⟩) (fun hHeld => ?_)
 clear hK K
 refine norm_ (a' := ?_) ?_ ?_
 rotate_left
 {
 show Act.put _ (some 21) _ = _
 simp only [Act.put, zs, zz, zk, i64_w, i32_w]
 rfl
 }
 refine one_ (i := 11) (N := some 22) (bA 13 4095) rfl rfl (one_of HT_.out (by kernel_rfl)) (by decide) (fun K hK => ?_)
 refine goes_ Try.func91 (by kernel_rfl) rfl #[.slice Bx BL.length By] (by rfl) rfl rfl gl_ ?_
 with_reducible refine (impl_firstOf.calls k _ _ BL Ah _ ?side1 ?side2 A6.out).mono ?_
 (case side1 => exact zC (Kd.R_reads' Am.out).2.2)
 (case side2 => exact (Kd.R_reads' Am.out).2.1)
 rintro e w' ⟨rfl, ⟨nd, rfl⟩⟩
 refine ⟨_, rfl, ?_⟩
 refine hK.out _ _ (cr12 AC ⟨(blk_cell AA.out 0).trans rfl, (blk_cell AA.out 1).trans rfl, (blk_cell AB.out 0).trans rfl, (blk_cell AB.out 1).trans rfl⟩) (fun hHeld => ?_)
 clear hK K
 refine norm_ (a' := ?_) ?_ ?_
 rotate_left
 {
 show Act.put _ (some 22) _ = _
 simp only [Act.put, zs, zz, zk, i64_w, i32_w]
 rfl
 }
 refine pU 12 8 (bA 13 8191) HT_ ?_
 refine done_ (done_of HT_.out (by kernel_rfl)) ?_
 go_wp2
 have hF : ((Go.Proofs.Ytooidjdgfoioiaa.H.bfsFrom (impl_StepsBetween.bes k AY AT AX AR AU AV Aa AZ AS AW AM AL) k (AH, AI)).bind fun R => (if Go.Proofs.Ytooidjdgfoioiaa.H.inG (AF, AG) = true then some (match R (AF, AG) with | some d => ((d, 0) : Int × Int) | none => (0, 6)) else none)) = some (r1, r2) := HF.out
 obtain ⟨RR, hRR, hF⟩ := Option.bind_eq_some_iff.mp hF
 by_cases cg : Go.Proofs.Ytooidjdgfoioiaa.H.inG (AF, AG) = true
 {
 rw [if_pos cg] at hF
 have Bp := ak (Option.some.inj hF)
 clear hF HF hHeld
 have Br := below_drew1 (pw_below_drewN HB.out nd)
 refine start_ (n := 10) (S := fun w' => w'.heap[AD]? = some (.cells #[.int .i8 AY, .int .i8 AT, .int .u16 AX, .int .u16 AR, .int .u16 AU, .int .u16 AV, .int .u16 Aa, .int .u16 AZ, .int .u16 AS, .int .u16 AW, .int .u16 AM, .int .u16 AL] 35 (0, 0)) ∧ w'.heap[AP]? = some (.cells #[.int .i8 AH, .int .i8 AI] 62 (0, 0)) ∧ w'.heap[AN]? = some (.cells #[.int .i8 AF, .int .i8 AG] 62 (0, 0))) (ds := []) (bA 10 0) (by kernel_rfl) rfl rfl ⟨AC.out, AA.out, AB.out⟩ (fun Ag => ?_)
 generalize (CM.drewN nd).drew = W4 at Br Ag ⊢
 refine take_ (i := 0) (N := some 27) (v := ?_) (a' := ?_) (bA 10 1) rfl rfl (by kernel_rfl) (fun _ _ _ h => h) (Or.inl ⟨by rfl, ?_⟩) Ag ?_ ?_
 rotate_left
 {
 rintro w' ⟨s0, s1, s2⟩; have z_gb196_0 : w'.cell? ⟨AD, 0, none⟩ = some (.int .i8 AY) := (blk_cell s0 0).trans rfl; have z_gb196_1 : w'.cell? ⟨AD, 1, none⟩ = some (.int .i8 AT) := (blk_cell s0 1).trans rfl; have z_gb196_2 : w'.cell? ⟨AD, 2, none⟩ = some (.int .u16 AX) := (blk_cell s0 2).trans rfl; have z_gb196_3 : w'.cell? ⟨AD, 3, none⟩ = some (.int .u16 AR) := (blk_cell s0 3).trans rfl; have z_gb196_4 : w'.cell? ⟨AD, 4, none⟩ = some (.int .u16 AU) := (blk_cell s0 4).trans rfl; have z_gb196_5 : w'.cell? ⟨AD, 5, none⟩ = some (.int .u16 AV) := (blk_cell s0 5).trans rfl; have z_gb196_6 : w'.cell? ⟨AD, 6, none⟩ = some (.int .u16 Aa) := (blk_cell s0 6).trans rfl; have z_gb196_7 : w'.cell? ⟨AD, 7, none⟩ = some (.int .u16 AZ) := (blk_cell s0 7).trans rfl; have z_gb196_8 : w'.cell? ⟨AD, 8, none⟩ = some (.int .u16 AS) := (blk_cell s0 8).trans rfl; have z_gb196_9 : w'.cell? ⟨AD, 9, none⟩ = some (.int .u16 AW) := (blk_cell s0 9).trans rfl; have z_gb196_10 : w'.cell? ⟨AD, 10, none⟩ = some (.int .u16 AM) := (blk_cell s0 10).trans rfl; have z_gb196_11 : w'.cell? ⟨AD, 11, none⟩ = some (.int .u16 AL) := (blk_cell s0 11).trans rfl
 go_simp
 with_reducible rfl
 }
 rotate_left
 · simp only [Act.put, zs, zz, zk, i64_w, i32_w]; rfl
 refine take_ (i := 1) (N := some 28) (v := ?_) (a' := ?_) (bA 10 3) rfl rfl (by kernel_rfl) (fun _ _ _ h => h) (Or.inl ⟨by rfl, ?_⟩) Ag ?_ ?_
 rotate_left
 {
 rintro w' ⟨s0, s1, s2⟩; have z_gb197_0 : w'.cell? ⟨AP, 0, none⟩ = some (.int .i8 AH) := (blk_cell s1 0).trans rfl; have z_gb197_1 : w'.cell? ⟨AP, 1, none⟩ = some (.int .i8 AI) := (blk_cell s1 1).trans rfl
 go_simp
 with_reducible rfl
 }
 rotate_left
 · simp only [Act.put, zs, zz, zk, i64_w, i32_w]; rfl
 refine take_ (i := 3) (N := some 30) (v := ?_) (a' := ?_) (bA 10 11) rfl rfl (by kernel_rfl) (fun _ _ _ h => h) (Or.inl ⟨by rfl, ?_⟩) Ag ?_ ?_
 rotate_left
 {
 rintro w' ⟨s0, s1, s2⟩; have z_gb198_0 : w'.cell? ⟨AN, 0, none⟩ = some (.int .i8 AF) := (blk_cell s2 0).trans rfl; have z_gb198_1 : w'.cell? ⟨AN, 1, none⟩ = some (.int .i8 AG) := (blk_cell s2 1).trans rfl
 go_simp
 with_reducible rfl
 }
 rotate_left
 · simp only [Act.put, zs, zz, zk, i64_w, i32_w]; rfl
 refine one_ (i := 2) (N := some 29) (bA 10 15) rfl rfl (by kernel_rfl) (by decide) (fun K hK => ?_)
 refine goes_ Try.func93 (by kernel_rfl) rfl #[.agg #[.int .i8 AY, .int .i8 AT, .int .u16 AX, .int .u16 AR, .int .u16 AU, .int .u16 AV, .int .u16 Aa, .int .u16 AZ, .int .u16 AS, .int .u16 AW, .int .u16 AM, .int .u16 AL], .agg #[.int .i8 AH, .int .i8 AI]] (by rfl) rfl rfl (by (try simp only [List.map_toArray, List.map_cons, List.map_nil]); first | done | rfl) ?_
 refine (impl_StepsBetween.steps_ k AY AT AX AR AU AV Aa AZ AS AW AM AL (AH, AI) RR hRR W4).mono ?_
 rintro e W5 ⟨bm, rfl, ⟨nm, Dm, hOm, hDm⟩, hb⟩
 refine ⟨_, rfl, ?_⟩
 have B9 := Br.trans (hb.mono Br.size)
 have A8 : W5.heap[AD]? = some (.cells #[.int .i8 AY, .int .i8 AT, .int .u16 AX, .int .u16 AR, .int .u16 AU, .int .u16 AV, .int .u16 Aa, .int .u16 AZ, .int .u16 AS, .int .u16 AW, .int .u16 AM, .int .u16 AL] 35 (0, 0)) ∧ W5.heap[AP]? = some (.cells #[.int .i8 AH, .int .i8 AI] 62 (0, 0)) ∧ W5.heap[AN]? = some (.cells #[.int .i8 AF, .int .i8 AG] 62 (0, 0)) := ⟨blk_below Ag.1 hb, blk_below Ag.2.1 hb, blk_below Ag.2.2 hb⟩
 refine hK.out _ _ A8 (fun _ => ?_)
 clear hK K
 refine norm_ (a' := ?_) ?_ ?_
 rotate_left
 {
 show Act.put _ (some 29) _ = _
 simp only [Act.put, zs, zz, zk, i64_w, i32_w]
 rfl
 }
 have hlk := (Go.Proofs.Ytooidjdgfoioiaa.H.far_look hOm hDm cg).1
 dsimp only at hlk
 refine one_ (i := 4) (N := some 31) (bA 10 31) rfl rfl (by kernel_rfl) (by decide) (fun K hK => ?_)
 refine event_step (by rfl) (v := .tuple #[.int .i64 ((RR (AF, AG)).getD 0), .bool (RR (AF, AG)).isSome]) (w1 := W5) (by first | (go_simp; done) | (go_simp; rfl)) ?_
 refine hK.out _ _ A8 (fun _ => ?_)
 clear hK K
 refine norm_ (a' := ?_) ?_ ?_
 rotate_left
 {
 show Act.put _ (some 31) _ = _
 simp only [Act.put, zs, zz, zk, i64_w, i32_w]
 rfl
 }
 refine pure_ (i := 5) (N := some 26) (v := ?_) (a' := ?_) (bA 10 63) rfl rfl (by kernel_rfl) (fun _ _ _ h => h) (Or.inl ⟨by rfl, ?_⟩) ?_ ?_
 rotate_left
 {
 intro w'
 go_simp
 with_reducible rfl
 }
 rotate_left
 · simp only [Act.put, zs, zz, zk, i64_w, i32_w]; rfl
 refine pure_ (i := 6) (N := some 32) (v := ?_) (a' := ?_) (bA 10 127) rfl rfl (by kernel_rfl) (fun _ _ _ h => h) (Or.inl ⟨by rfl, ?_⟩) ?_ ?_
 rotate_left
 {
 intro w'
 go_simp
 with_reducible rfl
 }
 rotate_left
 · simp only [Act.put, zs, zz, zk, i64_w, i32_w]; rfl
 refine pure_ (i := 7) (N := some 33) (v := ?_) (a' := ?_) (bA 10 255) rfl rfl (by kernel_rfl) (fun _ _ _ h => h) (Or.inl ⟨by rfl, ?_⟩) ?_ ?_
 rotate_left
 {
 intro w'
 go_simp
 with_reducible rfl
 }
 rotate_left
 · simp only [Act.put, zs, zz, zk, i64_w, i32_w]; rfl
 refine pure_ (i := 8) (N := some 9) (v := ?_) (a' := ?_) (bA 10 511) rfl rfl (by kernel_rfl) (fun _ _ _ h => h) (Or.inl ⟨by rfl, ?_⟩) ?_ ?_
 rotate_left
 {
 intro w'
 go_simp
 with_reducible rfl
 }
 rotate_left
 · simp only [Act.put, zs, zz, zk, i64_w, i32_w]; rfl
 refine pure_ (i := 9) (N := some 10) (v := ?_) (a' := ?_) (bA 10 1023) rfl rfl (by kernel_rfl) (fun _ _ _ h => h) (Or.inl ⟨by rfl, ?_⟩) ?_ ?_
 rotate_left
 {
 intro w'
 go_simp
 with_reducible rfl
 }
 rotate_left
 · simp only [Act.put, zs, zz, zk, i64_w, i32_w]; rfl
 refine done_ (by kernel_rfl) ?_
 clear hlk hOm hDm A8 Ag hb
 cases hq : RR (AF, AG) with
 | some d => (
 have hz := Bp.out
 rw [hq] at hz
 obtain ⟨rfl, rfl⟩ := Prod.mk.inj hz
 clear hz Bp
 go_wp2
 go_ret2
 exact ⟨rfl, B9⟩
 )
 | none => (
 have hz := Bp.out
 rw [hq] at hz
 obtain ⟨rfl, rfl⟩ := Prod.mk.inj hz
 clear hz Bp
 go_wp2
 go_ret2
 exact ⟨rfl, B9⟩
 )
 }
 · rw [if_neg cg] at hF; cases hF
 }
 {
 rw [if_neg c7] at H
 have B3 : (Ah == 0) = false := beq_eq_false_iff_ne.mpr c7
 have Bz : (Ah != 0) = true := bne_iff_ne.mpr c7
 simp only [Option.some.injEq, Prod.mk.injEq] at H
 obtain ⟨rfl, rfl⟩ := H
 go_enter Try.func79, Try.ntmps79
 try go_wp2_with (first | ((with_reducible refine gate_dst (N := 3) rfl ?_); refine box_event ?hg (N := 3) ?hd (cs := #[.int .i8 AY, .int .i8 AT, .int .u16 AX, .int .u16 AR, .int .u16 AU, .int .u16 AV, .int .u16 Aa, .int .u16 AZ, .int .u16 AS, .int .u16 AW, .int .u16 AM, .int .u16 AL]) (t := 35) ?hr ?_; (case hd => rfl); (case hg => rfl); (case hr => first | (go_simp; done) | (go_simp; rfl)); intro AD hg CP hbox hb; have Ap := ak (below_step (zB HB.out) hb); have Ak := ak (hbox); have An := gS HB hg; have Aq := gS HB hg; clear HB; have HB := Ap; have AC := Ak; have Ba := An; have AJ := Aq; clear Ap Ak An Aq; clear hb hbox hg) | ((with_reducible refine gate_dst (N := 4) rfl ?_); refine box_event ?hg (N := 4) ?hd (cs := #[.int .i8 AH, .int .i8 AI]) (t := 62) ?hr ?_; (case hd => rfl); (case hg => rfl); (case hr => first | (go_simp; done) | (go_simp; rfl)); intro AP hg CV hbox hb; have Ap := ak (blk_below (g := AD) (o := .cells #[.int .i8 AY, .int .i8 AT, .int .u16 AX, .int .u16 AR, .int .u16 AU, .int .u16 AV, .int .u16 Aa, .int .u16 AZ, .int .u16 AS, .int .u16 AW, .int .u16 AM, .int .u16 AL] 35 (0, 0)) (zK AC.out) hb); have Ak := ak (below_step (zBG HB.out AJ.out) hb); have An := ak (hbox); have Aq := gS1 HB AJ hg; have A7 := gS1 HB AJ hg; have A0 := nL AC hg; have BP := nG AC hg; clear AC HB; have AC := Ap; have HB := Ak; have AA := An; have Bm := Aq; have AK := A7; have BF := A0; have BC := BP; clear Ap Ak An Aq A7 A0 BP; clear hb hbox hg) | ((with_reducible refine gate_dst (N := 5) rfl ?_); refine box_event ?hg (N := 5) ?hd (cs := #[.int .i8 AF, .int .i8 AG]) (t := 62) ?hr ?_; (case hd => rfl); (case hg => rfl); (case hr => first | (go_simp; done) | (go_simp; rfl)); intro AN hg CE hbox hb; have Ap := ak (blk_below (g := AD) (o := .cells #[.int .i8 AY, .int .i8 AT, .int .u16 AX, .int .u16 AR, .int .u16 AU, .int .u16 AV, .int .u16 Aa, .int .u16 AZ, .int .u16 AS, .int .u16 AW, .int .u16 AM, .int .u16 AL] 35 (0, 0)) (zK AC.out) hb); have Ak := ak (blk_below (g := AP) (o := .cells #[.int .i8 AH, .int .i8 AI] 62 (0, 0)) (zK AA.out) hb); have An := ak (below_step (zH2 HB AJ AK) hb); have Aq := ak (hbox); have A7 := ak ((by rw [hg]; exact (below_size (zH2 HB AJ AK)) : w.heap.size ≤ AN)); have A0 := ak ((by rw [hg]; exact (below_size (zH2 HB AJ AK)) : w.heap.size ≤ AN)); have BP := nL AC hg; have Bb := nG AC hg; have Be := nL AA hg; have Bg := nG AA hg; clear AC AA HB; have AC := Ap; have AA := Ak; have HB := An; have AB := Aq; have Bc := A7; have AQ := A0; have BE := BP; have BA := Bb; have BD := Be; have BB := Bg; clear Ap Ak An Aq A7 A0 BP Bb Be Bg; clear hb hbox hg))
 replace AC := ak (blk_drew AC.out)
 replace AA := ak (blk_drew AA.out)
 replace AB := ak (blk_drew AB.out)
 replace HB := ak (below_drew1 HB.out)
 refine start_ (n := 13) (S := fun w' => w'.cell? ⟨AD, 0, none⟩ = some (.int .i8 AY) ∧ w'.cell? ⟨AD, 1, none⟩ = some (.int .i8 AT) ∧ w'.cell? ⟨AD, 2, none⟩ = some (.int .u16 AX) ∧ w'.cell? ⟨AD, 3, none⟩ = some (.int .u16 AR) ∧ w'.cell? ⟨AD, 4, none⟩ = some (.int .u16 AU) ∧ w'.cell? ⟨AD, 5, none⟩ = some (.int .u16 AV) ∧ w'.cell? ⟨AD, 6, none⟩ = some (.int .u16 Aa) ∧ w'.cell? ⟨AD, 7, none⟩ = some (.int .u16 AZ) ∧ w'.cell? ⟨AD, 8, none⟩ = some (.int .u16 AS) ∧ w'.cell? ⟨AD, 9, none⟩ = some (.int .u16 AW) ∧ w'.cell? ⟨AD, 10, none⟩ = some (.int .u16 AM) ∧ w'.cell? ⟨AD, 11, none⟩ = some (.int .u16 AL) ∧ w'.cell? ⟨AP, 0, none⟩ = some (.int .i8 AH) ∧ w'.cell? ⟨AP, 1, none⟩ = some (.int .i8 AI) ∧ w'.cell? ⟨AN, 0, none⟩ = some (.int .i8 AF) ∧ w'.cell? ⟨AN, 1, none⟩ = some (.int .i8 AG)) (ds := []) (bA 13 0) (by kernel_rfl) rfl rfl (cr12 AC ⟨(blk_cell AA.out 0).trans rfl, (blk_cell AA.out 1).trans rfl, (blk_cell AB.out 0).trans rfl, (blk_cell AB.out 1).trans rfl⟩) (fun hHeld => ?_); refine with_tabW impl_StepsBetween.tab1 impl_StepsBetween.bits1 (fun HT_ HW_ => ?_)
 generalize CE.drew = CX at AC AA AB HB hHeld ⊢
 refine tK 0 11 (bA 13 1) HT_ HW_ hHeld ?_
 refine tK 1 12 (bA 13 3) HT_ HW_ hHeld ?_
 refine tK 2 13 (bA 13 7) HT_ HW_ hHeld ?_
 refine tK 5 16 (bA 13 39) HT_ HW_ hHeld ?_
 refine tK 6 17 (bA 13 103) HT_ HW_ hHeld ?_
 refine tK 7 18 (bA 13 231) HT_ HW_ hHeld ?_
 refine join_ (σ := Value × Value) 4 #[true, true, true, true, true, true, true, true, true, false, false, false, false] (fun s_ => [(14, s_.1), (15, .int .i64 Ad), (19, s_.2)]) (fun s_ w' => (w'.cell? ⟨AD, 0, none⟩ = some (.int .i8 AY) ∧ w'.cell? ⟨AD, 1, none⟩ = some (.int .i8 AT) ∧ w'.cell? ⟨AD, 2, none⟩ = some (.int .u16 AX) ∧ w'.cell? ⟨AD, 3, none⟩ = some (.int .u16 AR) ∧ w'.cell? ⟨AD, 4, none⟩ = some (.int .u16 AU) ∧ w'.cell? ⟨AD, 5, none⟩ = some (.int .u16 AV) ∧ w'.cell? ⟨AD, 6, none⟩ = some (.int .u16 Aa) ∧ w'.cell? ⟨AD, 7, none⟩ = some (.int .u16 AZ) ∧ w'.cell? ⟨AD, 8, none⟩ = some (.int .u16 AS) ∧ w'.cell? ⟨AD, 9, none⟩ = some (.int .u16 AW) ∧ w'.cell? ⟨AD, 10, none⟩ = some (.int .u16 AM) ∧ w'.cell? ⟨AD, 11, none⟩ = some (.int .u16 AL) ∧ w'.cell? ⟨AP, 0, none⟩ = some (.int .i8 AH) ∧ w'.cell? ⟨AP, 1, none⟩ = some (.int .i8 AI) ∧ w'.cell? ⟨AN, 0, none⟩ = some (.int .i8 AF) ∧ w'.cell? ⟨AN, 1, none⟩ = some (.int .i8 AG)) ∧ (Kd.R k62 62 w' w.heap.size (fun k_ => some k_ ≠ (s_.2 : Value).ownBlock ∧ k_ ≠ AP ∧ k_ ≠ AN) s_.1 Ac) ∧ (Kd.R k62 62 w' w.heap.size (fun k_ => some k_ ≠ (s_.1 : Value).ownBlock ∧ k_ ≠ AP ∧ k_ ≠ AN) s_.2 Ay) ∧ (w'.heap[AD]? = some (.cells #[.int .i8 AY, .int .i8 AT, .int .u16 AX, .int .u16 AR, .int .u16 AU, .int .u16 AV, .int .u16 Aa, .int .u16 AZ, .int .u16 AS, .int .u16 AW, .int .u16 AM, .int .u16 AL] 35 (0, 0))) ∧ (w'.heap[AP]? = some (.cells #[.int .i8 AH, .int .i8 AI] 62 (0, 0))) ∧ (w'.heap[AN]? = some (.cells #[.int .i8 AF, .int .i8 AG] 62 (0, 0))) ∧ (Below w.heap.size w w')) ?_ ?_
 rotate_left
 {
 intro hCont
 refine two_ (i := 3) (j := 8) (Ni := some 14) (Nj := some 19) #[true, true, true, true, false, true, true, true, false, false, false, false, false] #[true, true, true, false, false, true, true, true, true, false, false, false, false] rfl rfl rfl rfl (two_of HT_.out (by kernel_rfl)) (by decide) (by decide) (fun K hK => ?_) (fun K hK => ?_)
 {
 skip
 refine Kd.R_lit_step k62 _ 62 ?hg (N := 14) ?hd (xs := ([(⟨AH, AI⟩ : S62), (⟨AF, AG⟩ : S62)] : List (S62))) (inner := [.int .i8 AH, .int .i8 AI, .int .i8 AF, .int .i8 AG]) (ok := fun _ => True) (okp := fun _ => True) ?hr ?hp (fun _ hk => hk) trivial (Below.refl _ _) (Nat.le_refl _) (by simp) ?_; (case hd => rfl); (case hg => rfl); (case hr => first | (go_simp; done) | (go_simp; rfl)); (case hp => exact (Reps.c2 (show Kd.M k62 _ _ _ (⟨AH, AI⟩ : S62) [.int .i8 AH, .int .i8 AI] from (k62_mkM _ _ _ (⟨AH, AI⟩ : S62) )) (Reps.c2 (show Kd.M k62 _ _ _ (⟨AF, AG⟩ : S62) [.int .i8 AF, .int .i8 AG] from (k62_mkM _ _ _ (⟨AF, AG⟩ : S62) )) (Reps.none _ _))))
 intro Av CL Ax hb Ao Ab
 clear Ao Ab
 (first | rw [← Aj.out] at Ax | (simp only [Int.reduceToNat] at Ax; rw [← Aj.out] at Ax))
 have AE := ak (Kd.R_lower (Kd.R_newB (Kd.R_newB Ax (g := AP) (o := .cells #[.int .i8 AH, .int .i8 AI] 62 (0, 0)) (zK AA.out)) (g := AN) (o := .cells #[.int .i8 AF, .int .i8 AG] 62 (0, 0)) (zK AB.out)) (below_size (zH3 HB AJ AK AQ)))
 replace AC := kK AC hb
 replace AA := kK AA hb
 replace AB := kK AB hb
 replace HB := kB3 HB AJ AK AQ hb
 obtain ⟨Bk, Bh, Bn⟩ := Kd.R_slice AE.out
 (first | subst Bn | (injection Bn with f1_ f2_ f3_; have Aw := f1_.symm; have Au := f3_.symm; clear f1_ f2_ f3_; subst Aw; subst Au))
 refine hK.out _ _ (cr12 AC ⟨(blk_cell AA.out 0).trans rfl, (blk_cell AA.out 1).trans rfl, (blk_cell AB.out 0).trans rfl, (blk_cell AB.out 1).trans rfl⟩) (fun hHeld => ?_)
 clear hK K
 refine norm_ (a' := ?_) ?_ ?_
 rotate_left
 {
 show Act.put _ (some 14) _ = _
 simp only [Act.put, zs, zz, zk, i64_w, i32_w]
 rfl
 }
 refine two_ (i := 4) (j := 8) (Ni := some 15) (Nj := some 19) #[true, true, true, true, true, true, true, true, false, false, false, false, false] #[true, true, true, true, false, true, true, true, true, false, false, false, false] rfl rfl rfl rfl (two_of HT_.out (by kernel_rfl)) (by decide) (by decide) (fun K hK => ?_) (fun K hK => ?_)
 {
 skip
 refine goes_ Try.func46 (by kernel_rfl) rfl #[.agg #[.int .i8 AY, .int .i8 AT, .int .u16 AX, .int .u16 AR, .int .u16 AU, .int .u16 AV, .int .u16 Aa, .int .u16 AZ, .int .u16 AS, .int .u16 AW, .int .u16 AM, .int .u16 AL], .slice Bk Ac.length Bh] (by rfl) rfl rfl gl_ ?_
 with_reducible refine (impl_cellCode.calls k AY AT AX AR AU AV Aa AZ AS AW AM AL _ _ Ac Ad _ ?side1 ?side2 A4.out).mono ?_
 (case side1 => exact zC (Kd.R_reads' AE.out).2.2)
 (case side2 => exact (Kd.R_reads' AE.out).2.1)
 rintro e CR ⟨rfl, hb⟩
 refine ⟨_, rfl, ?_⟩
 replace AE := kR AE hb
 replace AC := kK AC hb
 replace AA := kK AA hb
 replace AB := kK AB hb
 replace HB := kB3 HB AJ AK AQ hb
 refine hK.out _ _ (cr12 AC ⟨(blk_cell AA.out 0).trans rfl, (blk_cell AA.out 1).trans rfl, (blk_cell AB.out 0).trans rfl, (blk_cell AB.out 1).trans rfl⟩) (fun hHeld => ?_)
 clear hK K
 refine norm_ (a' := ?_) ?_ ?_
 rotate_left
 {
 show Act.put _ (some 15) _ = _
 simp only [Act.put, zs, zz, zk, i64_w, i32_w]
 rfl
 }
 refine one_ (i := 8) (N := some 19) (bA 13 511) rfl rfl (one_of HT_.out (by kernel_rfl)) (by decide) (fun K hK => ?_)
 refine Kd.R_lit_step k62 _ 62 ?hg (N := 19) ?hd (xs := ([(⟨AH, AI⟩ : S62), (⟨AF, AG⟩ : S62)] : List (S62))) (inner := [.int .i8 AH, .int .i8 AI, .int .i8 AF, .int .i8 AG]) (ok := fun _ => True) (okp := fun _ => True) ?hr ?hp (fun _ hk => hk) trivial (Below.refl _ _) (Nat.le_refl _) (by simp) ?_; (case hd => rfl); (case hg => rfl); (case hr => first | (go_simp; done) | (go_simp; rfl)); (case hp => exact (Reps.c2 (show Kd.M k62 _ _ _ (⟨AH, AI⟩ : S62) [.int .i8 AH, .int .i8 AI] from (k62_mkM _ _ _ (⟨AH, AI⟩ : S62) )) (Reps.c2 (show Kd.M k62 _ _ _ (⟨AF, AG⟩ : S62) [.int .i8 AF, .int .i8 AG] from (k62_mkM _ _ _ (⟨AF, AG⟩ : S62) )) (Reps.none _ _))))
 intro Af CW BQ hb Ao Ab
 clear Ao Ab
 (first | rw [← Ae.out] at BQ | (simp only [Int.reduceToNat] at BQ; rw [← Ae.out] at BQ))
 have AO := ak (Kd.R_lower (Kd.R_newB (Kd.R_newB (Kd.R_new' BQ (Kd.R_lt (zR AE.out))) (g := AP) (o := .cells #[.int .i8 AH, .int .i8 AI] 62 (0, 0)) (zK AA.out)) (g := AN) (o := .cells #[.int .i8 AF, .int .i8 AG] 62 (0, 0)) (zK AB.out)) (below_size (zH3 HB AJ AK AQ)))
 replace AE := kE AE BQ hb
 replace AC := kK AC hb
 replace AA := kK AA hb
 replace AB := kK AB hb
 replace HB := kB3 HB AJ AK AQ hb
 refine hK.out _ _ (cr12 AC ⟨(blk_cell AA.out 0).trans rfl, (blk_cell AA.out 1).trans rfl, (blk_cell AB.out 0).trans rfl, (blk_cell AB.out 1).trans rfl⟩) (fun hHeld => ?_)
 clear hK K
 refine norm_ (a' := ?_) ?_ ?_
 rotate_left
 {
 show Act.put _ (some 19) _ = _
 simp only [Act.put, zs, zz, zk, i64_w, i32_w]
 rfl
 }
 exact norm_ (by simp only [putAll, Act.put, zs, zz, zk]) (hCont (.slice Bk Ac.length Bh, Af) _ ⟨hHeld, (Kd.R_mono AE.out (fun _ hk => ⟨hk.2, ⟨hk.1.1.2, hk.1.2⟩⟩)), (Kd.R_mono AO.out (fun _ hk => ⟨hk.1.1.2, ⟨hk.1.2, hk.2⟩⟩)), (zK AC.out), (zK AA.out), (zK AB.out), (zH3 HB AJ AK AQ)⟩)
 }
 {
 skip
 refine Kd.R_lit_step k62 _ 62 ?hg (N := 19) ?hd (xs := ([(⟨AH, AI⟩ : S62), (⟨AF, AG⟩ : S62)] : List (S62))) (inner := [.int .i8 AH, .int .i8 AI, .int .i8 AF, .int .i8 AG]) (ok := fun _ => True) (okp := fun _ => True) ?hr ?hp (fun _ hk => hk) trivial (Below.refl _ _) (Nat.le_refl _) (by simp) ?_; (case hd => rfl); (case hg => rfl); (case hr => first | (go_simp; done) | (go_simp; rfl)); (case hp => exact (Reps.c2 (show Kd.M k62 _ _ _ (⟨AH, AI⟩ : S62) [.int .i8 AH, .int .i8 AI] from (k62_mkM _ _ _ (⟨AH, AI⟩ : S62) )) (Reps.c2 (show Kd.M k62 _ _ _ (⟨AF, AG⟩ : S62) [.int .i8 AF, .int .i8 AG] from (k62_mkM _ _ _ (⟨AF, AG⟩ : S62) )) (Reps.none _ _))))
 intro Af CD Ar hb Ao Ab
 clear Ao Ab
 (first | rw [← Ae.out] at Ar | (simp only [Int.reduceToNat] at Ar; rw [← Ae.out] at Ar))
 have AO := ak (Kd.R_lower (Kd.R_newB (Kd.R_newB (Kd.R_new' Ar (Kd.R_lt (zR AE.out))) (g := AP) (o := .cells #[.int .i8 AH, .int .i8 AI] 62 (0, 0)) (zK AA.out)) (g := AN) (o := .cells #[.int .i8 AF, .int .i8 AG] 62 (0, 0)) (zK AB.out)) (below_size (zH3 HB AJ AK AQ)))
 replace AE := kE AE Ar hb
 replace AC := kK AC hb
 replace AA := kK AA hb
 replace AB := kK AB hb
 replace HB := kB3 HB AJ AK AQ hb
 obtain ⟨BO, BM, BJ⟩ := Kd.R_slice AE.out
 (first | subst BJ | (injection BJ with f1_ f2_ f3_; have Aw := f1_.symm; have Au := f3_.symm; clear f1_ f2_ f3_; subst Aw; subst Au))
 refine hK.out _ _ (cr12 AC ⟨(blk_cell AA.out 0).trans rfl, (blk_cell AA.out 1).trans rfl, (blk_cell AB.out 0).trans rfl, (blk_cell AB.out 1).trans rfl⟩) (fun hHeld => ?_)
 clear hK K
 refine norm_ (a' := ?_) ?_ ?_
 rotate_left
 {
 show Act.put _ (some 19) _ = _
 simp only [Act.put, zs, zz, zk, i64_w, i32_w]
 rfl
 }
 refine one_ (i := 4) (N := some 15) (bA 13 511) rfl rfl (one_of HT_.out (by kernel_rfl)) (by decide) (fun K hK => ?_)
 refine goes_ Try.func46 (by kernel_rfl) rfl #[.agg #[.int .i8 AY, .int .i8 AT, .int .u16 AX, .int .u16 AR, .int .u16 AU, .int .u16 AV, .int .u16 Aa, .int .u16 AZ, .int .u16 AS, .int .u16 AW, .int .u16 AM, .int .u16 AL], .slice BO Ac.length BM] (by rfl) rfl rfl gl_ ?_
 with_reducible refine (impl_cellCode.calls k AY AT AX AR AU AV Aa AZ AS AW AM AL _ _ Ac Ad _ ?side1 ?side2 A4.out).mono ?_
 (case side1 => exact zC (Kd.R_reads' AE.out).2.2)
 (case side2 => exact (Kd.R_reads' AE.out).2.1)
 rintro e CI ⟨rfl, hb⟩
 refine ⟨_, rfl, ?_⟩
 replace AE := kR AE hb
 replace AO := kR AO hb
 replace AC := kK AC hb
 replace AA := kK AA hb
 replace AB := kK AB hb
 replace HB := kB3 HB AJ AK AQ hb
 refine hK.out _ _ (cr12 AC ⟨(blk_cell AA.out 0).trans rfl, (blk_cell AA.out 1).trans rfl, (blk_cell AB.out 0).trans rfl, (blk_cell AB.out 1).trans rfl⟩) (fun hHeld => ?_)
 clear hK K
 refine norm_ (a' := ?_) ?_ ?_
 rotate_left
 {
 show Act.put _ (some 15) _ = _
 simp only [Act.put, zs, zz, zk, i64_w, i32_w]
 rfl
 }
 exact norm_ (by simp only [putAll, Act.put, zs, zz, zk]) (hCont (.slice BO Ac.length BM, Af) _ ⟨hHeld, (Kd.R_mono AE.out (fun _ hk => ⟨hk.2, ⟨hk.1.1.2, hk.1.2⟩⟩)), (Kd.R_mono AO.out (fun _ hk => ⟨hk.1.1.2, ⟨hk.1.2, hk.2⟩⟩)), (zK AC.out), (zK AA.out), (zK AB.out), (zH3 HB AJ AK AQ)⟩)
 }
 }
 {
 skip
 refine Kd.R_lit_step k62 _ 62 ?hg (N := 19) ?hd (xs := ([(⟨AH, AI⟩ : S62), (⟨AF, AG⟩ : S62)] : List (S62))) (inner := [.int .i8 AH, .int .i8 AI, .int .i8 AF, .int .i8 AG]) (ok := fun _ => True) (okp := fun _ => True) ?hr ?hp (fun _ hk => hk) trivial (Below.refl _ _) (Nat.le_refl _) (by simp) ?_; (case hd => rfl); (case hg => rfl); (case hr => first | (go_simp; done) | (go_simp; rfl)); (case hp => exact (Reps.c2 (show Kd.M k62 _ _ _ (⟨AH, AI⟩ : S62) [.int .i8 AH, .int .i8 AI] from (k62_mkM _ _ _ (⟨AH, AI⟩ : S62) )) (Reps.c2 (show Kd.M k62 _ _ _ (⟨AF, AG⟩ : S62) [.int .i8 AF, .int .i8 AG] from (k62_mkM _ _ _ (⟨AF, AG⟩ : S62) )) (Reps.none _ _))))
 intro Af CL Ax hb Ao Ab
 clear Ao Ab
 (first | rw [← Ae.out] at Ax | (simp only [Int.reduceToNat] at Ax; rw [← Ae.out] at Ax))
 have AO := ak (Kd.R_lower (Kd.R_newB (Kd.R_newB Ax (g := AP) (o := .cells #[.int .i8 AH, .int .i8 AI] 62 (0, 0)) (zK AA.out)) (g := AN) (o := .cells #[.int .i8 AF, .int .i8 AG] 62 (0, 0)) (zK AB.out)) (below_size (zH3 HB AJ AK AQ)))
 replace AC := kK AC hb
 replace AA := kK AA hb
 replace AB := kK AB hb
 replace HB := kB3 HB AJ AK AQ hb
 refine hK.out _ _ (cr12 AC ⟨(blk_cell AA.out 0).trans rfl, (blk_cell AA.out 1).trans rfl, (blk_cell AB.out 0).trans rfl, (blk_cell AB.out 1).trans rfl⟩) (fun hHeld => ?_)
 clear hK K
 refine norm_ (a' := ?_) ?_ ?_
 rotate_left
 {
 show Act.put _ (some 19) _ = _
 simp only [Act.put, zs, zz, zk, i64_w, i32_w]
 rfl
 }
 refine one_ (i := 3) (N := some 14) (bA 13 495) rfl rfl (one_of HT_.out (by kernel_rfl)) (by decide) (fun K hK => ?_)
 refine Kd.R_lit_step k62 _ 62 ?hg (N := 14) ?hd (xs := ([(⟨AH, AI⟩ : S62), (⟨AF, AG⟩ : S62)] : List (S62))) (inner := [.int .i8 AH, .int .i8 AI, .int .i8 AF, .int .i8 AG]) (ok := fun _ => True) (okp := fun _ => True) ?hr ?hp (fun _ hk => hk) trivial (Below.refl _ _) (Nat.le_refl _) (by simp) ?_; (case hd => rfl); (case hg => rfl); (case hr => first | (go_simp; done) | (go_simp; rfl)); (case hp => exact (Reps.c2 (show Kd.M k62 _ _ _ (⟨AH, AI⟩ : S62) [.int .i8 AH, .int .i8 AI] from (k62_mkM _ _ _ (⟨AH, AI⟩ : S62) )) (Reps.c2 (show Kd.M k62 _ _ _ (⟨AF, AG⟩ : S62) [.int .i8 AF, .int .i8 AG] from (k62_mkM _ _ _ (⟨AF, AG⟩ : S62) )) (Reps.none _ _))))
 intro Av CD Ar hb Ao Ab
 clear Ao Ab
 (first | rw [← Aj.out] at Ar | (simp only [Int.reduceToNat] at Ar; rw [← Aj.out] at Ar))
 have AE := ak (Kd.R_lower (Kd.R_newB (Kd.R_newB (Kd.R_new' Ar (Kd.R_lt (zR AO.out))) (g := AP) (o := .cells #[.int .i8 AH, .int .i8 AI] 62 (0, 0)) (zK AA.out)) (g := AN) (o := .cells #[.int .i8 AF, .int .i8 AG] 62 (0, 0)) (zK AB.out)) (below_size (zH3 HB AJ AK AQ)))
 replace AO := kE AO Ar hb
 replace AC := kK AC hb
 replace AA := kK AA hb
 replace AB := kK AB hb
 replace HB := kB3 HB AJ AK AQ hb
 obtain ⟨BO, BM, BJ⟩ := Kd.R_slice AE.out
 (first | subst BJ | (injection BJ with f1_ f2_ f3_; have Aw := f1_.symm; have Au := f3_.symm; clear f1_ f2_ f3_; subst Aw; subst Au))
 refine hK.out _ _ (cr12 AC ⟨(blk_cell AA.out 0).trans rfl, (blk_cell AA.out 1).trans rfl, (blk_cell AB.out 0).trans rfl, (blk_cell AB.out 1).trans rfl⟩) (fun hHeld => ?_)
 clear hK K
 refine norm_ (a' := ?_) ?_ ?_
 rotate_left
 {
 show Act.put _ (some 14) _ = _
 simp only [Act.put, zs, zz, zk, i64_w, i32_w]
 rfl
 }
 refine one_ (i := 4) (N := some 15) (bA 13 511) rfl rfl (one_of HT_.out (by kernel_rfl)) (by decide) (fun K hK => ?_)
 refine goes_ Try.func46 (by kernel_rfl) rfl #[.agg #[.int .i8 AY, .int .i8 AT, .int .u16 AX, .int .u16 AR, .int .u16 AU, .int .u16 AV, .int .u16 Aa, .int .u16 AZ, .int .u16 AS, .int .u16 AW, .int .u16 AM, .int .u16 AL], .slice BO Ac.length BM] (by rfl) rfl rfl gl_ ?_
 with_reducible refine (impl_cellCode.calls k AY AT AX AR AU AV Aa AZ AS AW AM AL _ _ Ac Ad _ ?side1 ?side2 A4.out).mono ?_
 (case side1 => exact zC (Kd.R_reads' AE.out).2.2)
 (case side2 => exact (Kd.R_reads' AE.out).2.1)
 rintro e CI ⟨rfl, hb⟩
 refine ⟨_, rfl, ?_⟩
 replace AO := kR AO hb
 replace AE := kR AE hb
 replace AC := kK AC hb
 replace AA := kK AA hb
 replace AB := kK AB hb
 replace HB := kB3 HB AJ AK AQ hb
 refine hK.out _ _ (cr12 AC ⟨(blk_cell AA.out 0).trans rfl, (blk_cell AA.out 1).trans rfl, (blk_cell AB.out 0).trans rfl, (blk_cell AB.out 1).trans rfl⟩) (fun hHeld => ?_)
 clear hK K
 refine norm_ (a' := ?_) ?_ ?_
 rotate_left
 {
 show Act.put _ (some 15) _ = _
 simp only [Act.put, zs, zz, zk, i64_w, i32_w]
 rfl
 }
 exact norm_ (by simp only [putAll, Act.put, zs, zz, zk]) (hCont (.slice BO Ac.length BM, Af) _ ⟨hHeld, (Kd.R_mono AE.out (fun _ hk => ⟨hk.1.1.2, ⟨hk.1.2, hk.2⟩⟩)), (Kd.R_mono AO.out (fun _ hk => ⟨hk.2, ⟨hk.1.1.2, hk.1.2⟩⟩)), (zK AC.out), (zK AA.out), (zK AB.out), (zH3 HB AJ AK AQ)⟩)
 }
 }
 rintro ⟨Av, Af⟩ At ⟨hS_, Bi, BT, BX, Bl, BW, Bj⟩
 have Ap : Aside0 (Kd.R k62 62 At w.heap.size (fun k_ => some k_ ≠ (Af : Value).ownBlock ∧ k_ ≠ AP ∧ k_ ≠ AN) Av Ac) := ⟨Bi⟩
 have Ak : Aside0 (Kd.R k62 62 At w.heap.size (fun k_ => some k_ ≠ (Av : Value).ownBlock ∧ k_ ≠ AP ∧ k_ ≠ AN) Af Ay) := ⟨BT⟩
 have An : Aside0 (At.heap[AD]? = some (.cells #[.int .i8 AY, .int .i8 AT, .int .u16 AX, .int .u16 AR, .int .u16 AU, .int .u16 AV, .int .u16 Aa, .int .u16 AZ, .int .u16 AS, .int .u16 AW, .int .u16 AM, .int .u16 AL] 35 (0, 0))) := ⟨BX⟩
 have Aq : Aside0 (At.heap[AP]? = some (.cells #[.int .i8 AH, .int .i8 AI] 62 (0, 0))) := ⟨Bl⟩
 have A7 : Aside0 (At.heap[AN]? = some (.cells #[.int .i8 AF, .int .i8 AG] 62 (0, 0))) := ⟨BW⟩
 have A0 : Aside0 (Below w.heap.size w At) := ⟨Bj⟩
 clear AC AA AB HB Bi BT BX Bl BW Bj
 have AE := Ap
 have AO := Ak
 have AC := An
 have AA := Aq
 have AB := A7
 have HB := A0
 clear Ap Ak An Aq A7 A0
 have hHeld : At.cell? ⟨AD, 0, none⟩ = some (.int .i8 AY) ∧ At.cell? ⟨AD, 1, none⟩ = some (.int .i8 AT) ∧ At.cell? ⟨AD, 2, none⟩ = some (.int .u16 AX) ∧ At.cell? ⟨AD, 3, none⟩ = some (.int .u16 AR) ∧ At.cell? ⟨AD, 4, none⟩ = some (.int .u16 AU) ∧ At.cell? ⟨AD, 5, none⟩ = some (.int .u16 AV) ∧ At.cell? ⟨AD, 6, none⟩ = some (.int .u16 Aa) ∧ At.cell? ⟨AD, 7, none⟩ = some (.int .u16 AZ) ∧ At.cell? ⟨AD, 8, none⟩ = some (.int .u16 AS) ∧ At.cell? ⟨AD, 9, none⟩ = some (.int .u16 AW) ∧ At.cell? ⟨AD, 10, none⟩ = some (.int .u16 AM) ∧ At.cell? ⟨AD, 11, none⟩ = some (.int .u16 AL) ∧ At.cell? ⟨AP, 0, none⟩ = some (.int .i8 AH) ∧ At.cell? ⟨AP, 1, none⟩ = some (.int .i8 AI) ∧ At.cell? ⟨AN, 0, none⟩ = some (.int .i8 AF) ∧ At.cell? ⟨AN, 1, none⟩ = some (.int .i8 AG) := hS_
 obtain ⟨Bw, Bt, BU⟩ := Kd.R_slice AO.out
 (first | subst BU | (injection BU with f1_ f2_ f3_; have Aw := f1_.symm; have Au := f3_.symm; clear f1_ f2_ f3_; subst Aw; subst Au))
 refine norm_ (a' := ?_) ?_ ?_
 rotate_left
 · simp only [putAll, Act.put, zs, zz, zk]; rfl
 refine one_ (i := 9) (N := some 20) (bA 13 1023) rfl rfl (one_of HT_.out (by kernel_rfl)) (by decide) (fun K hK => ?_)
 refine goes_ Try.func92 (by kernel_rfl) rfl #[.agg #[.int .i8 AY, .int .i8 AT, .int .u16 AX, .int .u16 AR, .int .u16 AU, .int .u16 AV, .int .u16 Aa, .int .u16 AZ, .int .u16 AS, .int .u16 AW, .int .u16 AM, .int .u16 AL], .slice Bw Ay.length Bt] (by rfl) rfl rfl gl_ ?_
 with_reducible refine (impl_stateCode.calls k AY AT AX AR AU AV Aa AZ AS AW AM AL _ _ Ay Ai _ ?side1 ?side2 A5.out).mono ?_
 (case side1 => exact zC (Kd.R_reads' AO.out).2.2)
 (case side2 => exact (Kd.R_reads' AO.out).2.1)
 rintro e CS ⟨rfl, hb⟩
 refine ⟨_, rfl, ?_⟩
 replace AE := kR AE hb
 replace AO := kR AO hb
 replace AC := kK AC hb
 replace AA := kK AA hb
 replace AB := kK AB hb
 replace HB := kB3 HB AJ AK AQ hb
 refine hK.out _ _ (cr12 AC ⟨(blk_cell AA.out 0).trans rfl, (blk_cell AA.out 1).trans rfl, (blk_cell AB.out 0).trans rfl, (blk_cell AB.out 1).trans rfl⟩) (fun hHeld => ?_)
 clear hK K
 refine norm_ (a' := ?_) ?_ ?_
 rotate_left
 {
 show Act.put _ (some 20) _ = _
 simp only [Act.put, zs, zz, zk, i64_w, i32_w]
 rfl
 }
 refine one_ (i := 10) (N := some 21) (bA 13 2047) rfl rfl (one_of HT_.out (by kernel_rfl)) (by decide) (fun K hK => ?_)
 refine Kd.R_lit_step (Kd.int .i64) _ 2 ?hg (N := 21) ?hd (xs := ([Ad, Ai] : List Int)) (inner := [.int .i64 Ad, .int .i64 Ai]) (ok := fun _ => True) (okp := fun _ => True) ?hr ?hp (fun _ hk => hk) trivial (Below.refl _ _) (Nat.le_refl _) (by simp) ?_; (case hd => rfl); (case hg => rfl); (case hr => first | (go_simp; done) | (go_simp; rfl)); (case hp => exact (Reps.one (show Kd.M (Kd.int .i64) _ _ _ Ad [.int .i64 Ad] from rfl) (Reps.one (show Kd.M (Kd.int .i64) _ _ _ Ai [.int .i64 Ai] from rfl) (Reps.none _ _))))
 intro Bq CO BS hb Ao Ab
 clear Ao Ab
 (first | rw [← A9.out] at BS | (simp only [Int.reduceToNat] at BS; rw [← A9.out] at BS))
 have Am := ak (Kd.R_lower BS (below_size (zH3 HB AJ AK AQ)))
 replace AE := kR AE hb
 replace AO := kR AO hb
 replace AC := kK AC hb
 replace AA := kK AA hb
 replace AB := kK AB hb
 replace HB := kB3 HB AJ AK AQ hb
 obtain ⟨Bs, Bu, Bf⟩ := Kd.R_slice Am.out
 (first | subst Bf | (injection Bf with f1_ f2_ f3_; have Aw := f1_.symm; have Au := f3_.symm; clear f1_ f2_ f3_; subst Aw; subst Au))
 refine hK.out _ _ (cr12 AC ⟨(blk_cell AA.out 0).trans rfl, (blk_cell AA.out 1).trans rfl, (blk_cell AB.out 0).trans rfl, (blk_cell AB.out 1).trans rfl⟩) (fun hHeld => ?_)
 clear hK K
 refine norm_ (a' := ?_) ?_ ?_
 rotate_left
 {
 show Act.put _ (some 21) _ = _
 simp only [Act.put, zs, zz, zk, i64_w, i32_w]
 rfl
 }
 refine one_ (i := 11) (N := some 22) (bA 13 4095) rfl rfl (one_of HT_.out (by kernel_rfl)) (by decide) (fun K hK => ?_)
 refine goes_ Try.func91 (by kernel_rfl) rfl #[.slice Bs BL.length Bu] (by rfl) rfl rfl gl_ ?_
 with_reducible refine (impl_firstOf.calls k _ _ BL Ah _ ?side1 ?side2 A6.out).mono ?_
 (case side1 => exact zC (Kd.R_reads' Am.out).2.2)
 (case side2 => exact (Kd.R_reads' Am.out).2.1)
 rintro e w' ⟨rfl, ⟨nd, rfl⟩⟩
 refine ⟨_, rfl, ?_⟩
 refine hK.out _ _ (cr12 AC ⟨(blk_cell AA.out 0).trans rfl, (blk_cell AA.out 1).trans rfl, (blk_cell AB.out 0).trans rfl, (blk_cell AB.out 1).trans rfl⟩) (fun hHeld => ?_)
 clear hK K
 refine norm_ (a' := ?_) ?_ ?_
 rotate_left
 {
 show Act.put _ (some 22) _ = _
 simp only [Act.put, zs, zz, zk, i64_w, i32_w]
 rfl
 }
 refine pU 12 8 (bA 13 8191) HT_ ?_
 refine done_ (done_of HT_.out (by kernel_rfl)) ?_
 try go_wp2
 go_ret2
 exact ⟨rfl, zH3 HB AJ AK AQ⟩
 }
end Go.Proofs.Ytooidjdgfoioiaa.P
