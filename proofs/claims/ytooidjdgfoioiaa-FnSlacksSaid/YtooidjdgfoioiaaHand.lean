-- Mine: walks of functions that the print does not reach.
import Derived.Test.YtooidjdgfoioiaaProg
import Derived.Test.YtooidjdgfoioiaaWWords
import Derived.Test.YtooidjdgfoioiaaWLast
import Derived.Test.YtooidjdgfoioiaaWMore
import Derived.Sort.WalkB12
import Derived.Lib.SlicesMore
import Derived.Lib.OwnBridge
import Derived.WalkKit
import Derived.Deep.LoopGhost
import Derived.Deep.RegionLaw
import Derived.Lib.LazyBuf
import Derived.Laws.IdiomCopy
import Derived.Shelf.GgSortFunc.RowK
import Derived.Lib.ConvBytes
import Derived.Laws.BytesArg
import Derived.Tactics
import Derived.KernelRfl
import Derived.BigQuiet
import Derived.WalkSpells
import Derived.Lib.SliceRun
import Derived.StillTailTactics
import Derived.Maps.OwnOps
import Derived.Maps.OwnSet
import Derived.Maps.Views
import Derived.Maps.Keyed
import Derived.StringKeys
import Derived.DeepKeys5
import Derived.Deep.WholeRow
namespace Go.Proofs.Ytooidjdgfoioiaa.H
open Go.RowKit Go.Sort Go.Proofs.YtooidjdgfoioiaaW.PrintWords Go.Proofs.YtooidjdgfoioiaaW.PrintLast
set_option linter.unusedVariables false
set_option linter.unusedSimpArgs false
/-! ### the search in a room: by a map of spots (impl), by a grid (spec) -/
theorem spotLaw : WideMaps.KeyLaw Try.prog 62 := deep_law_laid (by kernel_rfl) (m := 2) (by omega) (of_decide_eq_true (by kernel_rfl)) (by kernel_rfl) (by rw [Try.underlying62])
theorem spotKeyed : Maps.Keyed Try.prog 62 := Maps.Keyed.of_law spotLaw
def keyS (x y : Int) : Lit := .string (keyBytes [.int .i8 x, .int .i8 y])
theorem keyS_of {x y : Int} (hx : (Lit.int .i8 x).wf = true) (hy : (Lit.int .i8 y).wf = true) : keyOf Try.prog 62 (.agg #[.int .i8 x, .int .i8 y]) = some (keyS x y) := by
  have hk : Try.prog.keyType 62 = true := by kernel_rfl
  have hf : (Value.agg #[.int .i8 x, .int .i8 y]).formed Try.prog 62 = true := by kernel_rfl
  have hn : Try.prog.types.size + 1 = (Try.prog.types.size - 1) + 1 + 1 := by kernel_rfl
  have e62 : Try.prog.cellsOf 62 = 2 := by kernel_rfl
  have e22 : Try.prog.cellsOf 22 = 1 := by kernel_rfl
  have hl : Try.prog.keyLits (Try.prog.types.size + 1) 62 (Value.agg #[.int .i8 x, .int .i8 y]).cells.toList = some [.int .i8 x, .int .i8 y] := by
    rw [hn]
    show Try.prog.keyLits ((Try.prog.types.size - 1) + 1 + 1) 62 [.int .i8 x, .int .i8 y] = _
    generalize Try.prog.types.size - 1 = d
    have f22 : ∀ z : Int, (Lit.int .i8 z).wf = true → Try.prog.keyLits (d + 1) 22 [.int .i8 z] = some [.int .i8 z] := by
      intro z hz
      unfold Program.keyLits
      rw [Try.underlying22]
      simp only [hz]
      rfl
    unfold Program.keyLits
    rw [Try.underlying62]
    simp [e62, e22, f22 x hx, f22 y hy]
  unfold keyOf
  rw [Try.underlying62]
  simp only [hk, hf, hl]
  rfl
theorem keyS_inj {x y x' y' : Int} (hx : (Lit.int .i8 x).wf = true) (hy : (Lit.int .i8 y).wf = true) (hx' : (Lit.int .i8 x').wf = true) (hy' : (Lit.int .i8 y').wf = true) (h : keyS x y = keyS x' y') : x = x' ∧ y = y' := by
  have h1 := keyS_of hx hy
  have h2 := keyS_of hx' hy'
  rw [h] at h1
  have h3 := spotLaw.inj h1 h2
  simpa using h3
def inG (s : Int × Int) : Bool := decide (0 ≤ s.1) && decide (s.1 < 10) && decide (0 ≤ s.2) && decide (s.2 < 10)
theorem inG_iff {s : Int × Int} : inG s = true ↔ 0 ≤ s.1 ∧ s.1 < 10 ∧ 0 ≤ s.2 ∧ s.2 < 10 := by simp [inG, and_assoc]
theorem wf8 {x : Int} (h0 : 0 ≤ x) (h1 : x < 10) : (Lit.int .i8 x).wf = true := by simp [Lit.wf, IntKind.min, IntKind.max, IntKind.bits, IntKind.signed]; omega
theorem keyG {s : Int × Int} (h : inG s = true) : keyOf Try.prog 62 (.agg #[.int .i8 s.1, .int .i8 s.2]) = some (keyS s.1 s.2) := by
  obtain ⟨h1, h2, h3, h4⟩ := inG_iff.1 h
  exact keyS_of (wf8 h1 h2) (wf8 h3 h4)
def farPut (M : Int × Int → Option Int) (s : Int × Int) (d : Int) : Int × Int → Option Int := fun t => if t = s then some d else M t
def bfsIn (cur : Int × Int) : List (Int × Int) → List (Int × Int) → (Int × Int → Option Int) → Option (List (Int × Int) × (Int × Int → Option Int))
  | [], l, M => some (l, M)
  | s :: r, l, M => if inG s = true then (match M s with | some _ => bfsIn cur r l M | none => (match M cur with | some d => (if l.length < 1000 then bfsIn cur r (l ++ [s]) (farPut M s (d + 1)) else none) | none => none)) else none
def bfs (bes : Int × Int → Option (List (Int × Int))) : Nat → Nat → List (Int × Int) → (Int × Int → Option Int) → Option (Int × Int → Option Int)
  | 0, _, _, _ => none
  | k + 1, i, l, M => if h : i < l.length then (bes l[i]).bind fun nx => (bfsIn l[i] nx l M).bind fun p => bfs bes k (i + 1) p.1 p.2 else some M
def bfsFrom (bes : Int × Int → Option (List (Int × Int))) (k : Nat) (a : Int × Int) : Option (Int × Int → Option Int) := if inG a = true then bfs bes k 0 [a] (farPut (fun _ => none) a 0) else none
theorem bfs_mono {bes bes' : Int × Int → Option (List (Int × Int))} (h : ∀ s r, bes s = some r → bes' s = some r) : ∀ (k k' : Nat), k ≤ k' → ∀ i l M R, bfs bes k i l M = some R → bfs bes' k' i l M = some R := by
  intro k
  induction k with
  | zero => intro k' _ i l M R hr; exact absurd hr (by simp [bfs])
  | succ k ih =>
    intro k' hk i l M R hr
    obtain ⟨k', rfl⟩ : ∃ m, k' = m + 1 := ⟨k' - 1, by omega⟩
    unfold bfs at hr ⊢
    by_cases c : i < l.length
    · rw [dif_pos c] at hr ⊢
      obtain ⟨nx, h1, h2⟩ := Option.bind_eq_some_iff.1 hr
      obtain ⟨p, h3, h4⟩ := Option.bind_eq_some_iff.1 h2
      rw [h _ _ h1, Option.bind_some, h3, Option.bind_some]
      exact ih k' (by omega) _ _ _ _ h4
    · rw [dif_neg c] at hr ⊢; exact hr
/-- What is met lies in the grid, and its number is small. -/
def FarOk (M : Int × Int → Option Int) (n : Nat) : Prop := ∀ s d, M s = some d → inG s = true ∧ 0 ≤ d ∧ d ≤ (n : Int)
theorem FarOk.put {M : Int × Int → Option Int} {n : Nat} (h : FarOk M n) {s : Int × Int} {d : Int} (hs : inG s = true) (h0 : 0 ≤ d) (hd : d ≤ (n : Int)) : FarOk (farPut M s (d + 1)) (n + 1) := by
  intro t e ht
  unfold farPut at ht
  by_cases c : t = s
  · rw [if_pos c] at ht
    obtain rfl := Option.some.inj ht
    subst c
    exact ⟨hs, by omega, by omega⟩
  · rw [if_neg c] at ht
    have := h t e ht
    exact ⟨this.1, this.2.1, by have := this.2.2; omega⟩
theorem FarOk.one {a : Int × Int} (ha : inG a = true) : FarOk (farPut (fun _ => none) a 0) 1 := by
  intro t e ht
  unfold farPut at ht
  by_cases c : t = a
  · rw [if_pos c] at ht
    obtain rfl := Option.some.inj ht
    subst c
    exact ⟨ha, by omega, by omega⟩
  · rw [if_neg c] at ht; cases ht
def FarD (D : DataW Unit) (M : Int × Int → Option Int) : Prop := ∀ s : Int × Int, inG s = true → (M s = none → ∀ zd, D.atKey (keyS s.1 s.2) zd = zd) ∧ ∀ d, M s = some d → ∀ zd, D.atKey (keyS s.1 s.2) zd = .lit (.int .i64 d)
theorem FarD.nil : FarD (.map []) (fun _ => none) := fun _ _ => ⟨fun _ _ => rfl, fun d h => by cases h⟩
theorem FarD.put {D : DataW Unit} {M : Int × Int → Option Int} (h : FarD D M) (hD : Maps.IsMap D) {s : Int × Int} (hs : inG s = true) (d : Int) : FarD (D.put (keyS s.1 s.2) (.lit (.int .i64 d))) (farPut M s d) := by
  intro t ht
  obtain ⟨s1, s2, s3, s4⟩ := inG_iff.1 hs
  obtain ⟨t1, t2, t3, t4⟩ := inG_iff.1 ht
  by_cases e : t = s
  · subst e
    refine ⟨fun z => by simp [farPut] at z, fun j hj zd => ?_⟩
    unfold farPut at hj
    rw [if_pos rfl] at hj
    obtain rfl := Option.some.inj hj
    exact Maps.atKey_put_same hD (by simp [keyS, WideAt.IsKeyLit]) _ zd
  · have hne : keyS t.1 t.2 ≠ keyS s.1 s.2 := fun z => e (Prod.ext (keyS_inj (wf8 t1 t2) (wf8 t3 t4) (wf8 s1 s2) (wf8 s3 s4) z).1 (keyS_inj (wf8 t1 t2) (wf8 t3 t4) (wf8 s1 s2) (wf8 s3 s4) z).2)
    unfold farPut
    rw [if_neg e]
    exact ⟨fun q zd => by rw [Maps.atKey_put_other hne]; exact (h t ht).1 q zd, fun j hj zd => by rw [Maps.atKey_put_other hne]; exact (h t ht).2 j hj zd⟩
theorem far_zero (w : World) : (zeroValue 2).run Try.prog w = .ok (.int .i64 0) w := by kernel_rfl
set_option maxRecDepth 100000 in
theorem far_look {w : World} {b n : Nat} {D : DataW Unit} {M : Int × Int → Option Int} (hown : w.ownsMap Try.prog 62 (plainElem (H := Unit) Try.prog 2) b n D) (hM : FarD D M) {s : Int × Int} (hs : inG s = true) :
    (Instr.lookup 132 (.map (some b)) (.agg #[.int .i8 s.1, .int .i8 s.2]) true).run Try.prog w = .ok (.tuple #[.int .i64 ((M s).getD 0), .bool (M s).isSome]) w ∧ ∀ d, M s = some d → (Instr.lookup 132 (.map (some b)) (.agg #[.int .i8 s.1, .int .i8 s.2]) false).run Try.prog w = .ok (.int .i64 d) w := by
  obtain ⟨es, clock, hb, F, hs', rfl⟩ := hown
  have hk := keyG hs
  have h1 := hM s hs
  refine ⟨?_, fun d hd => ?_⟩
  · rcases Maps.fit_look true spotKeyed Try.underlying132 (far_zero _) hb F hk with ⟨hrun, _, hat⟩ | ⟨e0, y, _, _, hrun, hRv, hat, _⟩
    · cases hq : M s with
      | none => rw [hrun]; rfl
      | some d =>
        have h3 := h1.2 d hq (.lit (.bool true))
        rw [hat] at h3
        injection h3 with h3
        cases h3
    · obtain ⟨a, ha, hy, _⟩ := plainElem_int_inv Try.underlying2 hRv
      cases hq : M s with
      | none =>
        have h3 := h1.1 hq (.lit (.bool true))
        have h4 := h1.1 hq (.lit (.bool false))
        rw [hat] at h3 h4
        rw [h3] at h4
        injection h4 with h4
        injection h4 with h4
        cases h4
      | some d =>
        have h3 := h1.2 d hq (.lit (.bool true))
        rw [hat, hy] at h3
        injection h3 with h3
        injection h3 with _ h3
        subst h3
        rw [hrun, ha]
        rfl
  · rcases Maps.fit_look false spotKeyed Try.underlying132 (far_zero _) hb F hk with ⟨hrun, _, hat⟩ | ⟨e0, y, _, _, hrun, hRv, hat, _⟩
    · have h3 := h1.2 d hd (.lit (.bool true))
      rw [hat] at h3
      injection h3 with h3
      cases h3
    · obtain ⟨a, ha, hy, _⟩ := plainElem_int_inv Try.underlying2 hRv
      have h3 := h1.2 d hd (.lit (.bool true))
      rw [hat, hy] at h3
      injection h3 with h3
      injection h3 with _ h3
      subst h3
      rw [hrun, ha]
      rfl
theorem map_below {P : Program} {k : TypeId} {R : Value → Option (DataW Unit × List MemPlace)} {w w1 : World} {b n : Nat} {D : DataW Unit} (h : w.ownsMap P k R b n D) (hB : Below w.heap.size w w1) : w1.ownsMap P k R b n D := by
  have hlt := h.lt
  obtain ⟨es, clock, hb, F, hs, hD⟩ := h
  exact ⟨es, clock, (hB.block b hlt).trans hb, F, hs, hD⟩
theorem map_block {P : Program} {k : TypeId} {R : Value → Option (DataW Unit × List MemPlace)} {w w1 : World} {b n : Nat} {D : DataW Unit} (h : w.ownsMap P k R b n D) (hB : w1.heap[b]? = w.heap[b]?) : w1.ownsMap P k R b n D := by
  obtain ⟨es, clock, hb, F, hs, hD⟩ := h
  exact ⟨es, clock, hB.trans hb, F, hs, hD⟩
theorem bfsIn_ok (cur : Int × Int) : ∀ (nx l : List (Int × Int)) (M : Int × Int → Option Int) (p : List (Int × Int) × (Int × Int → Option Int)), FarOk M l.length → bfsIn cur nx l M = some p → FarOk p.2 p.1.length := by
  intro nx
  induction nx with
  | nil => intro l M p h hp; obtain rfl := Option.some.inj hp; exact h
  | cons s r ih =>
    intro l M p h hp
    unfold bfsIn at hp
    by_cases cg : inG s = true
    · rw [if_pos cg] at hp
      cases hq : M s with
      | some d => rw [hq] at hp; exact ih l M p h hp
      | none =>
        rw [hq] at hp
        dsimp only at hp
        cases hq2 : M cur with
        | none => rw [hq2] at hp; cases hp
        | some d =>
          rw [hq2] at hp
          dsimp only at hp
          by_cases cl : l.length < 1000
          · rw [if_pos cl] at hp
            refine ih _ _ p ?_ hp
            rw [List.length_append]
            exact h.put cg (h _ _ hq2).2.1 (h _ _ hq2).2.2
          · rw [if_neg cl] at hp; cases hp
    · rw [if_neg cg] at hp; cases hp
theorem bfs_ok {bes : Int × Int → Option (List (Int × Int))} : ∀ (k i : Nat) (l : List (Int × Int)) (M R : Int × Int → Option Int), FarOk M l.length → bfs bes k i l M = some R → ∃ n, FarOk R n := by
  intro k
  induction k with
  | zero => intro i l M R _ h; exact absurd h (by simp [bfs])
  | succ k ih =>
    intro i l M R h hR
    unfold bfs at hR
    by_cases c : i < l.length
    · rw [dif_pos c] at hR
      obtain ⟨nx, h1, h2⟩ := Option.bind_eq_some_iff.1 hR
      obtain ⟨p, h3, h4⟩ := Option.bind_eq_some_iff.1 h2
      exact ih _ _ _ _ (bfsIn_ok _ _ _ _ _ h h3) h4
    · rw [dif_neg c] at hR
      obtain rfl := Option.some.inj hR
      exact ⟨_, h⟩
theorem bfsFrom_ok {bes : Int × Int → Option (List (Int × Int))} {k : Nat} {a : Int × Int} {R : Int × Int → Option Int} (h : bfsFrom bes k a = some R) : ∃ n, FarOk R n := by
  unfold bfsFrom at h
  by_cases c : inG a = true
  · rw [if_pos c] at h
    exact bfs_ok _ _ _ _ _ (FarOk.one c) h
  · rw [if_neg c] at h; cases h

end Go.Proofs.Ytooidjdgfoioiaa.H
