-- Mine: walks of functions that the print does not reach.
import Derived.Test.YtadnngaaobgdgaaProg
import Derived.Test.YtadnngaaobgdgaaShelf
import Derived.Test.YtadnngaaobgdgaaWWords
import Derived.Test.YtadnngaaobgdgaaWLast
import Derived.Test.YtadnngaaobgdgaaWMore
import Derived.Sort.WalkB12
import Derived.Lib.SlicesMore
import Derived.Lib.OwnBridge
import Derived.WalkKit
import Derived.Deep.LoopGhost
import Derived.Deep.RegionLaw
import Derived.Lib.LazyBuf
import Derived.Laws.IdiomCopy
import Derived.Shelf.GgSortFunc.RowK
import Derived.Lib.ConvBytes
import Derived.Laws.BytesArg
import Derived.Tactics
import Derived.KernelRfl
import Derived.BigQuiet
import Derived.WalkSpells
import Derived.Lib.SliceRun
import Derived.StillTailTactics
import Derived.Maps.OwnOps
import Derived.Maps.OwnSet
import Derived.Maps.Views
import Derived.Maps.Keyed
import Derived.StringKeys
namespace Go.Proofs.Ytadnngaaobgdgaa.H
open Go.RowKit Go.Sort Go.Proofs.YtadnngaaobgdgaaW.PrintWords Go.Proofs.YtadnngaaobgdgaaW.PrintLast
set_option linter.unusedVariables false
set_option linter.unusedSimpArgs false
/-! ### a sort of holds -/
/-- A hold on a knot, by who is there. -/
def encT (who : Nat → Int) (x : Fin 128) : List Value := [.int .i16 (who x.val), .int .i8 (x.val : Int)]
def cfT (x y : Fin 128) : Int := (x.val : Int) - (y.val : Int)
theorem ltT (x y : Fin 128) : ltOf cfT x y = decide (x.val < y.val) := by
  unfold ltOf cfT
  by_cases h : x.val < y.val
  · rw [decide_eq_true h, decide_eq_true (by omega)]
  · rw [decide_eq_false h, decide_eq_false (by omega)]
theorem swoT : SWO (ltOf cfT) where
  irrefl x := by rw [ltT]; simp
  trans x y z h1 h2 := by rw [ltT] at *; simp at *; omega
  ntrans x y z h1 h2 := by rw [ltT] at *; simp at *; omega
set_option maxHeartbeats 4000000 in
theorem takeCmp (who : Nat → Int) (x y : Fin 128) (W : World) : Calls Try.prog 32 #[.agg (encT who x).toArray, .agg (encT who y).toArray] W fun e w' => e = .returned (.int .i64 (cfT x y)) ∧ ∃ q os', w' = grow (W.drewN q) os' := by
  unfold encT cfT
  obtain ⟨x, hx⟩ := x
  obtain ⟨y, hy⟩ := y
  have h1 : wrap64 ((x : Int) - (y : Int)) = (x : Int) - (y : Int) := by simp only [wrap64]; omega
  have h2 : wrap64 (x : Int) = (x : Int) := by simp only [wrap64]; omega
  have h3 : wrap64 (y : Int) = (y : Int) := by simp only [wrap64]; omega
  generalize who x = a
  generalize who y = b
  go_enter Try.func32, Try.ntmps32
  go_wp2
  go_ret
  exact ⟨rfl, 0, _, by rw [alloc_eq_grow, alloc_eq_grow, grow_grow]; rfl⟩
def cellsT (who : Nat → Int) (ks : List (Fin 128)) : List Value := (flatK (encT who) 2 ks.toArray).toList
theorem cellsT_len (who : Nat → Int) (ks : List (Fin 128)) : (cellsT who ks).length = ks.length * 2 := by
  unfold cellsT
  rw [Array.length_toList, size_flatK, List.size_toArray]
set_option maxHeartbeats 4000000 in
/-- The sort of holds: what it leaves is the one list in the order of the knots. -/
theorem sortT_calls (who : Nat → Int) (ks kt : List (Fin 128)) (hp : kt.Perm ks) (hs : kt.Pairwise (fun a b => a.val ≤ b.val)) {base g cap : Nat} {w0 w : World} (ho : w.ownsRow base 38 2 (.slice (some ⟨g, 0, none⟩) ks.length cap) ks.length (cellsT who ks)) (hB : Below base w0 w) (hn : ks.length ≤ 100000) :
    Calls Try.prog 31 #[.slice (some ⟨g, 0, none⟩) ks.length cap, .func (.func 32) #[] #[]] w fun e w' => e = .returned (.tuple #[]) ∧ w'.ownsRow base 38 2 (.slice (some ⟨g, 0, none⟩) ks.length cap) ks.length (cellsT who kt) ∧ Below base w0 w' := by
  rcases ho.2 with ⟨e0, _⟩ | ⟨g', cap', cur, e0, hb, hg, hnc, hm, hsz, ht⟩
  · cases e0
  · injection e0 with e1 _ e3
    injection e1 with e1
    injection e1 with e1
    subst e1; subst e3
    have hlt : g < w.heap.size := (Array.getElem?_eq_some_iff.1 hg).1
    have hfl : (flatK (encT who) 2 ks.toArray).size = ks.length * 2 := by rw [size_flatK, List.size_toArray]
    have hH : HoldsK (encT who) 2 w g 0 ks.toArray := by
      intro j hj
      rw [hfl] at hj
      have hjc : j < cur.size := by rw [hsz]; exact Nat.lt_of_lt_of_le hj (Nat.mul_le_mul_right 2 hnc)
      have hc : cur[j]? = some ((flatK (encT who) 2 ks.toArray)[j]!) := by
        have h1 : (cur.toList.take (ks.length * 2))[j]? = (cellsT who ks)[j]? := by rw [ht]
        rw [List.getElem?_take, if_pos hj, Array.getElem?_toList] at h1
        rw [h1]
        unfold cellsT
        rw [Array.getElem?_toList, getElem!_pos _ j (by rw [hfl]; exact hj), Array.getElem?_eq_getElem (by rw [hfl]; exact hj)]
      refine ⟨?_, ?_⟩
      · simp only [World.cell?, Nat.zero_add, hg]; exact hc
      · simp [World.frozen?, hg]
    have eg : ∀ args w, (callFunc 32 args).run Try.prog w = .ok (.enter 32 args) w := enters_of Try.func32 (by kernel_rfl) rfl
    have hcmp : CmpLays Try.prog 32 #[] (encT who) 2 cfT g 0 ks.toArray.size w := fun _ _ _ _ x y => takeCmp who x y _
    have hcon := AnyQ.slices_SortFunc Try.sortRow 2 Try.isAgg38 Try.sizeOf38 (encT who) (fun _ => rfl) (fun x v hv => by simp [encT] at hv; rcases hv with rfl | rfl <;> rfl) cfT swoT 32 #[] g 0 cap ks.toArray w eg hcmp hH hlt (by rw [List.size_toArray]; omega)
    refine Calls.mono (show Calls Try.prog 31 _ w _ from hcon) ?_
    rintro e w' ⟨rfl, d', n, os, hpm, hso, rfl⟩
    have hd : d'.toList = kt := by
      obtain ⟨q1, _, q3⟩ := hpm
      have e1 : d'.extract 0 ks.toArray.size = d' := by rw [← q1]; exact Array.extract_size
      rw [e1, Array.extract_size, List.toList_toArray] at q3
      refine List.Perm.eq_of_pairwise (le := fun x y : Fin 128 => x.val ≤ y.val) (fun a b _ _ h1 h2 => Fin.ext (Nat.le_antisymm h1 h2)) ?_ hs (q3.trans hp.symm)
      rw [List.pairwise_iff_getElem]
      intro i j hi hj hij
      have hh := hso i j (Nat.zero_le _) hij (by rw [← q1]; simpa using hj)
      rw [ltT, getElem!_pos d' j (by simpa using hj), getElem!_pos d' i (by simpa using hi)] at hh
      have := of_decide_eq_false hh
      simp only [Array.getElem_toList]
      omega
    have hdk : d' = kt.toArray := by rw [← hd]
    subst hdk
    have hkl : kt.length = ks.length := hp.length_eq
    refine ⟨rfl, ⟨by rw [cellsT_len, hkl], .inr ⟨g, cap, putCells id 0 (flatK (encT who) 2 kt.toArray) cur, rfl, hb, ?_, hnc, hm, by simpa [putCells] using hsz, ?_⟩⟩, ?_⟩
    · have hin : (putRow id (Sort.ahead w n) g 0 (flatK (encT who) 2 kt.toArray)).heap[g]? = some (.cells (putCells id 0 (flatK (encT who) 2 kt.toArray) cur) 38 (0, 0)) := by
        simp [putRow, mapBlock, Sort.ahead, Array.getElem?_modify, hg, onCells]
      have hlt2 := (Array.getElem?_eq_some_iff.1 hin).1
      show ((putRow id (Sort.ahead w n) g 0 (flatK (encT who) 2 kt.toArray)).heap ++ os)[g]? = _
      rw [Array.getElem?_append_left hlt2]
      exact hin
    · apply List.ext_getElem?
      intro j
      rw [List.getElem?_take, Array.getElem?_toList]
      have hfl2 : (flatK (encT who) 2 kt.toArray).size = ks.length * 2 := by rw [size_flatK, List.size_toArray, hkl]
      by_cases hj : j < ks.length * 2
      · have hjc : j < cur.size := by rw [hsz]; exact Nat.lt_of_lt_of_le hj (Nat.mul_le_mul_right 2 hnc)
        rw [if_pos hj]
        simp only [putCells, Array.getElem?_mapIdx, Array.getElem?_eq_getElem hjc, Option.map_some]
        rw [if_pos (by simp; omega)]
        unfold cellsT
        rw [Array.getElem?_toList, Array.getElem?_eq_getElem (by omega)]
        simp only [Nat.sub_zero, id]
        rw [getElem!_pos _ j (by omega)]
      · rw [if_neg hj, List.getElem?_eq_none (by rw [cellsT_len, hkl]; omega)]
    · have hbb := Go.Lib.below_putRow (enc := (id : Value → Value)) (q := n) (d := flatK (encT who) 2 kt.toArray) hB hb
      refine ⟨hbb.os, hbb.tape, hbb.output, ?_, fun k hk => ?_⟩
      · refine Nat.le_trans hbb.size ?_
        show _ ≤ ((putRow id (Sort.ahead w n) g 0 (flatK (encT who) 2 kt.toArray)).heap ++ os).size
        rw [Array.size_append]; omega
      · have h1 := hbb.block k hk
        have hks : k < (putRow id (Sort.ahead w n) g 0 (flatK (encT who) 2 kt.toArray)).heap.size := by
          have : (putRow id (Sort.ahead w n) g 0 (flatK (encT who) 2 kt.toArray)).heap.size = w.heap.size := by simp [putRow, mapBlock, Sort.ahead]
          omega
        show ((putRow id (Sort.ahead w n) g 0 (flatK (encT who) 2 kt.toArray)).heap ++ os)[k]? = _
        rw [Array.getElem?_append_left hks]
        exact h1
theorem take_size (W : World) (o : Obj) : (W.alloc o).heap.size = W.heap.size + 1 := by rw [World.alloc]; simp only [Array.size_push]
theorem blk2_ {w : World} {g : Nat} {u v : Value} {t : TypeId} (h : w.heap[g]? = some (.cells #[u, v] t (0, 0))) : w.cell? ⟨g, 0, none⟩ = some u ∧ w.cell? ⟨g, 1, none⟩ = some v := by simp [World.cell?, h]
/-- append of one struct to a row of the call's own, as a step of a region that draws its order. -/
theorem step_append_cells {P : Program} {ops : Array Oper} {o : Oper} {a : Act} {w : World} {K : Act → World → Prop} {Q : Exit → Act → World → Prop} {E : Prop}
    (hgd : o.guard = none) (s x : Operand) (t e : TypeId) (z : Value) (size bytes : Nat) (ho : o.op = .call { callee := .builtin .append, args := #[s, x], argTypes := #[t, t] })
    (ht : P.underlying t = some (.slice e)) (hinfo : (P.info? e).map (fun i => (i.zero, i.size, i.bytes)) = some (some z, size, bytes)) (hz : z.cells.size = size) (hs0 : 0 < size) (hb0 : 0 < bytes)
    (base : Nat) (v : Value) (n : Nat) (xs cs : List Value) (hcs : cs.length = size) (h1 : ∀ u ∈ cs, u.oneCell' = true) (b : Nat) (hs : a.eval s = v) (hx : a.eval x = .slice (some ⟨b, 0, none⟩) 1 1)
    (HO : w.ownsRow base e size v n xs) (hw : w.heap[b]? = some (.cells cs.toArray e (0, 0))) (hbase : base ≤ w.heap.size) (hl : (n + 1) * bytes ≤ 140737488355328)
    (h : ∀ gb cap w1, w1.ownsRow base e size (.slice (some ⟨gb, 0, none⟩) (n + 1) cap) (n + 1) (xs ++ cs) → w.grownBy w1 v.ownBlock → K (a.put o.dst (.slice (some ⟨gb, 0, none⟩) (n + 1) cap)) w1) :
    if Region.wanted o (yielded ops a.tmps) = true then Oper.wp P o a w K Q else E := by
  obtain ⟨ie, hie, hz0, hz1, hz2⟩ := info_parts hinfo
  have hlen : n + 1 ≤ 140737488355328 := Nat.le_trans (Nat.le_mul_of_pos_right _ hb0) hl
  have hnw := World.news_of_block (w := w) (B := b) (cs := cs.toArray) (t := e) (fr := (0, 0)) hw
  refine step_append_lies w hgd s x t ho base e ie z size bytes ht hie hz0 hz1 hz2 hz hs0 v n xs hs HO ⟨b, 0, none⟩ 1 1 cs hx (by omega) (by simpa using hnw) h1 (by omega) (by simp only [maxLen]; omega) hl hbase _ rfl ?_
  intro g cap w' h2 h3 h4 h5
  exact h g cap w' h2 h3
theorem cellsT_get (who : Nat → Int) (q : List (Fin 128)) (j : Nat) (hj : j < q.length * 2) : (cellsT who q)[j]? = some ((encT who q.toArray[j / 2]!)[j % 2]!) := by
  unfold cellsT
  rw [Array.getElem?_toList, Array.getElem?_eq_getElem (by rw [size_flatK, List.size_toArray]; exact hj)]
  congr 1
  have := get_flatK (encT who) 2 q.toArray j (by rw [List.size_toArray]; exact hj)
  rw [← this, getElem!_pos _ j (by rw [size_flatK, List.size_toArray]; exact hj)]
theorem cellsT_pair {α : Type} (who : Nat → Int) (xs : List α) (f0 f1 : α → Int) (kf : α → Fin 128) (hk : ∀ x ∈ xs, who (kf x).val = f0 x ∧ ((kf x).val : Int) = f1 x) (j : Nat) (p : α) (hp : xs[j]? = some p) (t : Nat) (ht : t < 2) : (cellsT who (xs.map kf))[j * 2 + t]? = [Value.int .i16 (f0 p), Value.int .i8 (f1 p)][t]? := by
  obtain ⟨hj, hpe⟩ := List.getElem?_eq_some_iff.1 hp
  rw [cellsT_get who _ _ (by rw [List.length_map]; omega)]
  have e1 : (j * 2 + t) / 2 = j := by omega
  have e2 : (j * 2 + t) % 2 = t := by omega
  obtain ⟨h0, h1⟩ := hk p (List.mem_of_getElem? hp)
  have e3 : (xs.map kf).toArray[j]! = kf p := by
    rw [getElem!_pos _ _ (by simp; omega)]
    simp only [List.getElem_toArray, List.getElem_map, hpe]
  rw [e1, e2, e3]
  unfold encT
  rw [h0, h1]
  match t, ht with
  | 0, _ => rfl
  | 1, _ => rfl
theorem cells_of_reps {α : Type} {R : α → List Value → Prop} {cs : List Value} (xs : List α) (f0 f1 : α → Int) (hR : ∀ x c, R x c → c = [.int .i16 (f0 x), .int .i8 (f1 x)]) (hr : Reps R 2 xs cs) (who : Nat → Int) (kf : α → Fin 128) (hk : ∀ x ∈ xs, who (kf x).val = f0 x ∧ ((kf x).val : Int) = f1 x) : cs = cellsT who (xs.map kf) := by
  apply List.ext_getElem?
  intro j
  by_cases hj : j < xs.length * 2
  · obtain ⟨p, hp⟩ : ∃ p, xs[j / 2]? = some p := ⟨xs[j / 2], List.getElem?_eq_getElem (by omega)⟩
    have h1 := hR p _ (hr.2 (j / 2) p hp)
    have h2 := cellsT_pair who xs f0 f1 kf hk (j / 2) p hp (j % 2) (by omega)
    rw [show j / 2 * 2 + j % 2 = j by omega, ← h1, List.getElem?_take, if_pos (by omega), List.getElem?_drop, show j / 2 * 2 + j % 2 = j by omega] at h2
    exact h2.symm
  · rw [List.getElem?_eq_none (by rw [hr.1]; omega), List.getElem?_eq_none (by rw [cellsT_len, List.length_map]; omega)]
theorem reps_of_cells {α : Type} {R : α → List Value → Prop} (xs : List α) (f0 f1 : α → Int) (hR : ∀ x, R x [.int .i16 (f0 x), .int .i8 (f1 x)]) (who : Nat → Int) (kf : α → Fin 128) (hk : ∀ x ∈ xs, who (kf x).val = f0 x ∧ ((kf x).val : Int) = f1 x) : Reps R 2 xs (cellsT who (xs.map kf)) := by
  refine ⟨by rw [cellsT_len, List.length_map], fun j p hp => ?_⟩
  have e : ((cellsT who (xs.map kf)).drop (j * 2)).take 2 = [.int .i16 (f0 p), .int .i8 (f1 p)] := by
    apply List.ext_getElem?
    intro t
    by_cases ht : t < 2
    · rw [List.getElem?_take, if_pos ht, List.getElem?_drop]
      exact cellsT_pair who xs f0 f1 kf hk j p hp t ht
    · rw [List.getElem?_eq_none (by rw [List.length_take]; omega), List.getElem?_eq_none (by simp; omega)]
  rw [e]
  exact hR p
def whoT {α : Type} (f0 f1 : α → Int) (xs : List α) (n : Nat) : Int := ((xs.find? (fun x => f1 x == (n : Int))).map f0).getD 0
theorem whoT_mem {α : Type} (f0 f1 : α → Int) : ∀ (xs : List α), (xs.map f1).Pairwise (fun a b => a ≠ b) → ∀ x ∈ xs, ∀ n : Nat, (n : Int) = f1 x → whoT f0 f1 xs n = f0 x := by
  intro xs
  induction xs with
  | nil => intro _ x hx; exact absurd hx (by simp)
  | cons y r ih =>
    intro hp x hx n hn
    rw [List.map_cons, List.pairwise_cons] at hp
    unfold whoT
    rw [List.find?_cons]
    by_cases e : f1 y = (n : Int)
    · rw [beq_iff_eq.2 e]
      rcases List.mem_cons.1 hx with h | h
      · subst h; rfl
      · exact absurd (e.trans hn) (hp.1 _ (List.mem_map.2 ⟨x, h, rfl⟩))
    · rw [beq_eq_false_iff_ne.2 e]
      rcases List.mem_cons.1 hx with h | h
      · subst h; exact absurd hn.symm e
      · exact ih hp.2 x h n hn
/-- A list in the order of its keys, and one more. -/
def insT {α : Type} (f1 : α → Int) (h : α) : List α → List α
  | [] => [h]
  | x :: r => if f1 x < f1 h then x :: insT f1 h r else h :: x :: r
theorem insT_perm {α : Type} (f1 : α → Int) (h : α) : ∀ xs : List α, (insT f1 h xs).Perm (xs ++ [h]) := by
  intro xs
  induction xs with
  | nil => exact List.Perm.refl _
  | cons x r ih =>
    unfold insT
    split
    · exact (ih.cons x)
    · exact (List.perm_append_singleton h (x :: r)).symm
theorem insT_sorted {α : Type} (f1 : α → Int) (h : α) : ∀ xs : List α, xs.Pairwise (fun a b => f1 a < f1 b) → (∀ x ∈ xs, f1 x ≠ f1 h) → (insT f1 h xs).Pairwise (fun a b => f1 a < f1 b) := by
  intro xs
  induction xs with
  | nil => intro _ _; exact List.pairwise_singleton _ _
  | cons x r ih =>
    intro hp hn
    rw [List.pairwise_cons] at hp
    unfold insT
    split
    · rename_i hlt
      rw [List.pairwise_cons]
      refine ⟨fun y hy => ?_, ih hp.2 (fun y hy => hn y (by simp [hy]))⟩
      rcases List.mem_append.1 ((insT_perm f1 h r).mem_iff.1 hy) with q | q
      · exact hp.1 y q
      · rw [List.mem_singleton.1 q]; exact hlt
    · rename_i hlt
      have hx : f1 h < f1 x := by have := hn x (by simp); omega
      rw [List.pairwise_cons]
      refine ⟨fun y hy => ?_, List.pairwise_cons.2 hp⟩
      rcases List.mem_cons.1 hy with q | q
      · rw [q]; exact hx
      · have := hp.1 y q; omega
theorem cellsT_snoc (who : Nat → Int) (ks : List (Fin 128)) (k : Fin 128) : cellsT who (ks ++ [k]) = cellsT who ks ++ encT who k := by
  apply List.ext_getElem?
  intro j
  have hl := cellsT_len who ks
  have hget := cellsT_get who
  by_cases h1 : j < ks.length * 2
  · rw [List.getElem?_append_left (by omega), hget _ j (by rw [List.length_append]; omega), hget _ j h1]
    have e : (ks ++ [k]).toArray[j / 2]! = ks.toArray[j / 2]! := by
      rw [getElem!_pos _ _ (by simp; omega), getElem!_pos _ _ (by simp; omega)]
      simp only [List.getElem_toArray]
      rw [List.getElem_append_left (by omega)]
    rw [e]
  · rw [List.getElem?_append_right (by omega), hl]
    by_cases h2 : j < ks.length * 2 + 2
    · rw [hget _ j (by rw [List.length_append]; simp only [List.length_singleton]; omega)]
      have e : (ks ++ [k]).toArray[j / 2]! = k := by
        have hj2 : j / 2 = ks.length := by omega
        rw [getElem!_pos _ _ (by simp; omega)]
        simp only [List.getElem_toArray]
        rw [List.getElem_append_right (by omega)]
        simp
      rw [e]
      have : j - ks.length * 2 = 0 ∨ j - ks.length * 2 = 1 := by omega
      rcases this with q | q
      · rw [q, show j % 2 = 0 by omega]; rfl
      · rw [q, show j % 2 = 1 by omega]; rfl
    · rw [List.getElem?_eq_none (by rw [cellsT_len, List.length_append]; simp only [List.length_singleton]; omega), List.getElem?_eq_none (by simp [encT]; omega)]
set_option maxHeartbeats 8000000 in
set_option maxRecDepth 100000 in
theorem takeHold_calls (p0 : Int) (A0 : Option Addr) (n0 c0 : Nat) (A1 : Option Addr) (c1 : Nat) (who : Nat → Int) (ks kt : List (Fin 128)) (hk : Fin 128) (h0 h1 : Int) (e0 : who hk.val = h0) (e1 : (hk.val : Int) = h1) (w : World) (hn : ks.length ≤ 1000) (hp : kt.Perm (ks ++ [hk])) (hs : kt.Pairwise (fun a b => a.val ≤ b.val))
    (hvalid : ∀ W, Below w.heap.size w W → Calls Try.prog 26 #[.agg #[.int .i16 p0, .slice A0 n0 c0], .slice A1 ks.length c1] W fun e w' => e = .returned (.bool true) ∧ Below W.heap.size W w')
    (hhold : ∀ W, Below w.heap.size w W → Calls Try.prog 27 #[.agg #[.int .i16 p0, .slice A0 n0 c0], .agg #[.int .i16 h0, .int .i8 h1]] W fun e w' => e = .returned (.bool true) ∧ Below W.heap.size W w')
    (hcont : ∀ W b, Below w.heap.size w W → W.heap[b]? = some (.cells #[.int .i16 h0, .int .i8 h1] 38 (0, 0)) → Calls Try.prog 28 #[.slice A1 ks.length c1, .func (.func 29) #[] #[.pointer (some ⟨b, 0, none⟩)]] W fun e w' => e = .returned (.bool false) ∧ Below W.heap.size W w')
    (hclone : ∀ W, Below w.heap.size w W → Calls Try.prog 30 #[.slice A1 ks.length c1] W fun e w' => ∃ v : Value, e = .returned v ∧ w'.ownsRow W.heap.size 38 2 v ks.length (cellsT who ks) ∧ Below W.heap.size W w') :
    Calls Try.prog 11 #[.agg #[.int .i16 p0, .slice A0 n0 c0], .slice A1 ks.length c1, .agg #[.int .i16 h0, .int .i8 h1]] w fun e w' => ∃ v : Value, e = .returned (.tuple #[v, .int .i64 0]) ∧ w'.ownsRow w.heap.size 38 2 v (ks.length + 1) (cellsT who kt) ∧ Below w.heap.size w w' := by
  have hs1 := take_size w (.cells #[.int .i16 p0, .slice A0 n0 c0] 35)
  obtain ⟨W0, hW0⟩ : ∃ W0, W0 = (w.alloc (.cells #[.int .i16 p0, .slice A0 n0 c0] 35)).alloc (.cells #[.int .i16 h0, .int .i8 h1] 38) := ⟨_, rfl⟩
  have hs2 : W0.heap.size = w.heap.size + 2 := by rw [hW0, take_size]; omega
  have hB0 : Below w.heap.size w W0 := by rw [hW0]; exact Below.alloc (Below.alloc (Below.refl _ _) (Nat.le_refl _) _) (by omega) _
  have hbp0 : W0.heap[w.heap.size]? = some (.cells #[.int .i16 p0, .slice A0 n0 c0] 35 (0, 0)) := by rw [hW0]; exact (Below.heap_alloc _ _ _ (by omega)).trans (heap_alloc_new w _)
  have hbh0 : W0.heap[w.heap.size + 1]? = some (.cells #[.int .i16 h0, .int .i8 h1] 38 (0, 0)) := by
    have := heap_alloc_new (w.alloc (.cells #[.int .i16 p0, .slice A0 n0 c0] 35)) (.cells #[.int .i16 h0, .int .i8 h1] 38)
    rw [hs1] at this
    rw [hW0]; exact this
  have hcp0 := blk2_ hbp0
  have hch0 := blk2_ hbh0
  have hkeep : ∀ W, Below W0.heap.size W0 W → (W.cell? ⟨w.heap.size, 0, none⟩ = some (.int .i16 p0) ∧ W.cell? ⟨w.heap.size, 1, none⟩ = some (.slice A0 n0 c0)) ∧ (W.cell? ⟨w.heap.size + 1, 0, none⟩ = some (.int .i16 h0) ∧ W.cell? ⟨w.heap.size + 1, 1, none⟩ = some (.int .i8 h1)) ∧ W.heap[w.heap.size + 1]? = some (.cells #[.int .i16 h0, .int .i8 h1] 38 (0, 0)) ∧ Below w.heap.size w W := fun W q =>
    ⟨blk2_ ((q.block _ (by omega)).trans hbp0), blk2_ ((q.block _ (by omega)).trans hbh0), (q.block _ (by omega)).trans hbh0, hB0.trans (q.mono (by omega))⟩
  have hv := hvalid W0 hB0
  clear hvalid
  obtain ⟨hcp0a, hcp0b⟩ := hcp0
  obtain ⟨hch0a, hch0b⟩ := hch0
  subst hW0
  go_enter Try.func11, Try.ntmps11
  go_wp2_with (first | (go_at_call 26; refine hv.mono ?_; rintro e w1 ⟨rfl, hB1⟩; obtain ⟨⟨k1, k2⟩, ⟨k3, k4⟩, k5, k6⟩ := hkeep _ hB1) | (go_at_call 27; refine (hhold _ k6).mono ?_; rintro e w2 ⟨rfl, hB2⟩; have hB2' := hB1.trans (hB2.mono hB1.size); obtain ⟨⟨j1, j2⟩, ⟨j3, j4⟩, j5, j6⟩ := hkeep _ hB2') | (go_at_call 28; refine (hcont _ _ j6 j5).mono ?_; rintro e w3 ⟨rfl, hB3⟩; have hB3' := hB2'.trans (hB3.mono hB2'.size); obtain ⟨⟨m1, m2⟩, ⟨m3, m4⟩, m5, m6⟩ := hkeep _ hB3'))
  have hlt : w.heap.size + 1 < w3.heap.size := by have := hB3'.size; omega
  have hbo := m6.size
  have hBa : Below w.heap.size w (w3.alloc (.cells #[.int .i16 h0, .int .i8 h1] 38)) := Below.alloc m6 m6.size _
  have hnw := heap_alloc_new w3 (.cells #[.int .i16 h0, .int .i8 h1] 38)
  have hsa := take_size w3 (.cells #[.int .i16 h0, .int .i8 h1] 38)
  have hlta : w.heap.size + 1 < (w3.alloc (.cells #[.int .i16 h0, .int .i8 h1] 38)).heap.size := by rw [hsa]; omega
  have hlt3 : w3.heap.size < (w3.alloc (.cells #[.int .i16 h0, .int .i8 h1] 38)).heap.size := by rw [hsa]; omega
  have hH : Hid (cellsT who ks ++ [.int .i16 h0, .int .i8 h1] = cellsT who (ks ++ [hk])) := by
    show _ = _
    rw [cellsT_snoc]
    unfold encT
    rw [e0, e1]
  clear hhold hcont hv hcp0a hcp0b hch0a hch0b k1 k2 k3 k4 k5 k6 j1 j2 j3 j4 j5 j6 hB1 hB2 hB2' hbp0 hbh0 e0 e1 hs1 hs2
  go_region_law (first | (go_simp; go_at_call 30; refine (hclone _ (by first | exact m6.drew | exact hBa.drew | exact m6 | exact hBa)).mono ?_; rintro e w4 ⟨v, rfl, hoC, hBC⟩; have hB4 : Below w.heap.size w w4 := (by first | exact m6.drew.trans (hBC.mono hbo) | exact hBa.drew.trans (hBC.mono hBa.size) | exact m6.trans (hBC.mono hbo) | exact hBa.trans (hBC.mono hBa.size)); have hoD : w4.ownsRow w.heap.size 38 2 v ks.length (cellsT who ks) := own_weaken hoC (by first | exact hbo | exact hBa.size | exact hBa.drew.size); obtain ⟨x3, x4⟩ := blk2_ ((hBC.block (w.heap.size + 1) (by first | exact hlt | exact hlta)).trans (by first | exact m5 | exact (Below.heap_alloc w3 _ _ hlt).trans m5))) | (refine step_append_cells rfl (.tmp 24) (.tmp 26) 32 38 (.agg #[.int .i16 0, .int .i8 0]) 2 4 rfl Try.underlying32 (show (Try.prog.info? 38).map (fun i => (i.zero, i.size, i.bytes)) = some (some (.agg #[.int .i16 0, .int .i8 0]), 2, 4) by kernel_rfl) rfl (by omega) (by omega) w.heap.size v ks.length (cellsT who ks) [.int .i16 h0, .int .i8 h1] rfl (by simp [Value.oneCell']) w4.heap.size (by simp [Act.eval, Act.put]) (by simp [Act.eval, Act.put]) (by first | exact own_alloc hoD _ | exact hoD) (by exact heap_alloc_new w4 _) (by first | exact hB4.size | exact (Below.alloc hB4 hB4.size _).size) (by omega) ?_; intro gb cap w5 ho5 hg5) | (refine step_append_cells rfl (.tmp 24) (.tmp 26) 32 38 (.agg #[.int .i16 0, .int .i8 0]) 2 4 rfl Try.underlying32 (show (Try.prog.info? 38).map (fun i => (i.zero, i.size, i.bytes)) = some (some (.agg #[.int .i16 0, .int .i8 0]), 2, 4) by kernel_rfl) rfl (by omega) (by omega) w.heap.size v ks.length (cellsT who ks) [.int .i16 h0, .int .i8 h1] rfl (by simp [Value.oneCell']) w3.heap.size (by simp [Act.eval, Act.put]) (by simp [Act.eval, Act.put]) (by first | exact own_alloc hoD _ | exact hoD) (by exact (hBC.block _ hlt3).trans hnw) (by first | exact hB4.size | exact (Below.alloc hB4 hB4.size _).size) (by omega) ?_; intro gb cap w5 ho5 hg5))
  all_goals (
    have hBw5 : Below w.heap.size w w5 := by
      first
      | exact (Below.alloc hB4 hB4.size _).drew.grown hg5 (Below.alloc hB4 hB4.size _).size (own_base hoD)
      | exact (Below.alloc hB4 hB4.size _).grown hg5 (Below.alloc hB4 hB4.size _).size (own_base hoD)
      | exact hB4.grown hg5 hB4.size (own_base hoD)
      | exact hB4.drew.grown hg5 hB4.size (own_base hoD)
    rw [hH.out] at ho5
    have hl : (ks ++ [hk]).length = ks.length + 1 := by simp
    have hsrt := sortT_calls who (ks ++ [hk]) kt hp hs (w0 := w) (base := w.heap.size) (g := gb) (cap := cap) (w := w5) (by rw [hl]; exact ho5) hBw5 (by rw [hl]; omega)
    rw [hl] at hsrt
    clear ho5 hBw5 hg5
    go_wp2_with (go_at_call 31; refine hsrt.mono ?_; rintro e w6 ⟨rfl, ho6, hB6⟩)
    go_ret2
    exact ⟨_, rfl, ho6, hB6⟩)
set_option maxHeartbeats 8000000 in
set_option maxRecDepth 100000 in
theorem takeHold_err (p0 : Int) (A0 : Option Addr) (n0 c0 : Nat) (A1 : Option Addr) (n c1 : Nat) (h0 h1 : Int) (w : World) (vb hb cb : Bool) (hne : vb = false ∨ hb = false ∨ cb = true)
    (hvalid : ∀ W, Below w.heap.size w W → Calls Try.prog 26 #[.agg #[.int .i16 p0, .slice A0 n0 c0], .slice A1 n c1] W fun e w' => e = .returned (.bool vb) ∧ Below W.heap.size W w')
    (hhold : vb = true → ∀ W, Below w.heap.size w W → Calls Try.prog 27 #[.agg #[.int .i16 p0, .slice A0 n0 c0], .agg #[.int .i16 h0, .int .i8 h1]] W fun e w' => e = .returned (.bool hb) ∧ Below W.heap.size W w')
    (hcont : vb = true → hb = true → ∀ W b, Below w.heap.size w W → W.heap[b]? = some (.cells #[.int .i16 h0, .int .i8 h1] 38 (0, 0)) → Calls Try.prog 28 #[.slice A1 n c1, .func (.func 29) #[] #[.pointer (some ⟨b, 0, none⟩)]] W fun e w' => e = .returned (.bool cb) ∧ Below W.heap.size W w') :
    Calls Try.prog 11 #[.agg #[.int .i16 p0, .slice A0 n0 c0], .slice A1 n c1, .agg #[.int .i16 h0, .int .i8 h1]] w fun e w' => e = .returned (.tuple #[.slice none 0 0, .int .i64 (if vb = false then 1 else if hb = false then 2 else 4)]) ∧ Below w.heap.size w w' := by
  have hs1 := take_size w (.cells #[.int .i16 p0, .slice A0 n0 c0] 35)
  obtain ⟨W0, hW0⟩ : ∃ W0, W0 = (w.alloc (.cells #[.int .i16 p0, .slice A0 n0 c0] 35)).alloc (.cells #[.int .i16 h0, .int .i8 h1] 38) := ⟨_, rfl⟩
  have hs2 : W0.heap.size = w.heap.size + 2 := by rw [hW0, take_size]; omega
  have hB0 : Below w.heap.size w W0 := by rw [hW0]; exact Below.alloc (Below.alloc (Below.refl _ _) (Nat.le_refl _) _) (by omega) _
  have hbp0 : W0.heap[w.heap.size]? = some (.cells #[.int .i16 p0, .slice A0 n0 c0] 35 (0, 0)) := by rw [hW0]; exact (Below.heap_alloc _ _ _ (by omega)).trans (heap_alloc_new w _)
  have hbh0 : W0.heap[w.heap.size + 1]? = some (.cells #[.int .i16 h0, .int .i8 h1] 38 (0, 0)) := by
    have := heap_alloc_new (w.alloc (.cells #[.int .i16 p0, .slice A0 n0 c0] 35)) (.cells #[.int .i16 h0, .int .i8 h1] 38)
    rw [hs1] at this
    rw [hW0]; exact this
  have hcp0 := blk2_ hbp0
  have hch0 := blk2_ hbh0
  have hkeep : ∀ W, Below W0.heap.size W0 W → (W.cell? ⟨w.heap.size, 0, none⟩ = some (.int .i16 p0) ∧ W.cell? ⟨w.heap.size, 1, none⟩ = some (.slice A0 n0 c0)) ∧ (W.cell? ⟨w.heap.size + 1, 0, none⟩ = some (.int .i16 h0) ∧ W.cell? ⟨w.heap.size + 1, 1, none⟩ = some (.int .i8 h1)) ∧ W.heap[w.heap.size + 1]? = some (.cells #[.int .i16 h0, .int .i8 h1] 38 (0, 0)) ∧ Below w.heap.size w W := fun W q =>
    ⟨blk2_ ((q.block _ (by omega)).trans hbp0), blk2_ ((q.block _ (by omega)).trans hbh0), (q.block _ (by omega)).trans hbh0, hB0.trans (q.mono (by omega))⟩
  have hv := hvalid W0 hB0
  clear hvalid
  obtain ⟨hcp0a, hcp0b⟩ := hcp0
  obtain ⟨hch0a, hch0b⟩ := hch0
  subst hW0
  cases vb with
  | false =>
    clear hhold hcont hne
    rw [if_pos rfl]
    go_enter Try.func11, Try.ntmps11
    go_wp2_with (go_at_call 26; refine hv.mono ?_; rintro e w1 ⟨rfl, hB1⟩; obtain ⟨⟨k1, k2⟩, ⟨k3, k4⟩, k5, k6⟩ := hkeep _ hB1)
    go_ret2
    exact ⟨rfl, k6⟩
  | true =>
    have hh2 := hhold rfl
    clear hhold
    rw [if_neg (by decide)]
    cases hb with
    | false =>
      clear hcont hne
      rw [if_pos rfl]
      go_enter Try.func11, Try.ntmps11
      go_wp2_with (first | (go_at_call 26; refine hv.mono ?_; rintro e w1 ⟨rfl, hB1⟩; obtain ⟨⟨k1, k2⟩, ⟨k3, k4⟩, k5, k6⟩ := hkeep _ hB1) | (go_at_call 27; refine (hh2 _ k6).mono ?_; rintro e w2 ⟨rfl, hB2⟩; have hB2' := hB1.trans (hB2.mono hB1.size); obtain ⟨⟨j1, j2⟩, ⟨j3, j4⟩, j5, j6⟩ := hkeep _ hB2'))
      go_ret2
      exact ⟨rfl, j6⟩
    | true =>
      have hc2 := hcont rfl rfl
      clear hcont
      obtain rfl : cb = true := by simpa using hne
      clear hne
      rw [if_neg (by decide)]
      go_enter Try.func11, Try.ntmps11
      go_wp2_with (first | (go_at_call 26; refine hv.mono ?_; rintro e w1 ⟨rfl, hB1⟩; obtain ⟨⟨k1, k2⟩, ⟨k3, k4⟩, k5, k6⟩ := hkeep _ hB1) | (go_at_call 27; refine (hh2 _ k6).mono ?_; rintro e w2 ⟨rfl, hB2⟩; have hB2' := hB1.trans (hB2.mono hB1.size); obtain ⟨⟨j1, j2⟩, ⟨j3, j4⟩, j5, j6⟩ := hkeep _ hB2') | (go_at_call 28; refine (hc2 _ _ j6 j5).mono ?_; rintro e w3 ⟨rfl, hB3⟩; have hB3' := hB2'.trans (hB3.mono hB2'.size); obtain ⟨⟨m1, m2⟩, ⟨m3, m4⟩, m5, m6⟩ := hkeep _ hB3'))
      go_ret2
      exact ⟨rfl, m6⟩

/-! ### pairs: [2]int64 -/
theorem arr_blk2 {w : World} {g : Nat} {u v : Value} {t : TypeId} (h : w.heap[g]? = some (.cells #[u, v] t (0, 0))) : w.cell? ⟨g, 0, none⟩ = some u ∧ w.cell? ⟨g, 1, none⟩ = some v := by simp [World.cell?, h]
set_option maxHeartbeats 8000000 in
set_option maxRecDepth 100000 in
theorem eqA2_calls (a b c d : Int) (w : World) : Calls Try.prog 38 #[.agg #[.int .i64 a, .int .i64 b], .agg #[.int .i64 c, .int .i64 d]] w fun e w' => e = .returned (.bool (decide (a = c) && decide (b = d))) ∧ Below w.heap.size w w' := by
  have hs1 : (w.alloc (.cells #[.int .i64 a, .int .i64 b] 68)).heap.size = w.heap.size + 1 := by rw [World.alloc]; simp only [Array.size_push]
  obtain ⟨W0, hW0⟩ : ∃ W0, W0 = (w.alloc (.cells #[.int .i64 a, .int .i64 b] 68)).alloc (.cells #[.int .i64 c, .int .i64 d] 68) := ⟨_, rfl⟩
  have hB0 : Below w.heap.size w W0 := by rw [hW0]; exact Below.alloc (Below.alloc (Below.refl _ _) (Nat.le_refl _) _) (by omega) _
  have hb0 : W0.heap[w.heap.size]? = some (.cells #[.int .i64 a, .int .i64 b] 68 (0, 0)) := by rw [hW0]; exact (Below.heap_alloc _ _ _ (by omega)).trans (heap_alloc_new w _)
  have hb1 : W0.heap[w.heap.size + 1]? = some (.cells #[.int .i64 c, .int .i64 d] 68 (0, 0)) := by
    have := heap_alloc_new (w.alloc (.cells #[.int .i64 a, .int .i64 b] 68)) (.cells #[.int .i64 c, .int .i64 d] 68)
    rw [hs1] at this
    rw [hW0]; exact this
  obtain ⟨ha, hb⟩ := arr_blk2 hb0
  obtain ⟨hc, hd⟩ := arr_blk2 hb1
  subst hW0
  clear hb0 hb1 hs1
  by_cases e1 : a = c
  · have f1 : (a != c) = false := bne_eq_false_iff_eq.mpr e1
    have f1q : (a = c) = True := eq_true e1
    by_cases e2 : b = d
    · have f2 : (b != d) = false := bne_eq_false_iff_eq.mpr e2
      have f2q : (b = d) = True := eq_true e2
      rw [decide_eq_true e1, decide_eq_true e2]
      clear e1 e2
      go_enter Try.func38, Try.ntmps38
      go_wp2
      refine wp_loop_rounds 3 ?_
      rw [rounds_succ]
      go_wp2
      repeat (go_quiet (fail); try go_wp2)
      have hbq : (((w.alloc (.cells #[.int .i64 a, .int .i64 b] 68)).alloc (.cells #[.int .i64 c, .int .i64 d] 68)).drewN nq).cell? ⟨w.heap.size, 1, none⟩ = some (.int .i64 b) := hb
      have hdq : (((w.alloc (.cells #[.int .i64 a, .int .i64 b] 68)).alloc (.cells #[.int .i64 c, .int .i64 d] 68)).drewN nq).cell? ⟨w.heap.size + 1, 1, none⟩ = some (.int .i64 d) := hd
      have hBq := pw_below_drewN hB0 nq
      generalize ((w.alloc (.cells #[.int .i64 a, .int .i64 b] 68)).alloc (.cells #[.int .i64 c, .int .i64 d] 68)).drewN nq = W1 at hbq hdq hBq ⊢
      rw [rounds_succ]
      go_wp2
      repeat (go_quiet (fail); try go_wp2)
      rw [rounds_succ]
      go_wp2
      go_ret
      exact ⟨rfl, pw_below_drewN hBq _⟩
    · have f2 : (b != d) = true := bne_iff_ne.mpr e2
      have f2q : (b = d) = False := eq_false e2
      rw [decide_eq_true e1, decide_eq_false e2]
      clear e1 e2
      go_enter Try.func38, Try.ntmps38
      go_wp2
      refine wp_loop_rounds 3 ?_
      rw [rounds_succ]
      go_wp2
      repeat (go_quiet (fail); try go_wp2)
      have hbq : (((w.alloc (.cells #[.int .i64 a, .int .i64 b] 68)).alloc (.cells #[.int .i64 c, .int .i64 d] 68)).drewN nq).cell? ⟨w.heap.size, 1, none⟩ = some (.int .i64 b) := hb
      have hdq : (((w.alloc (.cells #[.int .i64 a, .int .i64 b] 68)).alloc (.cells #[.int .i64 c, .int .i64 d] 68)).drewN nq).cell? ⟨w.heap.size + 1, 1, none⟩ = some (.int .i64 d) := hd
      have hBq := pw_below_drewN hB0 nq
      generalize ((w.alloc (.cells #[.int .i64 a, .int .i64 b] 68)).alloc (.cells #[.int .i64 c, .int .i64 d] 68)).drewN nq = W1 at hbq hdq hBq ⊢
      rw [rounds_succ]
      go_wp2
      repeat (go_quiet (fail); try go_wp2)
      go_ret
      exact ⟨rfl, pw_below_drewN hBq _⟩
  · have f1 : (a != c) = true := bne_iff_ne.mpr e1
    have f1q : (a = c) = False := eq_false e1
    rw [decide_eq_false e1, Bool.false_and]
    clear e1
    go_enter Try.func38, Try.ntmps38
    go_wp2
    refine wp_loop_rounds 3 ?_
    rw [rounds_succ]
    go_wp2
    repeat (go_quiet (fail); try go_wp2)
    go_ret
    exact ⟨rfl, pw_below_drewN hB0 _⟩
def heldF (xs : Nat → Int) : Nat → Nat → Int → Int
  | 0, _, k => k
  | m + 1, t, k => if xs t = k then heldF xs m (t + 1) (k + 1) else -1
set_option maxHeartbeats 8000000 in
set_option maxRecDepth 100000 in
theorem heldA2_calls (A0 : Option Addr) (n c0 : Nat) (xs : Nat → Int) (a : Int) (w : World) (hcell : ∀ i, i < n → ∃ ad, A0 = some ad ∧ w.cell? (ad.add (i * 2)) = some (.int .i64 (xs (i * 2 + 0))) ∧ w.cell? ⟨(ad.add (i * 2)).block, (ad.add (i * 2)).off + 1, none⟩ = some (.int .i64 (xs (i * 2 + 1)))) (hn : n ≤ 1000000) (ha : 0 ≤ a ∧ a ≤ 1000000) :
    Calls Try.prog 22 #[.slice A0 n c0, .int .i64 a] w fun e w' => e = .returned (.int .i64 (heldF xs (n * 2) 0 a)) ∧ w' = w := by
  obtain ⟨r, hr⟩ : ∃ r, r = heldF xs (n * 2) 0 a := ⟨_, rfl⟩
  rw [← hr]
  go_enter Try.func22, Try.ntmps22
  go_wp2
  go_loopg [5, 1] n (fun m s5 s1 wr => ∃ i : Nat, s5 = .int .i64 (i : Int) ∧ s1 = .int .i64 (a + ((i * 2 : Nat) : Int)) ∧ i ≤ n ∧ n - i ≤ m ∧ heldF xs ((n - i) * 2) (i * 2) (a + ((i * 2 : Nat) : Int)) = r ∧ wr = w)
  case atStart => exact ⟨0, rfl, by simp, Nat.zero_le _, Nat.le_refl _, by simpa using hr.symm, rfl⟩
  case round =>
    as_aux_lemma =>
    obtain ⟨i, rfl, rfl, hin, hk, hV, rfl⟩ := hrel
    by_cases hlt : i < n
    · as_aux_lemma =>
      have hw3 : wrap64 ((i : Int) + 1) = (i : Int) + 1 := by simp only [wrap64]; omega
      have hd : (n - i) * 2 = (n - (i + 1)) * 2 + 2 := by omega
      rw [hd] at hV
      clear hd
      have q1 : n - (i + 1) < gk := by omega
      obtain ⟨ad, rfl, _, _⟩ := hcell i hlt
      go_wp2
      go_loopg [6, 1] 2 (fun m s6 s1 wr2 => ∃ j : Nat, s6 = .int .i64 (j : Int) ∧ s1 = .int .i64 (a + ((i * 2 + j : Nat) : Int)) ∧ j ≤ 2 ∧ 2 - j ≤ m ∧ heldF xs ((n - (i + 1)) * 2 + (2 - j)) (i * 2 + j) (a + ((i * 2 + j : Nat) : Int)) = r ∧ wr2 = wr)
      case atStart => exact ⟨0, rfl, rfl, Nat.zero_le _, Nat.le_refl _, hV, rfl⟩
      case round =>
        as_aux_lemma =>
        obtain ⟨j, rfl, rfl, hj, hk2, hV2, rfl⟩ := hrel
        rcases (show j = 0 ∨ j = 1 ∨ j = 2 by omega) with rfl | rfl | rfl
        · as_aux_lemma =>
          have hw1 : wrap64 (a + ((i * 2 + 0 : Nat) : Int) + 1) = a + ((i * 2 + 1 : Nat) : Int) := by simp only [wrap64]; omega
          have q2 : 2 - 1 < gk := by omega
          rw [show (n - (i + 1)) * 2 + (2 - 0) = (n - (i + 1)) * 2 + (2 - 1) + 1 by omega] at hV2
          simp only [heldF] at hV2
          obtain ⟨ad', e', hx0, hx1⟩ := hcell i hlt
          obtain rfl : ad = ad' := Option.some.inj e'
          have hx := hx0
          by_cases e1 : xs (i * 2 + 0) = a + ((i * 2 + 0 : Nat) : Int)
          · as_aux_lemma =>
            rw [if_pos e1, show a + ((i * 2 + 0 : Nat) : Int) + 1 = a + ((i * 2 + 1 : Nat) : Int) by omega, show i * 2 + 0 + 1 = i * 2 + 1 by omega] at hV2
            have f1 : (xs (i * 2 + 0) != a + ((i * 2 + 0 : Nat) : Int)) = false := bne_eq_false_iff_eq.mpr e1
            have f1q : (xs (i * 2 + 0) = a + ((i * 2 + 0 : Nat) : Int)) = True := eq_true e1
            have e1' : xs (i * 2) = a + (i : Int) * 2 := by rw [show i * 2 + 0 = i * 2 from rfl] at e1; rw [e1]; push_cast; rfl
            have g1 : (xs (i * 2) != a + (i : Int) * 2) = false := bne_eq_false_iff_eq.mpr e1'
            have g1q : (xs (i * 2) = a + (i : Int) * 2) = True := eq_true e1'
            clear e1 e1'
            go_wp2
            go_roundg (2 - 1)
            case measure => exact q2
            case rel => exact ⟨1, by simp, by first | rw [hw1] | (simp; done) | rfl | (congr 1; push_cast; omega), by omega, Nat.le_refl _, hV2, rfl⟩
          · as_aux_lemma =>
            rw [if_neg e1] at hV2
            have f1 : (xs (i * 2 + 0) != a + ((i * 2 + 0 : Nat) : Int)) = true := bne_iff_ne.mpr e1
            have f1q : (xs (i * 2 + 0) = a + ((i * 2 + 0 : Nat) : Int)) = False := eq_false e1
            have e1' : ¬ xs (i * 2) = a + (i : Int) * 2 := by rw [show i * 2 + 0 = i * 2 from rfl] at e1; intro h; apply e1; rw [h]; push_cast; rfl
            have g1 : (xs (i * 2) != a + (i : Int) * 2) = true := bne_iff_ne.mpr e1'
            have g1q : (xs (i * 2) = a + (i : Int) * 2) = False := eq_false e1'
            subst hV2
            clear e1 e1'
            go_wp2
            go_ret
            exact ⟨rfl, rfl⟩
        · as_aux_lemma =>
          have hw1 : wrap64 (a + ((i * 2 + 1 : Nat) : Int) + 1) = a + ((i * 2 + 2 : Nat) : Int) := by simp only [wrap64]; omega
          have q2 : 2 - 2 < gk := by omega
          rw [show (n - (i + 1)) * 2 + (2 - 1) = (n - (i + 1)) * 2 + (2 - 2) + 1 by omega] at hV2
          simp only [heldF] at hV2
          obtain ⟨ad', e', hx0, hx1⟩ := hcell i hlt
          obtain rfl : ad = ad' := Option.some.inj e'
          have hx := hx1
          by_cases e1 : xs (i * 2 + 1) = a + ((i * 2 + 1 : Nat) : Int)
          · as_aux_lemma =>
            rw [if_pos e1, show a + ((i * 2 + 1 : Nat) : Int) + 1 = a + ((i * 2 + 2 : Nat) : Int) by omega, show i * 2 + 1 + 1 = i * 2 + 2 by omega] at hV2
            have f1 : (xs (i * 2 + 1) != a + ((i * 2 + 1 : Nat) : Int)) = false := bne_eq_false_iff_eq.mpr e1
            have f1q : (xs (i * 2 + 1) = a + ((i * 2 + 1 : Nat) : Int)) = True := eq_true e1
            clear e1
            go_wp2
            go_roundg (2 - 2)
            case measure => exact q2
            case rel => exact ⟨2, by simp, by first | rw [hw1] | (simp; done) | rfl | (congr 1; push_cast; omega), by omega, Nat.le_refl _, hV2, rfl⟩
          · as_aux_lemma =>
            rw [if_neg e1] at hV2
            have f1 : (xs (i * 2 + 1) != a + ((i * 2 + 1 : Nat) : Int)) = true := bne_iff_ne.mpr e1
            have f1q : (xs (i * 2 + 1) = a + ((i * 2 + 1 : Nat) : Int)) = False := eq_false e1
            subst hV2
            clear e1
            go_wp2
            go_ret
            exact ⟨rfl, rfl⟩
        · as_aux_lemma =>
          go_wp2
          go_roundg (n - (i + 1))
          case measure => exact q1
          case rel => exact ⟨i + 1, by simp, by first | rfl | (congr 1; push_cast; omega), by omega, Nat.le_refl _, by rw [show (i + 1) * 2 = i * 2 + 2 by omega]; exact hV2, rfl⟩
    · obtain rfl : i = n := by omega
      rw [Nat.sub_self] at hV
      simp only [Nat.zero_mul, heldF] at hV
      subst hV
      go_wp2
      go_ret
      exact ⟨rfl, rfl⟩

end Go.Proofs.Ytadnngaaobgdgaa.H
