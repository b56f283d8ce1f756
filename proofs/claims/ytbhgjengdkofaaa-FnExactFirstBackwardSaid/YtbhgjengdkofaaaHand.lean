-- Mine: walks of functions that the print does not reach.
import Derived.Test.YtbhgjengdkofaaaProg
import Derived.Test.YtbhgjengdkofaaaShelf
import Derived.Test.YtbhgjengdkofaaaWWords
import Derived.Test.YtbhgjengdkofaaaWLast
import Derived.Test.YtbhgjengdkofaaaWMore
import Derived.Sort.WalkB12
import Derived.Lib.SlicesMore
import Derived.Lib.OwnBridge
import Derived.WalkKit
import Derived.Deep.LoopGhost
import Derived.Deep.RegionLaw
import Derived.Lib.LazyBuf
import Derived.Laws.IdiomCopy
import Derived.Shelf.GgSortFunc.RowK
import Derived.Lib.ConvBytes
import Derived.Laws.BytesArg
import Derived.Tactics
import Derived.KernelRfl
import Derived.BigQuiet
import Derived.WalkSpells
import Derived.Lib.SliceRun
import Derived.StillTailTactics
import Derived.Maps.OwnOps
import Derived.Maps.OwnSet
import Derived.Maps.Views
import Derived.Maps.Keyed
import Derived.StringKeys
import Derived.Shelf.SlSortCmp.NoneTotal
namespace Go.Proofs.Ytbhgjengdkofaaa.H
open Go.RowKit Go.Sort Go.Proofs.YtbhgjengdkofaaaW.PrintWords Go.Proofs.YtbhgjengdkofaaaW.PrintLast
set_option linter.unusedVariables false
set_option linter.unusedSimpArgs false
/-! ### an order that parts any two, and the list in its order -/
structure Tot {α : Type} (lt : α → α → Bool) : Prop where
  asym : ∀ a b, lt a b = true → lt b a = false
  eq : ∀ a b, lt a b = false → lt b a = false → a = b
  le : ∀ a b c, lt b a = false → lt c b = false → lt c a = false
def InOrd {α : Type} (lt : α → α → Bool) (l : List α) : Prop := l.Pairwise (fun a b => lt b a = false)
def scanAt {α : Type} [Inhabited α] (lt : α → α → Bool) (x : α) (out : List α) : Nat → Nat
  | 0 => 0
  | a + 1 => if lt x (out.getD a default) = true then scanAt lt x out a else a + 1
def putIn {α : Type} [Inhabited α] (lt : α → α → Bool) (x : α) (out : List α) : List α := out.take (scanAt lt x out out.length) ++ x :: out.drop (scanAt lt x out out.length)
def sortIn {α : Type} [Inhabited α] (lt : α → α → Bool) (l : List α) : List α := l.foldl (fun out x => putIn lt x out) []
theorem scanAt_spec {α : Type} [Inhabited α] (lt : α → α → Bool) (x : α) (out : List α) : ∀ n, scanAt lt x out n ≤ n ∧ (∀ j, scanAt lt x out n ≤ j → j < n → lt x (out.getD j default) = true) ∧ (0 < scanAt lt x out n → lt x (out.getD (scanAt lt x out n - 1) default) = false) := by
  intro n
  induction n with
  | zero => exact ⟨Nat.le_refl _, fun j _ h => absurd h (Nat.not_lt_zero _), fun h => absurd h (Nat.lt_irrefl _)⟩
  | succ n ih =>
    simp only [scanAt]
    by_cases c : lt x (out.getD n default) = true
    · rw [if_pos c]
      refine ⟨by omega, fun j h1 h2 => ?_, ih.2.2⟩
      by_cases e : j = n
      · rw [e]; exact c
      · exact ih.2.1 j h1 (by omega)
    · rw [if_neg c]
      refine ⟨Nat.le_refl _, fun j h1 h2 => by omega, fun _ => ?_⟩
      rw [Nat.add_sub_cancel]
      exact Bool.eq_false_iff.mpr c
theorem putIn_length {α : Type} [Inhabited α] (lt : α → α → Bool) (x : α) (out : List α) : (putIn lt x out).length = out.length + 1 := by
  unfold putIn
  have := (scanAt_spec lt x out out.length).1
  rw [List.length_append, List.length_cons, List.length_take, List.length_drop]
  omega
theorem putIn_perm {α : Type} [Inhabited α] (lt : α → α → Bool) (x : α) (out : List α) : (putIn lt x out).Perm (x :: out) := by
  unfold putIn
  have h : (List.take (scanAt lt x out out.length) out ++ x :: List.drop (scanAt lt x out out.length) out).Perm (x :: (List.take (scanAt lt x out out.length) out ++ List.drop (scanAt lt x out out.length) out)) := List.perm_middle
  rwa [List.take_append_drop] at h
theorem putIn_ord {α : Type} [Inhabited α] {lt : α → α → Bool} (T : Tot lt) (x : α) (out : List α) (h : InOrd lt out) : InOrd lt (putIn lt x out) := by
  unfold InOrd at h ⊢
  unfold putIn
  obtain ⟨s1, s2, s3⟩ := scanAt_spec lt x out out.length
  generalize scanAt lt x out out.length = at_ at s1 s2 s3
  have hp := List.pairwise_iff_getElem.1 h
  have hlow : ∀ j (hj : j < out.length), j < at_ → lt x out[j] = false := by
    intro j hj hja
    have e := s3 (by omega)
    rw [List.getD_eq_getElem?_getD, List.getElem?_eq_getElem (by omega), Option.getD_some] at e
    by_cases c : j = at_ - 1
    · subst c; exact e
    · exact T.le _ _ _ (hp j (at_ - 1) hj (by omega) (by omega)) e
  have hhigh : ∀ j (hj : j < out.length), at_ ≤ j → lt x out[j] = true := by
    intro j hj hja
    have e := s2 j hja hj
    rwa [List.getD_eq_getElem?_getD, List.getElem?_eq_getElem hj, Option.getD_some] at e
  rw [List.pairwise_append]
  refine ⟨h.sublist (List.take_sublist _ _), ?_, ?_⟩
  · rw [List.pairwise_cons]
    refine ⟨fun b hb => ?_, h.sublist (List.drop_sublist _ _)⟩
    obtain ⟨j, hj, rfl⟩ := List.getElem_of_mem hb
    rw [List.length_drop] at hj
    rw [List.getElem_drop]
    exact T.asym _ _ (hhigh (at_ + j) (by omega) (by omega))
  · intro a ha b hb
    obtain ⟨i, hi, rfl⟩ := List.getElem_of_mem ha
    rw [List.length_take] at hi
    rw [List.getElem_take]
    rcases List.mem_cons.1 hb with rfl | hb
    · exact hlow i (by omega) (by omega)
    · obtain ⟨j, hj, rfl⟩ := List.getElem_of_mem hb
      rw [List.length_drop] at hj
      rw [List.getElem_drop]
      exact hp i (at_ + j) (by omega) (by omega) (by omega)
theorem sortIn_go {α : Type} [Inhabited α] {lt : α → α → Bool} (T : Tot lt) : ∀ (l out : List α), InOrd lt out → InOrd lt (l.foldl (fun out x => putIn lt x out) out) ∧ (l.foldl (fun out x => putIn lt x out) out).Perm (out ++ l)
  | [], out, h => ⟨h, by rw [List.append_nil]; exact List.Perm.refl _⟩
  | x :: l, out, h => by
    obtain ⟨h1, h2⟩ := sortIn_go T l (putIn lt x out) (putIn_ord T x out h)
    refine ⟨h1, h2.trans ?_⟩
    have := (putIn_perm lt x out).append_right l
    refine this.trans ?_
    have h3 : (out ++ x :: l).Perm (x :: (out ++ l)) := List.perm_middle
    exact h3.symm
theorem sortIn_ord {α : Type} [Inhabited α] {lt : α → α → Bool} (T : Tot lt) (l : List α) : InOrd lt (sortIn lt l) := (sortIn_go T l [] List.Pairwise.nil).1
theorem sortIn_perm {α : Type} [Inhabited α] {lt : α → α → Bool} (T : Tot lt) (l : List α) : (sortIn lt l).Perm l := by
  have := (sortIn_go T l [] List.Pairwise.nil).2
  rwa [List.nil_append] at this
theorem sortIn_unique {α : Type} [Inhabited α] {lt : α → α → Bool} (T : Tot lt) (l m : List α) (h : InOrd lt m) (hp : m.Perm l) : m = sortIn lt l :=
  List.Perm.eq_of_pairwise (le := fun a b => lt b a = false) (fun a b _ _ h1 h2 => T.eq a b h2 h1) h (sortIn_ord T l) (hp.trans (sortIn_perm T l).symm)
theorem sortIn_snoc {α : Type} [Inhabited α] (lt : α → α → Bool) (l : List α) (x : α) : sortIn lt (l ++ [x]) = putIn lt x (sortIn lt l) := by
  unfold sortIn
  rw [List.foldl_append]
  rfl
/-- A record by its person, its station and its time. -/
def recLt (x y : Int × Int × Int) : Bool := decide (x.2.2 < y.2.2) || (decide (x.2.2 = y.2.2) && (decide (x.1 < y.1) || (decide (x.1 = y.1) && decide (x.2.1 < y.2.1))))
theorem recLt_iff (x y : Int × Int × Int) : recLt x y = true ↔ x.2.2 < y.2.2 ∨ (x.2.2 = y.2.2 ∧ (x.1 < y.1 ∨ (x.1 = y.1 ∧ x.2.1 < y.2.1))) := by simp [recLt]
theorem recLt_not (x y : Int × Int × Int) : recLt x y = false ↔ ¬ (x.2.2 < y.2.2 ∨ (x.2.2 = y.2.2 ∧ (x.1 < y.1 ∨ (x.1 = y.1 ∧ x.2.1 < y.2.1)))) := by rw [← recLt_iff, Bool.not_eq_true]
theorem recTot : Tot recLt where
  asym a b h := by rw [recLt_iff] at h; rw [recLt_not]; omega
  eq a b h1 h2 := by
    rw [recLt_not] at h1 h2
    obtain ⟨a1, a2, a3⟩ := a
    obtain ⟨b1, b2, b3⟩ := b
    dsimp only at h1 h2
    have e1 : a1 = b1 := by omega
    have e2 : a2 = b2 := by omega
    have e3 : a3 = b3 := by omega
    rw [e1, e2, e3]
  le a b c h1 h2 := by rw [recLt_not] at *; omega
/-! ### the closure's compare -/
def cmpI (x y : Int) : Int := if x < y then -1 else if x > y then 1 else 0
set_option maxHeartbeats 4000000 in
theorem nan16 (a : Int) (w : World) : Calls Try.prog 34 #[.int .i16 a] w fun e w' => e = .returned (.bool false) ∧ w' = w := by
  go_enter Try.func34, Try.ntmps34
  go_wp2
  go_ret
  exact ⟨by simp, rfl⟩
set_option maxHeartbeats 4000000 in
theorem nan8 (a : Int) (w : World) : Calls Try.prog 35 #[.int .i8 a] w fun e w' => e = .returned (.bool false) ∧ w' = w := by
  go_enter Try.func35, Try.ntmps35
  go_wp2
  go_ret
  exact ⟨by simp, rfl⟩
set_option maxHeartbeats 4000000 in
theorem comp16 (a b : Int) (w : World) : Calls Try.prog 29 #[.int .i16 a, .int .i16 b] w fun e w' => e = .returned (.int .i64 (cmpI a b)) ∧ w' = w := by
  go_enter Try.func29, Try.ntmps29
  go_wp2_with (go_at_call 34; refine (nan16 _ _).mono ?_; rintro e w' ⟨rfl, hw⟩; rw [hw])
  all_goals (go_ret; refine ⟨?_, rfl⟩; unfold cmpI; (repeat' split) <;> first | rfl | (exfalso; omega))
set_option maxHeartbeats 4000000 in
theorem comp8 (a b : Int) (w : World) : Calls Try.prog 30 #[.int .i8 a, .int .i8 b] w fun e w' => e = .returned (.int .i64 (cmpI a b)) ∧ w' = w := by
  go_enter Try.func30, Try.ntmps30
  go_wp2_with (go_at_call 35; refine (nan8 _ _).mono ?_; rintro e w' ⟨rfl, hw⟩; rw [hw])
  all_goals (go_ret; refine ⟨?_, rfl⟩; unfold cmpI; (repeat' split) <;> first | rfl | (exfalso; omega))
def orOf (a b c : Int) : Int := if a ≠ 0 then a else if b ≠ 0 then b else c
theorem blk3_ {w : World} {g : Nat} {u v x : Value} {t : TypeId} (h : w.heap[g]? = some (.cells #[u, v, x] t (0, 0))) : w.cell? ⟨g, 0, none⟩ = some u ∧ w.cell? ⟨g, 1, none⟩ = some v ∧ w.cell? ⟨g, 2, none⟩ = some x := by simp [World.cell?, h]
set_option maxHeartbeats 4000000 in
theorem or_calls (g : Nat) (a b c : Int) (w : World) (hb : w.heap[g]? = some (.cells #[.int .i64 a, .int .i64 b, .int .i64 c] 3 (0, 0))) : Calls Try.prog 28 #[.slice (some ⟨g, 0, none⟩) 3 3] w fun e w' => e = .returned (.int .i64 (orOf a b c)) ∧ w' = w := by
  obtain ⟨h0, h1, h2⟩ := blk3_ hb
  obtain ⟨r, hr⟩ : ∃ r, r = orOf a b c := ⟨_, rfl⟩
  rw [← hr]
  unfold orOf at hr
  by_cases ea : a = 0
  · rw [if_neg (by omega)] at hr
    have fa : (a != 0) = false := bne_eq_false_iff_eq.mpr ea
    have fa1 : (a = 0) = True := eq_true ea
    by_cases eb : b = 0
    · rw [if_neg (by omega)] at hr
      have fb : (b != 0) = false := bne_eq_false_iff_eq.mpr eb
      have fb1 : (b = 0) = True := eq_true eb
      by_cases ec : c = 0
      · have fc : (c != 0) = false := bne_eq_false_iff_eq.mpr ec
        have fc1 : (c = 0) = True := eq_true ec
        obtain rfl : r = 0 := by omega
        clear ea eb ec hr
        go_enter Try.func28, Try.ntmps28
        go_wp2
        refine wp_loop_rounds 4 ?_
        rw [rounds_succ]
        go_wp2
        rw [rounds_succ]
        go_wp2
        rw [rounds_succ]
        go_wp2
        rw [rounds_succ]
        go_wp2
        go_ret
        exact ⟨rfl, rfl⟩
      · have fc : (c != 0) = true := bne_iff_ne.mpr ec
        have fc1 : (c = 0) = False := eq_false ec
        subst hr
        clear ea eb ec
        go_enter Try.func28, Try.ntmps28
        go_wp2
        refine wp_loop_rounds 3 ?_
        rw [rounds_succ]
        go_wp2
        rw [rounds_succ]
        go_wp2
        rw [rounds_succ]
        go_wp2
        go_ret
        exact ⟨rfl, rfl⟩
    · rw [if_pos (by omega)] at hr
      have fb : (b != 0) = true := bne_iff_ne.mpr eb
      have fb1 : (b = 0) = False := eq_false eb
      subst hr
      clear ea eb
      go_enter Try.func28, Try.ntmps28
      go_wp2
      refine wp_loop_rounds 2 ?_
      rw [rounds_succ]
      go_wp2
      rw [rounds_succ]
      go_wp2
      go_ret
      exact ⟨rfl, rfl⟩
  · rw [if_pos (by omega)] at hr
    have fa : (a != 0) = true := bne_iff_ne.mpr ea
    have fa1 : (a = 0) = False := eq_false ea
    subst hr
    clear ea
    go_enter Try.func28, Try.ntmps28
    go_wp2
    refine wp_loop_rounds 1 ?_
    rw [rounds_succ]
    go_wp2
    go_ret
    exact ⟨rfl, rfl⟩
def encR (x : Int × Int × Int) : List Value := [.int .i8 x.1, .int .i8 x.2.1, .int .i16 x.2.2]
def cfR (x y : Int × Int × Int) : Int := orOf (cmpI x.2.2 y.2.2) (cmpI x.1 y.1) (cmpI x.2.1 y.2.1)
theorem ltR (x y : Int × Int × Int) : ltOf cfR x y = recLt x y := by
  have h : ∀ b : Bool, (b = true ↔ recLt x y = true) → b = recLt x y := fun b hb => by cases b <;> cases h2 : recLt x y <;> simp_all
  apply h
  rw [recLt_iff]
  unfold ltOf cfR orOf cmpI
  rw [decide_eq_true_iff]
  (repeat' split) <;> omega
theorem swoR : SWO (ltOf cfR) where
  irrefl x := by rw [ltR, recLt_not]; omega
  trans x y z h1 h2 := by rw [ltR, recLt_iff] at *; omega
  ntrans x y z h1 h2 := by rw [ltR, recLt_not] at *; omega
set_option maxHeartbeats 4000000 in
set_option maxRecDepth 100000 in
theorem recCmp (x y : Int × Int × Int) (W : World) : Calls Try.prog 27 #[.agg (encR x).toArray, .agg (encR y).toArray] W fun e w' => e = .returned (.int .i64 (cfR x y)) ∧ ∃ q os', w' = grow (W.drewN q) os' := by
  unfold encR cfR
  obtain ⟨a0, a1, a2⟩ := x
  obtain ⟨b0, b1, b2⟩ := y
  dsimp only
  have hs1 : (W.alloc (.cells #[.int .i8 a0, .int .i8 a1, .int .i16 a2] 38)).heap.size = W.heap.size + 1 := by rw [World.alloc]; simp only [Array.size_push]
  obtain ⟨W0, hW0⟩ : ∃ W0, W0 = (W.alloc (.cells #[.int .i8 a0, .int .i8 a1, .int .i16 a2] 38)).alloc (.cells #[.int .i8 b0, .int .i8 b1, .int .i16 b2] 38) := ⟨_, rfl⟩
  have hb0 : W0.heap[W.heap.size]? = some (.cells #[.int .i8 a0, .int .i8 a1, .int .i16 a2] 38 (0, 0)) := by rw [hW0]; exact (Below.heap_alloc _ _ _ (by omega)).trans (heap_alloc_new W _)
  have hb1 : W0.heap[W.heap.size + 1]? = some (.cells #[.int .i8 b0, .int .i8 b1, .int .i16 b2] 38 (0, 0)) := by
    have := heap_alloc_new (W.alloc (.cells #[.int .i8 a0, .int .i8 a1, .int .i16 a2] 38)) (.cells #[.int .i8 b0, .int .i8 b1, .int .i16 b2] 38)
    rw [hs1] at this
    rw [hW0]; exact this
  obtain ⟨c0, c1, c2⟩ := blk3_ hb0
  obtain ⟨d0, d1, d2⟩ := blk3_ hb1
  have hg : Hid (W0 = grow W #[.cells #[.int .i8 a0, .int .i8 a1, .int .i16 a2] 38 (0, 0), .cells #[.int .i8 b0, .int .i8 b1, .int .i16 b2] 38 (0, 0)]) := by show _ = _; rw [hW0, alloc_eq_grow, alloc_eq_grow, grow_grow]; rfl
  go_enter Try.func27, Try.ntmps27
  go_wp2
  rw [← hW0]
  clear hW0 hb0 hb1
  refine wp_region_still_tail 15 (by kernel_rfl) (by kernel_rfl) ?_
  simp only [List.take_succ_cons, List.take_zero, List.drop_succ_cons, List.drop_zero]
  have c0' : ({ W0 with drawn := W0.drawn + 1 } : World).cell? ⟨W.heap.size, 0, none⟩ = some (.int .i8 a0) := c0
  have c1' : ({ W0 with drawn := W0.drawn + 1 } : World).cell? ⟨W.heap.size, 1, none⟩ = some (.int .i8 a1) := c1
  have c2' : ({ W0 with drawn := W0.drawn + 1 } : World).cell? ⟨W.heap.size, 2, none⟩ = some (.int .i16 a2) := c2
  have d0' : ({ W0 with drawn := W0.drawn + 1 } : World).cell? ⟨W.heap.size + 1, 0, none⟩ = some (.int .i8 b0) := d0
  have d1' : ({ W0 with drawn := W0.drawn + 1 } : World).cell? ⟨W.heap.size + 1, 1, none⟩ = some (.int .i8 b1) := d1
  have d2' : ({ W0 with drawn := W0.drawn + 1 } : World).cell? ⟨W.heap.size + 1, 2, none⟩ = some (.int .i16 b2) := d2
  have hg' : Hid (({ W0 with drawn := W0.drawn + 1 } : World) = grow (W.drewN 1) #[.cells #[.int .i8 a0, .int .i8 a1, .int .i16 a2] 38 (0, 0), .cells #[.int .i8 b0, .int .i8 b1, .int .i16 b2] 38 (0, 0)]) := by show _ = _; rw [hg.out]; rfl
  clear c0 c1 c2 d0 d1 d2 hg
  generalize ({ W0 with drawn := W0.drawn + 1 } : World) = W1 at c0' c1' c2' d0' d1' d2' hg' ⊢
  iterate 4 still_step
  still_call (comp16 a2 b2 W1)
  iterate 4 still_step
  still_call (comp8 a0 b0 W1)
  iterate 4 still_step
  still_call (comp8 a1 b1 W1)
  refine wpStill_nil ?_
  go_wp2_with (go_at_call 28; refine (or_calls W1.heap.size (cmpI a2 b2) (cmpI a0 b0) (cmpI a1 b1) _ ?hb_).mono ?_; (case hb_ => exact heap_alloc_new W1 _); rintro e w1 ⟨rfl, rfl⟩)
  go_ret
  exact ⟨rfl, 1, _, by rw [hg'.out, alloc_eq_grow, grow_grow]⟩
def cellsR (ks : List (Int × Int × Int)) : List Value := (flatK encR 3 ks.toArray).toList
theorem cellsR_len (ks : List (Int × Int × Int)) : (cellsR ks).length = ks.length * 3 := by
  unfold cellsR
  rw [Array.length_toList, size_flatK, List.size_toArray]
set_option maxHeartbeats 4000000 in
/-- The sort of records: what it leaves is the one list in their order. -/
theorem sortR_calls (ks kt : List (Int × Int × Int)) (hkt : kt = sortIn recLt ks) {base g cap : Nat} {w0 w : World} (ho : w.ownsRow base 38 3 (.slice (some ⟨g, 0, none⟩) ks.length cap) ks.length (cellsR ks)) (hB : Below base w0 w) (hn : ks.length ≤ 100000) :
    Calls Try.prog 26 #[.slice (some ⟨g, 0, none⟩) ks.length cap, .func (.func 27) #[] #[]] w fun e w' => e = .returned (.tuple #[]) ∧ w'.ownsRow base 38 3 (.slice (some ⟨g, 0, none⟩) ks.length cap) ks.length (cellsR kt) ∧ Below base w0 w' := by
  rcases ho.2 with ⟨e0, _⟩ | ⟨g', cap', cur, e0, hb, hg, hnc, hm, hsz, ht⟩
  · cases e0
  · injection e0 with e1 _ e3
    injection e1 with e1
    injection e1 with e1
    subst e1; subst e3
    have hlt : g < w.heap.size := (Array.getElem?_eq_some_iff.1 hg).1
    have hfl : (flatK encR 3 ks.toArray).size = ks.length * 3 := by rw [size_flatK, List.size_toArray]
    have hH : HoldsK encR 3 w g 0 ks.toArray := by
      intro j hj
      rw [hfl] at hj
      have hjc : j < cur.size := by rw [hsz]; exact Nat.lt_of_lt_of_le hj (Nat.mul_le_mul_right 3 hnc)
      have hc : cur[j]? = some ((flatK encR 3 ks.toArray)[j]!) := by
        have h1 : (cur.toList.take (ks.length * 3))[j]? = (cellsR ks)[j]? := by rw [ht]
        rw [List.getElem?_take, if_pos hj, Array.getElem?_toList] at h1
        rw [h1]
        unfold cellsR
        rw [Array.getElem?_toList, getElem!_pos _ j (by rw [hfl]; exact hj), Array.getElem?_eq_getElem (by rw [hfl]; exact hj)]
      refine ⟨?_, ?_⟩
      · simp only [World.cell?, Nat.zero_add, hg]; exact hc
      · simp [World.frozen?, hg]
    have eg : ∀ args w, (callFunc 27 args).run Try.prog w = .ok (.enter 27 args) w := enters_of Try.func27 (by kernel_rfl) rfl
    have hcmp : CmpLays Try.prog 27 #[] encR 3 cfR g 0 ks.toArray.size w := fun _ _ _ _ x y => recCmp x y _
    have hcon := AnyQ.slices_SortFunc Try.sortRow 3 Try.isAgg38 Try.sizeOf38 encR (fun _ => rfl) (fun x v hv => by simp [encR] at hv; rcases hv with rfl | rfl | rfl <;> rfl) cfR swoR 27 #[] g 0 cap ks.toArray w eg hcmp hH hlt (by rw [List.size_toArray]; omega)
    refine Calls.mono (show Calls Try.prog 26 _ w _ from hcon) ?_
    rintro e w' ⟨rfl, d', n, os, hpm, hso, rfl⟩
    have hd : d'.toList = kt := by
      obtain ⟨q1, _, q3⟩ := hpm
      have e1 : d'.extract 0 ks.toArray.size = d' := by rw [← q1]; exact Array.extract_size
      rw [e1, Array.extract_size, List.toList_toArray] at q3
      rw [hkt]
      refine sortIn_unique recTot ks d'.toList ?_ q3
      unfold InOrd
      rw [List.pairwise_iff_getElem]
      intro i j hi hj hij
      have hh := hso i j (Nat.zero_le _) hij (by rw [← q1]; simpa using hj)
      rw [ltR, getElem!_pos d' j (by simpa using hj), getElem!_pos d' i (by simpa using hi)] at hh
      simp only [Array.getElem_toList]
      exact hh
    have hdk : d' = kt.toArray := by rw [← hd]
    subst hdk
    have hkl : kt.length = ks.length := by rw [hkt]; exact (sortIn_perm recTot ks).length_eq
    refine ⟨rfl, ⟨by rw [cellsR_len, hkl], .inr ⟨g, cap, putCells id 0 (flatK encR 3 kt.toArray) cur, rfl, hb, ?_, hnc, hm, by simpa [putCells] using hsz, ?_⟩⟩, ?_⟩
    · have hin : (putRow id (Sort.ahead w n) g 0 (flatK encR 3 kt.toArray)).heap[g]? = some (.cells (putCells id 0 (flatK encR 3 kt.toArray) cur) 38 (0, 0)) := by
        simp [putRow, mapBlock, Sort.ahead, Array.getElem?_modify, hg, onCells]
      have hlt2 := (Array.getElem?_eq_some_iff.1 hin).1
      show ((putRow id (Sort.ahead w n) g 0 (flatK encR 3 kt.toArray)).heap ++ os)[g]? = _
      rw [Array.getElem?_append_left hlt2]
      exact hin
    · apply List.ext_getElem?
      intro j
      rw [List.getElem?_take, Array.getElem?_toList]
      have hfl2 : (flatK encR 3 kt.toArray).size = ks.length * 3 := by rw [size_flatK, List.size_toArray, hkl]
      by_cases hj : j < ks.length * 3
      · have hjc : j < cur.size := by rw [hsz]; exact Nat.lt_of_lt_of_le hj (Nat.mul_le_mul_right 3 hnc)
        rw [if_pos hj]
        simp only [putCells, Array.getElem?_mapIdx, Array.getElem?_eq_getElem hjc, Option.map_some]
        rw [if_pos (by simp; omega)]
        unfold cellsR
        rw [Array.getElem?_toList, Array.getElem?_eq_getElem (by omega)]
        simp only [Nat.sub_zero, id]
        rw [getElem!_pos _ j (by omega)]
      · rw [if_neg hj, List.getElem?_eq_none (by rw [cellsR_len, hkl]; omega)]
    · have hbb := Go.Lib.below_putRow (enc := (id : Value → Value)) (q := n) (d := flatK encR 3 kt.toArray) hB hb
      refine ⟨hbb.os, hbb.tape, hbb.output, ?_, fun k hk => ?_⟩
      · refine Nat.le_trans hbb.size ?_
        show _ ≤ ((putRow id (Sort.ahead w n) g 0 (flatK encR 3 kt.toArray)).heap ++ os).size
        rw [Array.size_append]; omega
      · have h1 := hbb.block k hk
        have hks : k < (putRow id (Sort.ahead w n) g 0 (flatK encR 3 kt.toArray)).heap.size := by
          have : (putRow id (Sort.ahead w n) g 0 (flatK encR 3 kt.toArray)).heap.size = w.heap.size := by simp [putRow, mapBlock, Sort.ahead]
          omega
        show ((putRow id (Sort.ahead w n) g 0 (flatK encR 3 kt.toArray)).heap ++ os)[k]? = _
        rw [Array.getElem?_append_left hks]
        exact h1
theorem cellsR_get (q : List (Int × Int × Int)) (j : Nat) (hj : j < q.length * 3) : (cellsR q)[j]? = some ((encR q.toArray[j / 3]!)[j % 3]!) := by
  unfold cellsR
  rw [Array.getElem?_toList, Array.getElem?_eq_getElem (by rw [size_flatK, List.size_toArray]; exact hj)]
  congr 1
  have := get_flatK encR 3 q.toArray j (by rw [List.size_toArray]; exact hj)
  rw [← this, getElem!_pos _ j (by rw [size_flatK, List.size_toArray]; exact hj)]
theorem cellsR_at (q : List (Int × Int × Int)) (j : Nat) (p : Int × Int × Int) (hp : q[j]? = some p) (t : Nat) (ht : t < 3) : (cellsR q)[j * 3 + t]? = [Value.int .i8 p.1, Value.int .i8 p.2.1, Value.int .i16 p.2.2][t]? := by
  obtain ⟨hj, hpe⟩ := List.getElem?_eq_some_iff.1 hp
  rw [cellsR_get _ _ (by omega)]
  have e1 : (j * 3 + t) / 3 = j := by omega
  have e2 : (j * 3 + t) % 3 = t := by omega
  have e3 : q.toArray[j]! = p := by
    rw [getElem!_pos _ _ (by simp; omega)]
    simp only [List.getElem_toArray, hpe]
  rw [e1, e2, e3]
  unfold encR
  match t, ht with
  | 0, _ => rfl
  | 1, _ => rfl
  | 2, _ => rfl
theorem cellsR_of_reps {α : Type} {R : α → List Value → Prop} {cs : List Value} (xs : List α) (f : α → Int × Int × Int) (hR : ∀ x c, R x c → c = [.int .i8 (f x).1, .int .i8 (f x).2.1, .int .i16 (f x).2.2]) (hr : Reps R 3 xs cs) : cs = cellsR (xs.map f) := by
  apply List.ext_getElem?
  intro j
  by_cases hj : j < xs.length * 3
  · obtain ⟨p, hp⟩ : ∃ p, xs[j / 3]? = some p := ⟨xs[j / 3], List.getElem?_eq_getElem (by omega)⟩
    have h1 := hR p _ (hr.2 (j / 3) p hp)
    have h2 := cellsR_at (xs.map f) (j / 3) (f p) (by rw [List.getElem?_map, hp]; rfl) (j % 3) (by omega)
    rw [show j / 3 * 3 + j % 3 = j by omega, ← h1, List.getElem?_take, if_pos (by omega), List.getElem?_drop, show j / 3 * 3 + j % 3 = j by omega] at h2
    exact h2.symm
  · rw [List.getElem?_eq_none (by rw [hr.1]; omega), List.getElem?_eq_none (by rw [cellsR_len, List.length_map]; omega)]
theorem reps_of_cellsR {α : Type} {R : α → List Value → Prop} (xs : List α) (f : α → Int × Int × Int) (hR : ∀ x, R x [.int .i8 (f x).1, .int .i8 (f x).2.1, .int .i16 (f x).2.2]) : Reps R 3 xs (cellsR (xs.map f)) := by
  refine ⟨by rw [cellsR_len, List.length_map], fun j p hp => ?_⟩
  have e : ((cellsR (xs.map f)).drop (j * 3)).take 3 = [.int .i8 (f p).1, .int .i8 (f p).2.1, .int .i16 (f p).2.2] := by
    apply List.ext_getElem?
    intro t
    by_cases ht : t < 3
    · rw [List.getElem?_take, if_pos ht, List.getElem?_drop]
      exact cellsR_at (xs.map f) j (f p) (by rw [List.getElem?_map, hp]; rfl) t ht
    · rw [List.getElem?_eq_none (by rw [List.length_take]; omega), List.getElem?_eq_none (by simp; omega)]
  rw [e]
  exact hR p
theorem sort_nil (p : Option Addr) (cap : Nat) (fv : Value) (w : World) : Calls Try.prog 26 #[.slice p 0 cap, fv] w fun e w' => e = .returned (.tuple #[]) ∧ w' = w := AnyF.slices_SortFunc_none Try.sortRow p cap fv w
/-- impl.sorted: what it leaves is the one list in the order of the records. -/
theorem sorted_calls (ks : List (Int × Int × Int)) (A1 : Option Addr) (c1 : Nat) (w : World) (hn : ks.length ≤ 100000)
    (hclone : ∀ W, Below w.heap.size w W → Calls Try.prog 25 #[.slice A1 ks.length c1] W fun e w' => ∃ v : Value, e = .returned v ∧ w'.ownsRow W.heap.size 38 3 v ks.length (cellsR ks) ∧ Below W.heap.size W w') :
    Calls Try.prog 18 #[.slice A1 ks.length c1] w fun e w' => ∃ v : Value, e = .returned v ∧ w'.ownsRow w.heap.size 38 3 v ks.length (cellsR (sortIn recLt ks)) ∧ Below w.heap.size w w' := by
  have hc := hclone w (Below.refl _ _)
  clear hclone
  have hsrt : ∀ (v : Value) (w1 : World), w1.ownsRow w.heap.size 38 3 v ks.length (cellsR ks) → Below w.heap.size w w1 → Calls Try.prog 26 #[v, .func (.func 27) #[] #[]] w1 fun e w' => e = .returned (.tuple #[]) ∧ w'.ownsRow w.heap.size 38 3 v ks.length (cellsR (sortIn recLt ks)) ∧ Below w.heap.size w w' := by
    intro v w1 ho hB
    rcases ho.2 with ⟨e0, hn0⟩ | ⟨g, cap, cur, e0, _⟩
    · subst e0
      have hk0 : ks = [] := List.length_eq_zero_iff.1 (by simpa using hn0)
      subst hk0
      refine (sort_nil none 0 _ w1).mono ?_
      rintro e w' ⟨rfl, rfl⟩
      exact ⟨rfl, ho, hB⟩
    · subst e0
      exact sortR_calls ks _ rfl ho hB hn
  go_enter Try.func18, Try.ntmps18
  go_wp2_with (first | (go_at_call 25; refine hc.mono ?_; rintro e w1 ⟨v, rfl, ho, hB⟩; have hsv := hsrt v w1 ho hB) | (go_at_call 26; refine hsv.mono ?_; rintro e w2 ⟨rfl, ho2, hB2⟩))
  go_ret
  exact ⟨_, rfl, ho2, hB2⟩
set_option maxHeartbeats 4000000 in
set_option maxRecDepth 100000 in
theorem before_cells (a b : Addr) (x y : Int × Int × Int) (w : World) (h0 : w.cell? a = some (.int .i8 x.1)) (h1 : w.cell? ⟨a.block, a.off + 1, none⟩ = some (.int .i8 x.2.1)) (h2 : w.cell? ⟨a.block, a.off + 2, none⟩ = some (.int .i16 x.2.2)) (g0 : w.cell? b = some (.int .i8 y.1)) (g1 : w.cell? ⟨b.block, b.off + 1, none⟩ = some (.int .i8 y.2.1)) (g2 : w.cell? ⟨b.block, b.off + 2, none⟩ = some (.int .i16 y.2.2)) :
    Calls Try.prog 21 #[.pointer (some a), .pointer (some b)] w fun e w' => e = .returned (.bool (recLt x y)) ∧ ∃ m, w' = w.drewN m := by
  obtain ⟨x0, x1, x2⟩ := x
  obtain ⟨y0, y1, y2⟩ := y
  dsimp only at h0 h1 h2 g0 g1 g2
  have hlt : ∀ r : Bool, r = (if x2 = y2 then (if x0 = y0 then decide (x1 < y1) else decide (x0 < y0)) else decide (x2 < y2)) → r = recLt (x0, x1, x2) (y0, y1, y2) := by
    intro r hr
    rw [hr]
    unfold recLt
    by_cases e2 : x2 = y2
    · subst e2
      by_cases e0 : x0 = y0
      · subst e0; simp
      · simp [e0]
    · simp [e2]
  by_cases c3 : x2 = y2
  · rw [if_pos c3] at hlt
    have c3b0 : (x2 == y2) = true := beq_iff_eq.mpr c3
    have c3b1 : (x2 != y2) = false := bne_eq_false_iff_eq.mpr c3
    clear c3
    by_cases c4 : x0 = y0
    · rw [if_pos c4] at hlt
      have c4b0 : (x0 == y0) = true := beq_iff_eq.mpr c4
      have c4b1 : (x0 != y0) = false := bne_eq_false_iff_eq.mpr c4
      clear c4
      rw [← hlt _ rfl]
      clear hlt
      go_enter Try.func21, Try.ntmps21
      go_wp2
      repeat (go_quiet (fail); try go_wp2)
      go_ret
      exact ⟨by first | rfl | (simp; done) | (simp [*]; done), _, by first | rfl | exact World.drewN_drewN _ _ _ | exact (congrArg (fun W => World.drewN W _) (World.drewN_drewN _ _ _)).trans (World.drewN_drewN _ _ _)⟩
    · rw [if_neg c4] at hlt
      have c4b0 : (x0 == y0) = false := beq_eq_false_iff_ne.mpr c4
      have c4b1 : (x0 != y0) = true := bne_iff_ne.mpr c4
      rw [← hlt _ rfl]
      clear hlt
      go_enter Try.func21, Try.ntmps21
      go_wp2
      repeat (go_quiet (fail); try go_wp2)
      go_ret
      exact ⟨by first | rfl | (simp; done) | (simp [*]; done), _, by first | rfl | exact World.drewN_drewN _ _ _ | exact (congrArg (fun W => World.drewN W _) (World.drewN_drewN _ _ _)).trans (World.drewN_drewN _ _ _)⟩
  · rw [if_neg c3] at hlt
    have c3b0 : (x2 == y2) = false := beq_eq_false_iff_ne.mpr c3
    have c3b1 : (x2 != y2) = true := bne_iff_ne.mpr c3
    rw [← hlt _ rfl]
    clear hlt
    go_enter Try.func21, Try.ntmps21
    go_wp2
    repeat (go_quiet (fail); try go_wp2)
    go_ret
    exact ⟨by first | rfl | (simp; done) | (simp [*]; done), _, by first | rfl | exact World.drewN_drewN _ _ _ | exact (congrArg (fun W => World.drewN W _) (World.drewN_drewN _ _ _)).trans (World.drewN_drewN _ _ _)⟩
def farA (far : Nat → Int) : Array Value := ((List.range 14).map (fun q => Value.int .i8 (far q))).toArray
theorem farA_get (far : Nat → Int) (p : Nat) (h : p < 14) : (farA far)[p]? = some (.int .i8 (far p)) := by
  unfold farA
  rw [List.getElem?_toArray, List.getElem?_map, List.getElem?_range h]; rfl
theorem farA_set (far : Nat → Int) (p : Nat) (h : p < 14) (v : Int) : (farA far).setIfInBounds p (.int .i8 v) = farA (fun q => if q = p then v else far q) := by
  unfold farA
  rw [List.setIfInBounds_toArray]
  congr 1
  apply List.ext_getElem?
  intro j
  rw [List.getElem?_set, List.getElem?_map]
  by_cases hj : j < 14
  · rw [List.getElem?_map, List.getElem?_range hj]
    by_cases e : p = j
    · subst e; simp [h]
    · simp [e, Ne.symm e]
  · rw [List.getElem?_map, List.getElem?_eq_none (by simp; omega)]
    by_cases e : p = j
    · omega
    · simp [e]
theorem rec_setCell_at (w : World) (g o : Nat) (v : Value) (e : TypeId) (cur : Array Value) (h : w.heap[g]? = some (.cells cur e (0, 0))) : (w.setCell ⟨g, o, none⟩ v).heap[g]? = some (.cells (cur.setIfInBounds o v) e (0, 0)) := by
  simp [World.setCell, Array.getElem?_modify, h]

end Go.Proofs.Ytbhgjengdkofaaa.H
