-- Mine: walks of functions that the print does not reach.
import Derived.Test.YtcjchobajjbhkaaProg
import Derived.Test.YtcjchobajjbhkaaShelf
import Derived.Test.YtcjchobajjbhkaaWWords
import Derived.Test.YtcjchobajjbhkaaWLast
import Derived.Test.YtcjchobajjbhkaaWMore
import Derived.Sort.WalkB12
import Derived.Lib.SlicesMore
import Derived.Lib.OwnBridge
import Derived.WalkKit
import Derived.Deep.LoopGhost
import Derived.Deep.RegionLaw
import Derived.Lib.LazyBuf
import Derived.Laws.IdiomCopy
import Derived.Shelf.GgSortFunc.RowK
import Derived.Lib.ConvBytes
import Derived.Laws.BytesArg
import Derived.Tactics
import Derived.KernelRfl
import Derived.BigQuiet
import Derived.WalkSpells
import Derived.Lib.SliceRun
import Derived.StillTailTactics
import Derived.Maps.OwnOps
import Derived.Maps.OwnSet
import Derived.Maps.Views
import Derived.Maps.Keyed
import Derived.StringKeys
import Derived.Shelf.SlSortCmp.NoneTotal
namespace Go.Proofs.Ytcjchobajjbhkaa.H
open Go.RowKit Go.Sort Go.Proofs.YtcjchobajjbhkaaW.PrintWords Go.Proofs.YtcjchobajjbhkaaW.PrintLast
set_option linter.unusedVariables false
set_option linter.unusedSimpArgs false
/-! ### rows of the call's own, written in runs of cells -/
theorem heap_setCell_at (w : World) (g o : Nat) (v : Value) (e : TypeId) (cur : Array Value) (h : w.heap[g]? = some (.cells cur e (0, 0))) : (w.setCell ⟨g, o, none⟩ v).heap[g]? = some (.cells (cur.setIfInBounds o v) e (0, 0)) := by
  simp [World.setCell, Array.getElem?_modify, h]
theorem heap_setCells_at (g : Nat) (e : TypeId) : ∀ (vs : List Value) (o : Nat) (w : World) (cur : Array Value), w.heap[g]? = some (.cells cur e (0, 0)) → (w.setCells g o vs).heap[g]? = some (.cells (Go.Sort.setMany cur o vs) e (0, 0))
  | [], _, _, _, h => h
  | v :: r, o, w, cur, h => by
    rw [World.setCells, Go.Sort.setMany]
    exact heap_setCells_at g e r (o + 1) _ _ (heap_setCell_at w g o v e cur h)
theorem heap_setCells_ne (g k : Nat) (hk : k ≠ g) : ∀ (vs : List Value) (o : Nat) (w : World), (w.setCells g o vs).heap[k]? = w.heap[k]?
  | [], _, _ => rfl
  | v :: r, o, w => by
    rw [World.setCells, heap_setCells_ne g k hk r (o + 1)]
    exact Below.heap_setCell w ⟨g, o, none⟩ v k hk
theorem del_cells (cur : Array Value) (cs zs : List Value) (a K N : Nat) (hN : N ≤ cur.size) (ht : cur.toList.take N = cs) (ha : a + K ≤ N) (hz : zs.length = K) :
    (Go.Sort.setMany (Go.Sort.setMany cur a (cs.drop (a + K))) (N - K) zs).toList.take (N - K) = cs.take a ++ cs.drop (a + K) := by
  have hl : cs.length = N := by rw [← ht]; simp; omega
  have hc : ∀ t, t < N → cur[t]! = cs[t]! := by
    intro t h
    have e : (cur.toList.take N)[t]? = cs[t]? := by rw [ht]
    rw [List.getElem?_take, if_pos h, Array.getElem?_toList] at e
    simp only [Array.getElem!_eq_getD, Array.getD_eq_getD_getElem?, List.getElem!_eq_getElem?_getD]
    rw [e]
  apply List.ext_getElem?
  intro j
  rw [List.getElem?_take]
  by_cases hj : j < N - K
  · rw [if_pos hj, Array.getElem?_toList]
    have hs : j < (Go.Sort.setMany (Go.Sort.setMany cur a (cs.drop (a + K))) (N - K) zs).size := by simp; omega
    have e1 := Go.Sort.get_setMany zs (N - K) (Go.Sort.setMany cur a (cs.drop (a + K))) j (by simp; omega)
    have e2 := Go.Sort.get_setMany (cs.drop (a + K)) a cur j (by omega)
    rw [if_neg (by omega), e2] at e1
    rw [Array.getElem?_eq_getElem hs]
    rw [getElem!_pos _ j hs] at e1
    rw [e1]
    by_cases h2 : j < a
    · rw [if_neg (by omega), hc j (by omega), List.getElem?_append_left (by simp; omega), List.getElem?_take, if_pos h2, List.getElem?_eq_getElem (by omega), getElem!_pos cs j (by omega)]
    · rw [if_pos (by simp [hl]; omega), List.getElem?_append_right (by simp; omega)]
      have h3 : j - a < (cs.drop (a + K)).length := by simp [hl]; omega
      rw [getElem!_pos (cs.drop (a + K)) (j - a) h3, show j - (cs.take a).length = j - a by simp; omega, List.getElem?_eq_getElem h3]
  · rw [if_neg hj, List.getElem?_eq_none (by simp [hl]; omega)]
/-- The world behind slices.Delete of one element of K cells. -/
def delW (w : World) (g a b : Nat) (news zs : List Value) : World := (w.drew.setCells g a news).setCells g b zs
theorem delW_own {w : World} {base g n cap K i : Nat} {e : TypeId} {cs zs : List Value} (h : w.ownsRow base e K (.slice (some ⟨g, 0, none⟩) n cap) n cs) (hi : i < n) (hz : zs.length = K) :
    (delW w g (i * K) ((n - 1) * K) (cs.drop ((i + 1) * K)) zs).ownsRow base e K (.slice (some ⟨g, 0, none⟩) (n - 1) cap) (n - 1) (cs.take (i * K) ++ cs.drop ((i + 1) * K)) := by
  have q1 : (i + 1) * K = i * K + K := by rw [Nat.add_mul, Nat.one_mul]
  have q2 : (n - 1) * K = n * K - K := by rw [Nat.sub_mul, Nat.one_mul]
  have q3 : i * K + K ≤ n * K := by rw [← q1]; exact Nat.mul_le_mul_right K (by omega)
  have hl : cs.length = n * K := h.1
  rcases h.2 with ⟨e0, _⟩ | ⟨g', cap', cur, e0, hb, hg, hn, hm, hs, ht⟩
  · cases e0
  · injection e0 with e1 _ e3
    injection e1 with e1
    injection e1 with e1
    subst e1; subst e3
    have hcap : n * K ≤ cur.size := by rw [hs]; exact Nat.mul_le_mul_right K hn
    refine ⟨by rw [List.length_append, List.length_take, List.length_drop, hl]; omega, .inr ⟨g, cap, _, rfl, hb, heap_setCells_at g e _ _ _ _ (heap_setCells_at g e _ _ _ cur hg), by omega, hm, by simpa using hs, ?_⟩⟩
    rw [q2, q1]
    exact del_cells cur cs zs (i * K) K (n * K) hcap ht q3 hz
theorem delW_block {w : World} {g a b k : Nat} {news zs : List Value} (hk : k ≠ g) : (delW w g a b news zs).heap[k]? = w.heap[k]? := by
  unfold delW
  rw [heap_setCells_ne g k hk, heap_setCells_ne g k hk]
  rfl
theorem delW_below {B : Nat} {w0 w : World} {g a b : Nat} {news zs : List Value} (h : Below B w0 w) (hg : B ≤ g) : Below B w0 (delW w g a b news zs) :=
  Go.below_setCells hg _ _ _ (Go.below_setCells hg _ _ _ h.drew)
theorem run_clear_one {P : Program} (w : World) (t e ty : TypeId) (z : Value) (zs : List Value) (ht : P.underlying t = some (.slice e)) (hv : ∀ w, (zeroValue e).run P w = .ok z w) (hz : z.cells = zs.toArray) (h1 : ∀ u ∈ zs, u.oneCell' = true) (b o c : Nat)
    (hc : ∀ j, j < zs.length → (w.cell? ⟨b, o + j, none⟩).isSome = true) (hf : ∀ j, j < zs.length → w.frozen? ⟨b, o + j, none⟩ = false) :
    (Builtin.clear_ #[t] ty #[.slice (some ⟨b, o, none⟩) 1 c]).run P w = .ok (.tuple #[]) (w.setCells b o zs) := by
  have hzc : (Builtin.zeroCells z.cells 1).toList = zs := by
    rw [hz]
    simp [Builtin.zeroCells]
    apply List.ext_getElem
    · simp
    · intro i h1 h2
      simp at h1
      simp [Nat.mod_eq_of_lt h2, List.getElem?_eq_getElem h2]
  have hst := run_storeCells_cells (P := P) b o zs 0 w (by simpa using hc) (by simpa using hf) h1
  simp only [Nat.add_zero] at hst
  simp [Builtin.clear_, run_underlying ht, hv, hzc, hst]
theorem reps_take {α : Type} {R : α → List Value → Prop} {K : Nat} {xs : List α} {cs : List Value} (h : Reps R K xs cs) (i : Nat) (hi : i < xs.length) : Reps R K (xs.eraseIdx i) (cs.take (i * K) ++ cs.drop ((i + 1) * K)) := by
  have q1 : (i + 1) * K = i * K + K := by rw [Nat.add_mul, Nat.one_mul]
  have q3 : (i + 1) * K ≤ xs.length * K := Nat.mul_le_mul_right K (by omega)
  have hl := h.1
  refine ⟨?_, fun j p hp => ?_⟩
  · rw [List.length_append, List.length_take, List.length_drop, hl, List.length_eraseIdx, if_pos hi, Nat.sub_mul, Nat.one_mul]
    omega
  · rw [List.getElem?_eraseIdx] at hp
    by_cases hj : j < i
    · rw [if_pos hj] at hp
      have q4 : (j + 1) * K ≤ i * K := Nat.mul_le_mul_right K (by omega)
      have q5 : (j + 1) * K = j * K + K := by rw [Nat.add_mul, Nat.one_mul]
      have e := h.2 j p hp
      have e2 : ((cs.take (i * K) ++ cs.drop ((i + 1) * K)).drop (j * K)).take K = (cs.drop (j * K)).take K := by
        rw [List.drop_append_of_le_length (by rw [List.length_take]; omega), List.take_append_of_le_length (by rw [List.length_drop, List.length_take]; omega), List.drop_take, List.take_take, Nat.min_eq_left (by omega)]
      rw [e2]
      exact e
    · rw [if_neg hj] at hp
      have q4 : i * K ≤ j * K := Nat.mul_le_mul_right K (by omega)
      have e := h.2 (j + 1) p hp
      have e2 : ((cs.take (i * K) ++ cs.drop ((i + 1) * K)).drop (j * K)).take K = (cs.drop ((j + 1) * K)).take K := by
        have hlt : (cs.take (i * K)).length = i * K := by rw [List.length_take]; omega
        rw [List.drop_append, hlt, List.drop_eq_nil_of_le (by omega), List.nil_append, List.drop_drop]
        congr 2
        rw [Nat.add_mul j 1, Nat.one_mul]
        omega
      rw [e2]
      exact e
theorem R_del {α : Type} {d : Kd α} {e : Nat} {w : World} {base g n cap i : Nat} {ok : Nat → Prop} {xs : List α} {zs : List Value} (h : d.R e w base ok (.slice (some ⟨g, 0, none⟩) n cap) xs) (hi : i < xs.length) (hz : zs.length = d.sz) :
    ∃ cs, w.ownsRow base e d.sz (.slice (some ⟨g, 0, none⟩) n cap) n cs ∧ n = xs.length ∧ (∀ u ∈ cs, u.oneCell' = true) ∧ d.R e (delW w g (i * d.sz) ((n - 1) * d.sz) (cs.drop ((i + 1) * d.sz)) zs) base ok (.slice (some ⟨g, 0, none⟩) (n - 1) cap) (xs.eraseIdx i) := by
  obtain ⟨h0, cs, ho, hr⟩ := h
  have hn : n = xs.length := by
    obtain ⟨A, c, e1, _⟩ := OwnRow.slice_ (⟨cs, ho, hr⟩ : OwnRow _ e d.sz w base _ xs)
    injection e1
  subst hn
  refine ⟨cs, ho, rfl, ?_, h0, cs.take (i * d.sz) ++ cs.drop ((i + 1) * d.sz), ?_, ?_⟩
  · intro u hu
    obtain ⟨t, ht, rfl⟩ := List.mem_iff_getElem.1 hu
    have hz0 : 0 < d.sz := by
      rcases Nat.eq_zero_or_pos d.sz with q | q
      · have := hr.1; rw [q, Nat.mul_zero] at this; omega
      · exact q
    have hq : t / d.sz < xs.length := (Nat.div_lt_iff_lt_mul hz0).2 (by rw [← hr.1]; exact ht)
    have hM := hr.2 (t / d.sz) xs[t / d.sz] (List.getElem?_eq_getElem hq)
    refine d.K_one (d.K_of_M hM) _ ?_
    have hmod : t % d.sz < d.sz := Nat.mod_lt _ hz0
    have hdm : t / d.sz * d.sz + t % d.sz = t := by rw [Nat.mul_comm]; exact Nat.div_add_mod t d.sz
    refine List.mem_of_getElem? (i := t % d.sz) ?_
    rw [List.getElem?_take, if_pos hmod, List.getElem?_drop, hdm, List.getElem?_eq_getElem ht]
  · have q := delW_own ho hi hz
    rwa [List.length_eraseIdx, if_pos hi]
  · refine (reps_take hr i hi).imp_ (fun p c hp => ?_)
    exact d.M_mono (fun k hk => hk) (d.M_move (fun k hk => delW_block (fun e => hk.2 (by rw [e]; rfl))) hp)
theorem reps_map {α : Type} (enc : α → Value) (xs : List α) : Reps (fun x cs => cs = [enc x]) 1 xs (xs.map enc) := by
  refine ⟨by simp, fun j p hp => ?_⟩
  have hj : j < (xs.map enc).length := by rw [List.length_map]; exact (List.getElem?_eq_some_iff.1 hp).1
  rw [Nat.mul_one, List.drop_eq_getElem_cons hj, List.take_succ_cons, List.take_zero, List.getElem_map]
  congr 2
  exact (List.getElem?_eq_some_iff.1 hp).2

/-! ### an order that parts any two, and the list in its order -/
structure Tot {α : Type} (lt : α → α → Bool) : Prop where
  asym : ∀ a b, lt a b = true → lt b a = false
  eq : ∀ a b, lt a b = false → lt b a = false → a = b
  le : ∀ a b c, lt b a = false → lt c b = false → lt c a = false
def InOrd {α : Type} (lt : α → α → Bool) (l : List α) : Prop := l.Pairwise (fun a b => lt b a = false)
def scanAt {α : Type} [Inhabited α] (lt : α → α → Bool) (x : α) (out : List α) : Nat → Nat
  | 0 => 0
  | a + 1 => if lt x (out.getD a default) = true then scanAt lt x out a else a + 1
def putIn {α : Type} [Inhabited α] (lt : α → α → Bool) (x : α) (out : List α) : List α := out.take (scanAt lt x out out.length) ++ x :: out.drop (scanAt lt x out out.length)
def sortIn {α : Type} [Inhabited α] (lt : α → α → Bool) (l : List α) : List α := l.foldl (fun out x => putIn lt x out) []
theorem scanAt_spec {α : Type} [Inhabited α] (lt : α → α → Bool) (x : α) (out : List α) : ∀ n, scanAt lt x out n ≤ n ∧ (∀ j, scanAt lt x out n ≤ j → j < n → lt x (out.getD j default) = true) ∧ (0 < scanAt lt x out n → lt x (out.getD (scanAt lt x out n - 1) default) = false) := by
  intro n
  induction n with
  | zero => exact ⟨Nat.le_refl _, fun j _ h => absurd h (Nat.not_lt_zero _), fun h => absurd h (Nat.lt_irrefl _)⟩
  | succ n ih =>
    simp only [scanAt]
    by_cases c : lt x (out.getD n default) = true
    · rw [if_pos c]
      refine ⟨by omega, fun j h1 h2 => ?_, ih.2.2⟩
      by_cases e : j = n
      · rw [e]; exact c
      · exact ih.2.1 j h1 (by omega)
    · rw [if_neg c]
      refine ⟨Nat.le_refl _, fun j h1 h2 => by omega, fun _ => ?_⟩
      rw [Nat.add_sub_cancel]
      exact Bool.eq_false_iff.mpr c
theorem putIn_length {α : Type} [Inhabited α] (lt : α → α → Bool) (x : α) (out : List α) : (putIn lt x out).length = out.length + 1 := by
  unfold putIn
  have := (scanAt_spec lt x out out.length).1
  rw [List.length_append, List.length_cons, List.length_take, List.length_drop]
  omega
theorem putIn_perm {α : Type} [Inhabited α] (lt : α → α → Bool) (x : α) (out : List α) : (putIn lt x out).Perm (x :: out) := by
  unfold putIn
  have h : (List.take (scanAt lt x out out.length) out ++ x :: List.drop (scanAt lt x out out.length) out).Perm (x :: (List.take (scanAt lt x out out.length) out ++ List.drop (scanAt lt x out out.length) out)) := List.perm_middle
  rwa [List.take_append_drop] at h
theorem putIn_ord {α : Type} [Inhabited α] {lt : α → α → Bool} (T : Tot lt) (x : α) (out : List α) (h : InOrd lt out) : InOrd lt (putIn lt x out) := by
  unfold InOrd at h ⊢
  unfold putIn
  obtain ⟨s1, s2, s3⟩ := scanAt_spec lt x out out.length
  generalize scanAt lt x out out.length = at_ at s1 s2 s3
  have hp := List.pairwise_iff_getElem.1 h
  have hlow : ∀ j (hj : j < out.length), j < at_ → lt x out[j] = false := by
    intro j hj hja
    have e := s3 (by omega)
    rw [List.getD_eq_getElem?_getD, List.getElem?_eq_getElem (by omega), Option.getD_some] at e
    by_cases c : j = at_ - 1
    · subst c; exact e
    · exact T.le _ _ _ (hp j (at_ - 1) hj (by omega) (by omega)) e
  have hhigh : ∀ j (hj : j < out.length), at_ ≤ j → lt x out[j] = true := by
    intro j hj hja
    have e := s2 j hja hj
    rwa [List.getD_eq_getElem?_getD, List.getElem?_eq_getElem hj, Option.getD_some] at e
  rw [List.pairwise_append]
  refine ⟨h.sublist (List.take_sublist _ _), ?_, ?_⟩
  · rw [List.pairwise_cons]
    refine ⟨fun b hb => ?_, h.sublist (List.drop_sublist _ _)⟩
    obtain ⟨j, hj, rfl⟩ := List.getElem_of_mem hb
    rw [List.length_drop] at hj
    rw [List.getElem_drop]
    exact T.asym _ _ (hhigh (at_ + j) (by omega) (by omega))
  · intro a ha b hb
    obtain ⟨i, hi, rfl⟩ := List.getElem_of_mem ha
    rw [List.length_take] at hi
    rw [List.getElem_take]
    rcases List.mem_cons.1 hb with rfl | hb
    · exact hlow i (by omega) (by omega)
    · obtain ⟨j, hj, rfl⟩ := List.getElem_of_mem hb
      rw [List.length_drop] at hj
      rw [List.getElem_drop]
      exact hp i (at_ + j) (by omega) (by omega) (by omega)
theorem sortIn_go {α : Type} [Inhabited α] {lt : α → α → Bool} (T : Tot lt) : ∀ (l out : List α), InOrd lt out → InOrd lt (l.foldl (fun out x => putIn lt x out) out) ∧ (l.foldl (fun out x => putIn lt x out) out).Perm (out ++ l)
  | [], out, h => ⟨h, by rw [List.append_nil]; exact List.Perm.refl _⟩
  | x :: l, out, h => by
    obtain ⟨h1, h2⟩ := sortIn_go T l (putIn lt x out) (putIn_ord T x out h)
    refine ⟨h1, h2.trans ?_⟩
    have := (putIn_perm lt x out).append_right l
    refine this.trans ?_
    have h3 : (out ++ x :: l).Perm (x :: (out ++ l)) := List.perm_middle
    exact h3.symm
theorem sortIn_ord {α : Type} [Inhabited α] {lt : α → α → Bool} (T : Tot lt) (l : List α) : InOrd lt (sortIn lt l) := (sortIn_go T l [] List.Pairwise.nil).1
theorem sortIn_perm {α : Type} [Inhabited α] {lt : α → α → Bool} (T : Tot lt) (l : List α) : (sortIn lt l).Perm l := by
  have := (sortIn_go T l [] List.Pairwise.nil).2
  rwa [List.nil_append] at this
theorem sortIn_unique {α : Type} [Inhabited α] {lt : α → α → Bool} (T : Tot lt) (l m : List α) (h : InOrd lt m) (hp : m.Perm l) : m = sortIn lt l :=
  List.Perm.eq_of_pairwise (le := fun a b => lt b a = false) (fun a b _ _ h1 h2 => T.eq a b h2 h1) h (sortIn_ord T l) (hp.trans (sortIn_perm T l).symm)
theorem sortIn_snoc {α : Type} [Inhabited α] (lt : α → α → Bool) (l : List α) (x : α) : sortIn lt (l ++ [x]) = putIn lt x (sortIn lt l) := by
  unfold sortIn
  rw [List.foldl_append]
  rfl
/-- A record by its person, its station and its time. -/
def recLt (x y : Int × Int × Int) : Bool := decide (x.2.2 < y.2.2) || (decide (x.2.2 = y.2.2) && (decide (x.1 < y.1) || (decide (x.1 = y.1) && decide (x.2.1 < y.2.1))))
theorem recLt_iff (x y : Int × Int × Int) : recLt x y = true ↔ x.2.2 < y.2.2 ∨ (x.2.2 = y.2.2 ∧ (x.1 < y.1 ∨ (x.1 = y.1 ∧ x.2.1 < y.2.1))) := by simp [recLt]
theorem recLt_not (x y : Int × Int × Int) : recLt x y = false ↔ ¬ (x.2.2 < y.2.2 ∨ (x.2.2 = y.2.2 ∧ (x.1 < y.1 ∨ (x.1 = y.1 ∧ x.2.1 < y.2.1)))) := by rw [← recLt_iff, Bool.not_eq_true]
theorem recTot : Tot recLt where
  asym a b h := by rw [recLt_iff] at h; rw [recLt_not]; omega
  eq a b h1 h2 := by
    rw [recLt_not] at h1 h2
    obtain ⟨a1, a2, a3⟩ := a
    obtain ⟨b1, b2, b3⟩ := b
    dsimp only at h1 h2
    have e1 : a1 = b1 := by omega
    have e2 : a2 = b2 := by omega
    have e3 : a3 = b3 := by omega
    rw [e1, e2, e3]
  le a b c h1 h2 := by rw [recLt_not] at *; omega
/-! ### the closure's compare -/
def cmpI (x y : Int) : Int := if x < y then -1 else if x > y then 1 else 0
set_option maxHeartbeats 4000000 in
theorem nan16 (a : Int) (w : World) : Calls Try.prog 60 #[.int .i16 a] w fun e w' => e = .returned (.bool false) ∧ w' = w := by
  go_enter Try.func60, Try.ntmps60
  go_wp2
  go_ret
  exact ⟨by simp, rfl⟩
set_option maxHeartbeats 4000000 in
theorem nan8 (a : Int) (w : World) : Calls Try.prog 61 #[.int .i8 a] w fun e w' => e = .returned (.bool false) ∧ w' = w := by
  go_enter Try.func61, Try.ntmps61
  go_wp2
  go_ret
  exact ⟨by simp, rfl⟩
set_option maxHeartbeats 4000000 in
theorem comp16 (a b : Int) (w : World) : Calls Try.prog 47 #[.int .i16 a, .int .i16 b] w fun e w' => e = .returned (.int .i64 (cmpI a b)) ∧ w' = w := by
  go_enter Try.func47, Try.ntmps47
  go_wp2_with (go_at_call 60; refine (nan16 _ _).mono ?_; rintro e w' ⟨rfl, hw⟩; rw [hw])
  all_goals (go_ret; refine ⟨?_, rfl⟩; unfold cmpI; (repeat' split) <;> first | rfl | (exfalso; omega))
set_option maxHeartbeats 4000000 in
theorem comp8 (a b : Int) (w : World) : Calls Try.prog 48 #[.int .i8 a, .int .i8 b] w fun e w' => e = .returned (.int .i64 (cmpI a b)) ∧ w' = w := by
  go_enter Try.func48, Try.ntmps48
  go_wp2_with (go_at_call 61; refine (nan8 _ _).mono ?_; rintro e w' ⟨rfl, hw⟩; rw [hw])
  all_goals (go_ret; refine ⟨?_, rfl⟩; unfold cmpI; (repeat' split) <;> first | rfl | (exfalso; omega))
def orOf (a b c : Int) : Int := if a ≠ 0 then a else if b ≠ 0 then b else c
theorem blk3_ {w : World} {g : Nat} {u v x : Value} {t : TypeId} (h : w.heap[g]? = some (.cells #[u, v, x] t (0, 0))) : w.cell? ⟨g, 0, none⟩ = some u ∧ w.cell? ⟨g, 1, none⟩ = some v ∧ w.cell? ⟨g, 2, none⟩ = some x := by simp [World.cell?, h]
set_option maxHeartbeats 4000000 in
theorem or_calls (g : Nat) (a b c : Int) (w : World) (hb : w.heap[g]? = some (.cells #[.int .i64 a, .int .i64 b, .int .i64 c] 3 (0, 0))) : Calls Try.prog 46 #[.slice (some ⟨g, 0, none⟩) 3 3] w fun e w' => e = .returned (.int .i64 (orOf a b c)) ∧ w' = w := by
  obtain ⟨h0, h1, h2⟩ := blk3_ hb
  obtain ⟨r, hr⟩ : ∃ r, r = orOf a b c := ⟨_, rfl⟩
  rw [← hr]
  unfold orOf at hr
  by_cases ea : a = 0
  · rw [if_neg (by omega)] at hr
    have fa : (a != 0) = false := bne_eq_false_iff_eq.mpr ea
    have fa1 : (a = 0) = True := eq_true ea
    by_cases eb : b = 0
    · rw [if_neg (by omega)] at hr
      have fb : (b != 0) = false := bne_eq_false_iff_eq.mpr eb
      have fb1 : (b = 0) = True := eq_true eb
      by_cases ec : c = 0
      · have fc : (c != 0) = false := bne_eq_false_iff_eq.mpr ec
        have fc1 : (c = 0) = True := eq_true ec
        obtain rfl : r = 0 := by omega
        clear ea eb ec hr
        go_enter Try.func46, Try.ntmps46
        go_wp2
        refine wp_loop_rounds 4 ?_
        rw [rounds_succ]
        go_wp2
        rw [rounds_succ]
        go_wp2
        rw [rounds_succ]
        go_wp2
        rw [rounds_succ]
        go_wp2
        go_ret
        exact ⟨rfl, rfl⟩
      · have fc : (c != 0) = true := bne_iff_ne.mpr ec
        have fc1 : (c = 0) = False := eq_false ec
        subst hr
        clear ea eb ec
        go_enter Try.func46, Try.ntmps46
        go_wp2
        refine wp_loop_rounds 3 ?_
        rw [rounds_succ]
        go_wp2
        rw [rounds_succ]
        go_wp2
        rw [rounds_succ]
        go_wp2
        go_ret
        exact ⟨rfl, rfl⟩
    · rw [if_pos (by omega)] at hr
      have fb : (b != 0) = true := bne_iff_ne.mpr eb
      have fb1 : (b = 0) = False := eq_false eb
      subst hr
      clear ea eb
      go_enter Try.func46, Try.ntmps46
      go_wp2
      refine wp_loop_rounds 2 ?_
      rw [rounds_succ]
      go_wp2
      rw [rounds_succ]
      go_wp2
      go_ret
      exact ⟨rfl, rfl⟩
  · rw [if_pos (by omega)] at hr
    have fa : (a != 0) = true := bne_iff_ne.mpr ea
    have fa1 : (a = 0) = False := eq_false ea
    subst hr
    clear ea
    go_enter Try.func46, Try.ntmps46
    go_wp2
    refine wp_loop_rounds 1 ?_
    rw [rounds_succ]
    go_wp2
    go_ret
    exact ⟨rfl, rfl⟩
def encR (x : Int × Int × Int) : List Value := [.int .i8 x.1, .int .i8 x.2.1, .int .i16 x.2.2]
def cfR (x y : Int × Int × Int) : Int := orOf (cmpI x.2.2 y.2.2) (cmpI x.1 y.1) (cmpI x.2.1 y.2.1)
theorem ltR (x y : Int × Int × Int) : ltOf cfR x y = recLt x y := by
  have h : ∀ b : Bool, (b = true ↔ recLt x y = true) → b = recLt x y := fun b hb => by cases b <;> cases h2 : recLt x y <;> simp_all
  apply h
  rw [recLt_iff]
  unfold ltOf cfR orOf cmpI
  rw [decide_eq_true_iff]
  (repeat' split) <;> omega
theorem swoR : SWO (ltOf cfR) where
  irrefl x := by rw [ltR, recLt_not]; omega
  trans x y z h1 h2 := by rw [ltR, recLt_iff] at *; omega
  ntrans x y z h1 h2 := by rw [ltR, recLt_not] at *; omega
set_option maxHeartbeats 4000000 in
set_option maxRecDepth 100000 in
theorem recCmp (x y : Int × Int × Int) (W : World) : Calls Try.prog 45 #[.agg (encR x).toArray, .agg (encR y).toArray] W fun e w' => e = .returned (.int .i64 (cfR x y)) ∧ ∃ q os', w' = grow (W.drewN q) os' := by
  unfold encR cfR
  obtain ⟨a0, a1, a2⟩ := x
  obtain ⟨b0, b1, b2⟩ := y
  dsimp only
  have hs1 : (W.alloc (.cells #[.int .i8 a0, .int .i8 a1, .int .i16 a2] 44)).heap.size = W.heap.size + 1 := by rw [World.alloc]; simp only [Array.size_push]
  obtain ⟨W0, hW0⟩ : ∃ W0, W0 = (W.alloc (.cells #[.int .i8 a0, .int .i8 a1, .int .i16 a2] 44)).alloc (.cells #[.int .i8 b0, .int .i8 b1, .int .i16 b2] 44) := ⟨_, rfl⟩
  have hb0 : W0.heap[W.heap.size]? = some (.cells #[.int .i8 a0, .int .i8 a1, .int .i16 a2] 44 (0, 0)) := by rw [hW0]; exact (Below.heap_alloc _ _ _ (by omega)).trans (heap_alloc_new W _)
  have hb1 : W0.heap[W.heap.size + 1]? = some (.cells #[.int .i8 b0, .int .i8 b1, .int .i16 b2] 44 (0, 0)) := by
    have := heap_alloc_new (W.alloc (.cells #[.int .i8 a0, .int .i8 a1, .int .i16 a2] 44)) (.cells #[.int .i8 b0, .int .i8 b1, .int .i16 b2] 44)
    rw [hs1] at this
    rw [hW0]; exact this
  obtain ⟨c0, c1, c2⟩ := blk3_ hb0
  obtain ⟨d0, d1, d2⟩ := blk3_ hb1
  have hg : Hid (W0 = grow W #[.cells #[.int .i8 a0, .int .i8 a1, .int .i16 a2] 44 (0, 0), .cells #[.int .i8 b0, .int .i8 b1, .int .i16 b2] 44 (0, 0)]) := by show _ = _; rw [hW0, alloc_eq_grow, alloc_eq_grow, grow_grow]; rfl
  go_enter Try.func45, Try.ntmps45
  go_wp2
  rw [← hW0]
  clear hW0 hb0 hb1
  refine wp_region_still_tail 15 (by kernel_rfl) (by kernel_rfl) ?_
  simp only [List.take_succ_cons, List.take_zero, List.drop_succ_cons, List.drop_zero]
  have c0' : ({ W0 with drawn := W0.drawn + 1 } : World).cell? ⟨W.heap.size, 0, none⟩ = some (.int .i8 a0) := c0
  have c1' : ({ W0 with drawn := W0.drawn + 1 } : World).cell? ⟨W.heap.size, 1, none⟩ = some (.int .i8 a1) := c1
  have c2' : ({ W0 with drawn := W0.drawn + 1 } : World).cell? ⟨W.heap.size, 2, none⟩ = some (.int .i16 a2) := c2
  have d0' : ({ W0 with drawn := W0.drawn + 1 } : World).cell? ⟨W.heap.size + 1, 0, none⟩ = some (.int .i8 b0) := d0
  have d1' : ({ W0 with drawn := W0.drawn + 1 } : World).cell? ⟨W.heap.size + 1, 1, none⟩ = some (.int .i8 b1) := d1
  have d2' : ({ W0 with drawn := W0.drawn + 1 } : World).cell? ⟨W.heap.size + 1, 2, none⟩ = some (.int .i16 b2) := d2
  have hg' : Hid (({ W0 with drawn := W0.drawn + 1 } : World) = grow (W.drewN 1) #[.cells #[.int .i8 a0, .int .i8 a1, .int .i16 a2] 44 (0, 0), .cells #[.int .i8 b0, .int .i8 b1, .int .i16 b2] 44 (0, 0)]) := by show _ = _; rw [hg.out]; rfl
  clear c0 c1 c2 d0 d1 d2 hg
  generalize ({ W0 with drawn := W0.drawn + 1 } : World) = W1 at c0' c1' c2' d0' d1' d2' hg' ⊢
  iterate 4 still_step
  still_call (comp16 a2 b2 W1)
  iterate 4 still_step
  still_call (comp8 a0 b0 W1)
  iterate 4 still_step
  still_call (comp8 a1 b1 W1)
  refine wpStill_nil ?_
  go_wp2_with (go_at_call 46; refine (or_calls W1.heap.size (cmpI a2 b2) (cmpI a0 b0) (cmpI a1 b1) _ ?hb_).mono ?_; (case hb_ => exact heap_alloc_new W1 _); rintro e w1 ⟨rfl, rfl⟩)
  go_ret
  exact ⟨rfl, 1, _, by rw [hg'.out, alloc_eq_grow, grow_grow]⟩
def cellsR (ks : List (Int × Int × Int)) : List Value := (flatK encR 3 ks.toArray).toList
theorem cellsR_len (ks : List (Int × Int × Int)) : (cellsR ks).length = ks.length * 3 := by
  unfold cellsR
  rw [Array.length_toList, size_flatK, List.size_toArray]
set_option maxHeartbeats 4000000 in
/-- The sort of records: what it leaves is the one list in their order. -/
theorem sortR_calls (ks kt : List (Int × Int × Int)) (hkt : kt = sortIn recLt ks) {base g cap : Nat} {w0 w : World} (ho : w.ownsRow base 44 3 (.slice (some ⟨g, 0, none⟩) ks.length cap) ks.length (cellsR ks)) (hB : Below base w0 w) (hn : ks.length ≤ 100000) :
    Calls Try.prog 44 #[.slice (some ⟨g, 0, none⟩) ks.length cap, .func (.func 45) #[] #[]] w fun e w' => e = .returned (.tuple #[]) ∧ w'.ownsRow base 44 3 (.slice (some ⟨g, 0, none⟩) ks.length cap) ks.length (cellsR kt) ∧ Below base w0 w' := by
  rcases ho.2 with ⟨e0, _⟩ | ⟨g', cap', cur, e0, hb, hg, hnc, hm, hsz, ht⟩
  · cases e0
  · injection e0 with e1 _ e3
    injection e1 with e1
    injection e1 with e1
    subst e1; subst e3
    have hlt : g < w.heap.size := (Array.getElem?_eq_some_iff.1 hg).1
    have hfl : (flatK encR 3 ks.toArray).size = ks.length * 3 := by rw [size_flatK, List.size_toArray]
    have hH : HoldsK encR 3 w g 0 ks.toArray := by
      intro j hj
      rw [hfl] at hj
      have hjc : j < cur.size := by rw [hsz]; exact Nat.lt_of_lt_of_le hj (Nat.mul_le_mul_right 3 hnc)
      have hc : cur[j]? = some ((flatK encR 3 ks.toArray)[j]!) := by
        have h1 : (cur.toList.take (ks.length * 3))[j]? = (cellsR ks)[j]? := by rw [ht]
        rw [List.getElem?_take, if_pos hj, Array.getElem?_toList] at h1
        rw [h1]
        unfold cellsR
        rw [Array.getElem?_toList, getElem!_pos _ j (by rw [hfl]; exact hj), Array.getElem?_eq_getElem (by rw [hfl]; exact hj)]
      refine ⟨?_, ?_⟩
      · simp only [World.cell?, Nat.zero_add, hg]; exact hc
      · simp [World.frozen?, hg]
    have eg : ∀ args w, (callFunc 45 args).run Try.prog w = .ok (.enter 45 args) w := enters_of Try.func45 (by kernel_rfl) rfl
    have hcmp : CmpLays Try.prog 45 #[] encR 3 cfR g 0 ks.toArray.size w := fun _ _ _ _ x y => recCmp x y _
    have hcon := AnyQ.slices_SortFunc Try.sortRow 3 Try.isAgg44 Try.sizeOf44 encR (fun _ => rfl) (fun x v hv => by simp [encR] at hv; rcases hv with rfl | rfl | rfl <;> rfl) cfR swoR 45 #[] g 0 cap ks.toArray w eg hcmp hH hlt (by rw [List.size_toArray]; omega)
    refine Calls.mono (show Calls Try.prog 44 _ w _ from hcon) ?_
    rintro e w' ⟨rfl, d', n, os, hpm, hso, rfl⟩
    have hd : d'.toList = kt := by
      obtain ⟨q1, _, q3⟩ := hpm
      have e1 : d'.extract 0 ks.toArray.size = d' := by rw [← q1]; exact Array.extract_size
      rw [e1, Array.extract_size, List.toList_toArray] at q3
      rw [hkt]
      refine sortIn_unique recTot ks d'.toList ?_ q3
      unfold InOrd
      rw [List.pairwise_iff_getElem]
      intro i j hi hj hij
      have hh := hso i j (Nat.zero_le _) hij (by rw [← q1]; simpa using hj)
      rw [ltR, getElem!_pos d' j (by simpa using hj), getElem!_pos d' i (by simpa using hi)] at hh
      simp only [Array.getElem_toList]
      exact hh
    have hdk : d' = kt.toArray := by rw [← hd]
    subst hdk
    have hkl : kt.length = ks.length := by rw [hkt]; exact (sortIn_perm recTot ks).length_eq
    refine ⟨rfl, ⟨by rw [cellsR_len, hkl], .inr ⟨g, cap, putCells id 0 (flatK encR 3 kt.toArray) cur, rfl, hb, ?_, hnc, hm, by simpa [putCells] using hsz, ?_⟩⟩, ?_⟩
    · have hin : (putRow id (Sort.ahead w n) g 0 (flatK encR 3 kt.toArray)).heap[g]? = some (.cells (putCells id 0 (flatK encR 3 kt.toArray) cur) 44 (0, 0)) := by
        simp [putRow, mapBlock, Sort.ahead, Array.getElem?_modify, hg, onCells]
      have hlt2 := (Array.getElem?_eq_some_iff.1 hin).1
      show ((putRow id (Sort.ahead w n) g 0 (flatK encR 3 kt.toArray)).heap ++ os)[g]? = _
      rw [Array.getElem?_append_left hlt2]
      exact hin
    · apply List.ext_getElem?
      intro j
      rw [List.getElem?_take, Array.getElem?_toList]
      have hfl2 : (flatK encR 3 kt.toArray).size = ks.length * 3 := by rw [size_flatK, List.size_toArray, hkl]
      by_cases hj : j < ks.length * 3
      · have hjc : j < cur.size := by rw [hsz]; exact Nat.lt_of_lt_of_le hj (Nat.mul_le_mul_right 3 hnc)
        rw [if_pos hj]
        simp only [putCells, Array.getElem?_mapIdx, Array.getElem?_eq_getElem hjc, Option.map_some]
        rw [if_pos (by simp; omega)]
        unfold cellsR
        rw [Array.getElem?_toList, Array.getElem?_eq_getElem (by omega)]
        simp only [Nat.sub_zero, id]
        rw [getElem!_pos _ j (by omega)]
      · rw [if_neg hj, List.getElem?_eq_none (by rw [cellsR_len, hkl]; omega)]
    · have hbb := Go.Lib.below_putRow (enc := (id : Value → Value)) (q := n) (d := flatK encR 3 kt.toArray) hB hb
      refine ⟨hbb.os, hbb.tape, hbb.output, ?_, fun k hk => ?_⟩
      · refine Nat.le_trans hbb.size ?_
        show _ ≤ ((putRow id (Sort.ahead w n) g 0 (flatK encR 3 kt.toArray)).heap ++ os).size
        rw [Array.size_append]; omega
      · have h1 := hbb.block k hk
        have hks : k < (putRow id (Sort.ahead w n) g 0 (flatK encR 3 kt.toArray)).heap.size := by
          have : (putRow id (Sort.ahead w n) g 0 (flatK encR 3 kt.toArray)).heap.size = w.heap.size := by simp [putRow, mapBlock, Sort.ahead]
          omega
        show ((putRow id (Sort.ahead w n) g 0 (flatK encR 3 kt.toArray)).heap ++ os)[k]? = _
        rw [Array.getElem?_append_left hks]
        exact h1
theorem cellsR_get (q : List (Int × Int × Int)) (j : Nat) (hj : j < q.length * 3) : (cellsR q)[j]? = some ((encR q.toArray[j / 3]!)[j % 3]!) := by
  unfold cellsR
  rw [Array.getElem?_toList, Array.getElem?_eq_getElem (by rw [size_flatK, List.size_toArray]; exact hj)]
  congr 1
  have := get_flatK encR 3 q.toArray j (by rw [List.size_toArray]; exact hj)
  rw [← this, getElem!_pos _ j (by rw [size_flatK, List.size_toArray]; exact hj)]
theorem cellsR_at (q : List (Int × Int × Int)) (j : Nat) (p : Int × Int × Int) (hp : q[j]? = some p) (t : Nat) (ht : t < 3) : (cellsR q)[j * 3 + t]? = [Value.int .i8 p.1, Value.int .i8 p.2.1, Value.int .i16 p.2.2][t]? := by
  obtain ⟨hj, hpe⟩ := List.getElem?_eq_some_iff.1 hp
  rw [cellsR_get _ _ (by omega)]
  have e1 : (j * 3 + t) / 3 = j := by omega
  have e2 : (j * 3 + t) % 3 = t := by omega
  have e3 : q.toArray[j]! = p := by
    rw [getElem!_pos _ _ (by simp; omega)]
    simp only [List.getElem_toArray, hpe]
  rw [e1, e2, e3]
  unfold encR
  match t, ht with
  | 0, _ => rfl
  | 1, _ => rfl
  | 2, _ => rfl
theorem cellsR_of_reps {α : Type} {R : α → List Value → Prop} {cs : List Value} (xs : List α) (f : α → Int × Int × Int) (hR : ∀ x c, R x c → c = [.int .i8 (f x).1, .int .i8 (f x).2.1, .int .i16 (f x).2.2]) (hr : Reps R 3 xs cs) : cs = cellsR (xs.map f) := by
  apply List.ext_getElem?
  intro j
  by_cases hj : j < xs.length * 3
  · obtain ⟨p, hp⟩ : ∃ p, xs[j / 3]? = some p := ⟨xs[j / 3], List.getElem?_eq_getElem (by omega)⟩
    have h1 := hR p _ (hr.2 (j / 3) p hp)
    have h2 := cellsR_at (xs.map f) (j / 3) (f p) (by rw [List.getElem?_map, hp]; rfl) (j % 3) (by omega)
    rw [show j / 3 * 3 + j % 3 = j by omega, ← h1, List.getElem?_take, if_pos (by omega), List.getElem?_drop, show j / 3 * 3 + j % 3 = j by omega] at h2
    exact h2.symm
  · rw [List.getElem?_eq_none (by rw [hr.1]; omega), List.getElem?_eq_none (by rw [cellsR_len, List.length_map]; omega)]
theorem reps_of_cellsR {α : Type} {R : α → List Value → Prop} (xs : List α) (f : α → Int × Int × Int) (hR : ∀ x, R x [.int .i8 (f x).1, .int .i8 (f x).2.1, .int .i16 (f x).2.2]) : Reps R 3 xs (cellsR (xs.map f)) := by
  refine ⟨by rw [cellsR_len, List.length_map], fun j p hp => ?_⟩
  have e : ((cellsR (xs.map f)).drop (j * 3)).take 3 = [.int .i8 (f p).1, .int .i8 (f p).2.1, .int .i16 (f p).2.2] := by
    apply List.ext_getElem?
    intro t
    by_cases ht : t < 3
    · rw [List.getElem?_take, if_pos ht, List.getElem?_drop]
      exact cellsR_at (xs.map f) j (f p) (by rw [List.getElem?_map, hp]; rfl) t ht
    · rw [List.getElem?_eq_none (by rw [List.length_take]; omega), List.getElem?_eq_none (by simp; omega)]
  rw [e]
  exact hR p
theorem sort_nil (p : Option Addr) (cap : Nat) (fv : Value) (w : World) : Calls Try.prog 44 #[.slice p 0 cap, fv] w fun e w' => e = .returned (.tuple #[]) ∧ w' = w := AnyF.slices_SortFunc_none Try.sortRow p cap fv w
/-- impl.sorted: what it leaves is the one list in the order of the records. -/
theorem sorted_calls (ks : List (Int × Int × Int)) (A1 : Option Addr) (c1 : Nat) (w : World) (hn : ks.length ≤ 100000)
    (hclone : ∀ W, Below w.heap.size w W → Calls Try.prog 43 #[.slice A1 ks.length c1] W fun e w' => ∃ v : Value, e = .returned v ∧ w'.ownsRow W.heap.size 44 3 v ks.length (cellsR ks) ∧ Below W.heap.size W w') :
    Calls Try.prog 24 #[.slice A1 ks.length c1] w fun e w' => ∃ v : Value, e = .returned v ∧ w'.ownsRow w.heap.size 44 3 v ks.length (cellsR (sortIn recLt ks)) ∧ Below w.heap.size w w' := by
  have hc := hclone w (Below.refl _ _)
  clear hclone
  have hsrt : ∀ (v : Value) (w1 : World), w1.ownsRow w.heap.size 44 3 v ks.length (cellsR ks) → Below w.heap.size w w1 → Calls Try.prog 44 #[v, .func (.func 45) #[] #[]] w1 fun e w' => e = .returned (.tuple #[]) ∧ w'.ownsRow w.heap.size 44 3 v ks.length (cellsR (sortIn recLt ks)) ∧ Below w.heap.size w w' := by
    intro v w1 ho hB
    rcases ho.2 with ⟨e0, hn0⟩ | ⟨g, cap, cur, e0, _⟩
    · subst e0
      have hk0 : ks = [] := List.length_eq_zero_iff.1 (by simpa using hn0)
      subst hk0
      refine (sort_nil none 0 _ w1).mono ?_
      rintro e w' ⟨rfl, rfl⟩
      exact ⟨rfl, ho, hB⟩
    · subst e0
      exact sortR_calls ks _ rfl ho hB hn
  go_enter Try.func24, Try.ntmps24
  go_wp2_with (first | (go_at_call 43; refine hc.mono ?_; rintro e w1 ⟨v, rfl, ho, hB⟩; have hsv := hsrt v w1 ho hB) | (go_at_call 44; refine hsv.mono ?_; rintro e w2 ⟨rfl, ho2, hB2⟩))
  go_ret
  exact ⟨_, rfl, ho2, hB2⟩
set_option maxHeartbeats 4000000 in
set_option maxRecDepth 100000 in
theorem before_cells (a b : Addr) (x y : Int × Int × Int) (w : World) (h0 : w.cell? a = some (.int .i8 x.1)) (h1 : w.cell? ⟨a.block, a.off + 1, none⟩ = some (.int .i8 x.2.1)) (h2 : w.cell? ⟨a.block, a.off + 2, none⟩ = some (.int .i16 x.2.2)) (g0 : w.cell? b = some (.int .i8 y.1)) (g1 : w.cell? ⟨b.block, b.off + 1, none⟩ = some (.int .i8 y.2.1)) (g2 : w.cell? ⟨b.block, b.off + 2, none⟩ = some (.int .i16 y.2.2)) :
    Calls Try.prog 49 #[.pointer (some a), .pointer (some b)] w fun e w' => e = .returned (.bool (recLt x y)) ∧ ∃ m, w' = w.drewN m := by
  obtain ⟨x0, x1, x2⟩ := x
  obtain ⟨y0, y1, y2⟩ := y
  dsimp only at h0 h1 h2 g0 g1 g2
  have hlt : ∀ r : Bool, r = (if x2 = y2 then (if x0 = y0 then decide (x1 < y1) else decide (x0 < y0)) else decide (x2 < y2)) → r = recLt (x0, x1, x2) (y0, y1, y2) := by
    intro r hr
    rw [hr]
    unfold recLt
    by_cases e2 : x2 = y2
    · subst e2
      by_cases e0 : x0 = y0
      · subst e0; simp
      · simp [e0]
    · simp [e2]
  by_cases c3 : x2 = y2
  · rw [if_pos c3] at hlt
    have c3b0 : (x2 == y2) = true := beq_iff_eq.mpr c3
    have c3b1 : (x2 != y2) = false := bne_eq_false_iff_eq.mpr c3
    clear c3
    by_cases c4 : x0 = y0
    · rw [if_pos c4] at hlt
      have c4b0 : (x0 == y0) = true := beq_iff_eq.mpr c4
      have c4b1 : (x0 != y0) = false := bne_eq_false_iff_eq.mpr c4
      clear c4
      rw [← hlt _ rfl]
      clear hlt
      go_enter Try.func49, Try.ntmps49
      go_wp2
      repeat (go_quiet (fail); try go_wp2)
      go_ret
      exact ⟨by first | rfl | (simp; done) | (simp [*]; done), _, by first | rfl | exact World.drewN_drewN _ _ _ | exact (congrArg (fun W => World.drewN W _) (World.drewN_drewN _ _ _)).trans (World.drewN_drewN _ _ _)⟩
    · rw [if_neg c4] at hlt
      have c4b0 : (x0 == y0) = false := beq_eq_false_iff_ne.mpr c4
      have c4b1 : (x0 != y0) = true := bne_iff_ne.mpr c4
      rw [← hlt _ rfl]
      clear hlt
      go_enter Try.func49, Try.ntmps49
      go_wp2
      repeat (go_quiet (fail); try go_wp2)
      go_ret
      exact ⟨by first | rfl | (simp; done) | (simp [*]; done), _, by first | rfl | exact World.drewN_drewN _ _ _ | exact (congrArg (fun W => World.drewN W _) (World.drewN_drewN _ _ _)).trans (World.drewN_drewN _ _ _)⟩
  · rw [if_neg c3] at hlt
    have c3b0 : (x2 == y2) = false := beq_eq_false_iff_ne.mpr c3
    have c3b1 : (x2 != y2) = true := bne_iff_ne.mpr c3
    rw [← hlt _ rfl]
    clear hlt
    go_enter Try.func49, Try.ntmps49
    go_wp2
    repeat (go_quiet (fail); try go_wp2)
    go_ret
    exact ⟨by first | rfl | (simp; done) | (simp [*]; done), _, by first | rfl | exact World.drewN_drewN _ _ _ | exact (congrArg (fun W => World.drewN W _) (World.drewN_drewN _ _ _)).trans (World.drewN_drewN _ _ _)⟩
def farA (far : Nat → Int) : Array Value := ((List.range 14).map (fun q => Value.int .i8 (far q))).toArray
theorem farA_get (far : Nat → Int) (p : Nat) (h : p < 14) : (farA far)[p]? = some (.int .i8 (far p)) := by
  unfold farA
  rw [List.getElem?_toArray, List.getElem?_map, List.getElem?_range h]; rfl
theorem farA_set (far : Nat → Int) (p : Nat) (h : p < 14) (v : Int) : (farA far).setIfInBounds p (.int .i8 v) = farA (fun q => if q = p then v else far q) := by
  unfold farA
  rw [List.setIfInBounds_toArray]
  congr 1
  apply List.ext_getElem?
  intro j
  rw [List.getElem?_set, List.getElem?_map]
  by_cases hj : j < 14
  · rw [List.getElem?_map, List.getElem?_range hj]
    by_cases e : p = j
    · subst e; simp [h]
    · simp [e, Ne.symm e]
  · rw [List.getElem?_map, List.getElem?_eq_none (by simp; omega)]
    by_cases e : p = j
    · omega
    · simp [e]
theorem rec_setCell_at (w : World) (g o : Nat) (v : Value) (e : TypeId) (cur : Array Value) (h : w.heap[g]? = some (.cells cur e (0, 0))) : (w.setCell ⟨g, o, none⟩ v).heap[g]? = some (.cells (cur.setIfInBounds o v) e (0, 0)) := by
  simp [World.setCell, Array.getElem?_modify, h]

theorem step_copy {P : Program} {ops : Array Oper} {o : Oper} {a : Act} {w : World} {K : Act → World → Prop} {Q : Exit → Act → World → Prop} {E : Prop}
    (hg : o.guard = none) (d s : Operand) (t : TypeId) (hop : o.op = Op.call { callee := Callee.builtin Builtin.copy, args := #[d, s], argTypes := #[t, t] })
    (v : Value) (w' : World) (dv sv : Value) (hd : a.eval d = dv) (hs : a.eval s = sv) (hrun : (Builtin.copy_ #[t, t] o.type #[dv, sv]).run P w = .ok v w') (hK : K (a.put o.dst v) w') :
    if Region.wanted o (yielded ops a.tmps) = true then Oper.wp P o a w K Q else E := by
  have hw : Region.wanted o (yielded ops a.tmps) = true := by simp [Region.wanted, hg]
  rw [if_pos hw]
  subst hd
  subst hs
  unfold Oper.wp
  simp [execOp, hop, resolve, invoke, builtin, hrun, Result.andThen]
  exact hK
/-- Block g holds n cells, the first m of which are v. -/
def RepAt (g n m : Nat) (v : Int) (w : World) : Prop := ∃ cur : Array Value, w.heap[g]? = some (.cells cur 2 (0, 0)) ∧ cur.size = n ∧ ∀ j, j < m → cur[j]? = some (.int .i64 v)
theorem RepAt.cell {g n m : Nat} {v : Int} {w : World} (h : RepAt g n m v w) (j : Nat) (hj : j < m) : w.cell? ⟨g, j, none⟩ = some (.int .i64 v) := by
  obtain ⟨cur, hg, hs, hc⟩ := h
  simp only [World.cell?, hg]
  exact hc j hj
theorem RepAt.some {g n m : Nat} {v : Int} {w : World} (h : RepAt g n m v w) (j : Nat) (hj : j < n) : (w.cell? ⟨g, j, none⟩).isSome = true := by
  obtain ⟨cur, hg, hs, hc⟩ := h
  simp [World.cell?, hg]
  omega
theorem RepAt.fz {g n m : Nat} {v : Int} {w : World} (h : RepAt g n m v w) (j : Nat) : w.frozen? ⟨g, j, none⟩ = false := by
  obtain ⟨cur, hg, hs, hc⟩ := h
  simp [World.frozen?, hg]
theorem RepAt.put {g n m k : Nat} {v : Int} {w : World} (h : RepAt g n m v w) (hk : m + k ≤ n) : RepAt g n (m + k) v (w.setCells g m (List.replicate k (.int .i64 v))) := by
  obtain ⟨cur, hg, hs, hc⟩ := h
  refine ⟨_, heap_setCells_at g _ _ _ _ cur hg, by simp [hs], fun j hj => ?_⟩
  have hlt : j < (Go.Sort.setMany cur m (List.replicate k (.int .i64 v))).size := by simp; omega
  have e := Go.Sort.get_setMany (List.replicate k (Value.int .i64 v)) m cur j (by omega)
  rw [Array.getElem?_eq_getElem hlt]
  rw [getElem!_pos _ j hlt] at e
  rw [e]
  by_cases hq : m ≤ j
  · have h3 : j - m < (List.replicate k (Value.int .i64 v)).length := by simp; omega
    rw [if_pos (by simp; omega), getElem!_pos (List.replicate k (Value.int .i64 v)) (j - m) h3]
    simp
  · rw [if_neg (by omega)]
    have := hc j (by omega)
    rw [Array.getElem!_eq_getD, Array.getD_eq_getD_getElem?, this]
    rfl
set_option maxHeartbeats 4000000 in
set_option maxRecDepth 100000 in
theorem repeat_calls (A : Addr) (c n : Nat) (v : Int) (w : World) (hA : w.cell? A = some (.int .i64 v)) (h1 : 1 ≤ n) (hn : n ≤ 1000) :
    Calls Try.prog 35 #[.slice (some A) 1 c, .int .i64 (n : Int)] w fun e w' => e = .returned (.slice (some ⟨w.heap.size, 0, none⟩) n n) ∧ RepAt w.heap.size n n v w' ∧ Below w.heap.size w w' := by
  have hmul := Try.bits_Mul 1 n (by omega) (by omega) w
  rw [Nat.one_mul, Nat.div_eq_of_lt (by omega), Nat.mod_eq_of_lt (by omega)] at hmul
  have hwr : IntKind.u64.wrap (n : Int) = (n : Int) := by simp [IntKind.wrap, IntKind.bits, IntKind.signed]; omega
  have hwi : IntKind.i64.wrap (n : Int) = (n : Int) := by simp [IntKind.wrap, IntKind.bits, IntKind.signed]; omega
  obtain ⟨W0, hW0⟩ : ∃ W0, W0 = w.alloc (.cells (madeCells #[.int .i64 0] n) 2) := ⟨_, rfl⟩
  obtain ⟨g, hg⟩ : ∃ g, g = w.heap.size := ⟨_, rfl⟩
  obtain ⟨ie, hie, hz0, hz1, hz2⟩ := info_parts (show (Try.prog.info? 2).map (fun i => (i.zero, i.size, i.bytes)) = some (some (.int .i64 0), 1, 8) by kernel_rfl)
  have hmk : (Instr.makeSlice 46 (.int .i64 (n : Int)) (.int .i64 (n : Int))).run Try.prog w = .ok (.slice (some ⟨g, 0, none⟩) n n) W0 := by
    have h := Go.run_makeSlice (P := Try.prog) w 46 2 ie _ Try.underlying46 hie hz0 .i64 .i64 (n : Int) (n : Int) (by omega) (by omega) (by rw [hz1]; omega) (by rw [hz2]; omega) (by omega)
    rw [hz1, Int.toNat_natCast, Nat.mul_one, ← hg] at h
    rw [h, hW0]
    rfl
  have hR0 : RepAt g n 0 v W0 := by
    rw [hW0, hg]
    exact ⟨_, heap_alloc_new w _, by rw [size_madeCells], fun j hj => absurd hj (by omega)⟩
  have hB0 : Below w.heap.size w W0 := by rw [hW0]; exact Below.alloc (Below.refl _ _) (Nat.le_refl _) _
  have hA0 : W0.cell? A = some (.int .i64 v) := (hB0.cell (World.block_lt_of_cell? w A hA)).trans hA
  obtain ⟨W1, hW1⟩ : ∃ W1, W1 = W0.setCells g 0 [.int .i64 v] := ⟨_, rfl⟩
  have hsz : (Try.prog.info? 2).map (·.size) = some 1 := by rw [hie, Option.map_some, hz1]
  have hcp : ∀ ty, (Builtin.copy_ #[46, 46] ty #[.slice (some ⟨g, 0, none⟩) n n, .slice (some A) 1 c]).run Try.prog W0 = .ok (.int .i64 1) W1 := by
    intro ty
    have h := run_copy_cells (P := Try.prog) W0 46 46 ty 2 g 0 n n A 1 c [.int .i64 v] Try.underlying46 hsz (by show 1 = Nat.min 1 n; exact (Nat.min_eq_left h1).symm) (fun j u hu => by
      match j, hu with
      | 0, hu => rw [Addr.add_zero']; rw [hA0]; simpa using hu
      | j + 1, hu => simp at hu) (fun j hj => by simp at hj; subst hj; exact hR0.some 0 (by omega)) (fun j hj => hR0.fz _) (fun u hu => by simp at hu; subst hu; rfl)
    rw [hW1]
    exact h
  have hR1 : RepAt g n 1 v W1 := by
    have := RepAt.put (k := 1) hR0 (by omega)
    rw [hW1]
    simpa using this
  have hB1 : Below w.heap.size w W1 := by rw [hW1]; exact Go.below_setCells (by omega) _ _ _ hB0
  rw [← hg] at hB0 hB1 ⊢
  clear hW1 hW0 hR0 hA0
  have hG : Hid (g = w.heap.size) := hg
  clear hg
  go_enter Try.func35, Try.ntmps35
  go_wp2_with (go_at_call 56; refine hmul.mono ?_; rintro e w' ⟨rfl, hw_⟩; rw [hw_])
  clear hcp hmk hmul hB0 hA
  go_loopg [8] n (fun k s8 wr => ∃ m : Nat, s8 = .int .i64 (m : Int) ∧ 1 ≤ m ∧ m ≤ n ∧ n - m ≤ k ∧ RepAt g n m v wr ∧ Below g w wr)
  case atStart => exact ⟨1, rfl, Nat.le_refl _, h1, by omega, hR1, hB1⟩
  case round =>
    obtain ⟨m, rfl, hm1, hmn, hk, hR, hB⟩ := hrel
    by_cases hlt : m < n
    · obtain ⟨q, hq⟩ : ∃ q, q = Nat.min m (n - m) := ⟨_, rfl⟩
      have hq1 : q ≤ n - m := by rw [hq]; exact Nat.min_le_right _ _
      have hq2 : q ≤ m := by rw [hq]; exact Nat.min_le_left _ _
      have hq3 : 1 ≤ q := by rw [hq]; exact Nat.le_min.2 ⟨hm1, by omega⟩
      obtain ⟨W2, hW2⟩ : ∃ W2, W2 = wr.drew.setCells g m (List.replicate q (.int .i64 v)) := ⟨_, rfl⟩
      have hcp2 : ∀ ty, (Builtin.copy_ #[46, 46] ty #[.slice (some ⟨g, m, none⟩) (n - m) (n - m), .slice (some ⟨g, 0, none⟩) m n]).run Try.prog wr.drew = .ok (.int .i64 (q : Int)) W2 := by
        intro ty
        have h := run_copy_cells (P := Try.prog) wr.drew 46 46 ty 2 g m (n - m) (n - m) ⟨g, 0, none⟩ m n (List.replicate q (.int .i64 v)) Try.underlying46 hsz (by rw [List.length_replicate]; exact hq) (fun j u hu => by
          rw [List.getElem?_replicate] at hu
          by_cases hj : j < q
          · rw [if_pos hj] at hu
            rw [add_plain]
            rw [← hu]
            exact hR.cell j (by omega)
          · rw [if_neg hj] at hu; cases hu) (fun j hj => by rw [List.length_replicate] at hj; exact hR.some (m + j) (by omega)) (fun j hj => hR.fz _) (fun u hu => by rw [List.eq_of_mem_replicate hu]; rfl)
        rw [List.length_replicate] at h
        rw [hW2]
        exact h
      have hR2 : RepAt g n (m + q) v W2 := by
        rw [hW2]
        exact RepAt.put (w := wr.drew) hR (by omega)
      have hB2 : Below g w W2 := by rw [hW2]; exact Go.below_setCells (Nat.le_refl _) _ _ _ hB.drew
      have hne : ¬ (n = m) := by omega
      have hwq : IntKind.i64.wrap ((m : Int) + (q : Int)) = ((m + q : Nat) : Int) := by simp [IntKind.wrap, IntKind.bits, IntKind.signed]; omega
      have hQ1 : Hid (q ≤ n - m) := hq1
      clear hW2 hR hB hq hq1 hq2
      go_wp2_with fail
      go_region_law (refine step_copy rfl (.tmp 41) (.tmp 44) 46 rfl _ _ _ _ (by simp [Act.eval, Act.put]) (by simp [Act.eval, Act.put]) (hcp2 _) ?_)
      go_wp2
      go_roundg (n - (m + q))
      case measure => have := hQ1.out; omega
      case rel =>
        have hq4 := hQ1.out
        exact ⟨m + q, by simp, by omega, by omega, Nat.le_refl _, hR2, hB2⟩
    · obtain rfl : m = n := by omega
      go_wp2
      go_ret
      exact ⟨rfl, hR, hB⟩

end Go.Proofs.Ytcjchobajjbhkaa.H
