-- Mine: walks of functions that the print does not reach.
import Derived.Test.YtlggjfhoecaelaaGreatDoorProg
import Derived.Test.YtlggjfhoecaelaaGreatDoorShelf
import Derived.Test.YtlggjfhoecaelaaGreatDoorWWords
import Derived.Test.YtlggjfhoecaelaaGreatDoorWLast
import Derived.Test.YtlggjfhoecaelaaGreatDoorWMore
import Derived.Sort.WalkB12
import Derived.Lib.SlicesMore
import Derived.Lib.OwnBridge
import Derived.WalkKit
import Derived.Deep.LoopGhost
import Derived.Deep.RegionLaw
import Derived.Lib.LazyBuf
import Derived.Laws.IdiomCopy
import Derived.Shelf.GgSortFunc.RowK
import Derived.Lib.ConvBytes
import Derived.Laws.BytesArg
import Derived.Tactics
import Derived.KernelRfl
import Derived.BigQuiet
import Derived.WalkSpells
import Derived.Lib.SliceRun
import Derived.StillTailTactics
import Derived.Maps.OwnOps
import Derived.Maps.OwnSet
import Derived.Maps.Views
import Derived.Maps.Keyed
import Derived.StringKeys
namespace Go.Proofs.YtlggjfhoecaelaaGreatDoor.H
open Go.RowKit Go.Sort Go.Proofs.YtlggjfhoecaelaaGreatDoorW.PrintWords Go.Proofs.YtlggjfhoecaelaaGreatDoorW.PrintLast
set_option linter.unusedVariables false
set_option linter.unusedSimpArgs false
/-! ### rows of the call's own, written in runs of cells -/
theorem heap_setCell_at (w : World) (g o : Nat) (v : Value) (e : TypeId) (cur : Array Value) (h : w.heap[g]? = some (.cells cur e (0, 0))) : (w.setCell ⟨g, o, none⟩ v).heap[g]? = some (.cells (cur.setIfInBounds o v) e (0, 0)) := by
  simp [World.setCell, Array.getElem?_modify, h]
theorem heap_setCells_at (g : Nat) (e : TypeId) : ∀ (vs : List Value) (o : Nat) (w : World) (cur : Array Value), w.heap[g]? = some (.cells cur e (0, 0)) → (w.setCells g o vs).heap[g]? = some (.cells (Go.Sort.setMany cur o vs) e (0, 0))
  | [], _, _, _, h => h
  | v :: r, o, w, cur, h => by
    rw [World.setCells, Go.Sort.setMany]
    exact heap_setCells_at g e r (o + 1) _ _ (heap_setCell_at w g o v e cur h)
theorem heap_setCells_ne (g k : Nat) (hk : k ≠ g) : ∀ (vs : List Value) (o : Nat) (w : World), (w.setCells g o vs).heap[k]? = w.heap[k]?
  | [], _, _ => rfl
  | v :: r, o, w => by
    rw [World.setCells, heap_setCells_ne g k hk r (o + 1)]
    exact Below.heap_setCell w ⟨g, o, none⟩ v k hk
theorem del_cells (cur : Array Value) (cs zs : List Value) (a K N : Nat) (hN : N ≤ cur.size) (ht : cur.toList.take N = cs) (ha : a + K ≤ N) (hz : zs.length = K) :
    (Go.Sort.setMany (Go.Sort.setMany cur a (cs.drop (a + K))) (N - K) zs).toList.take (N - K) = cs.take a ++ cs.drop (a + K) := by
  have hl : cs.length = N := by rw [← ht]; simp; omega
  have hc : ∀ t, t < N → cur[t]! = cs[t]! := by
    intro t h
    have e : (cur.toList.take N)[t]? = cs[t]? := by rw [ht]
    rw [List.getElem?_take, if_pos h, Array.getElem?_toList] at e
    simp only [Array.getElem!_eq_getD, Array.getD_eq_getD_getElem?, List.getElem!_eq_getElem?_getD]
    rw [e]
  apply List.ext_getElem?
  intro j
  rw [List.getElem?_take]
  by_cases hj : j < N - K
  · rw [if_pos hj, Array.getElem?_toList]
    have hs : j < (Go.Sort.setMany (Go.Sort.setMany cur a (cs.drop (a + K))) (N - K) zs).size := by simp; omega
    have e1 := Go.Sort.get_setMany zs (N - K) (Go.Sort.setMany cur a (cs.drop (a + K))) j (by simp; omega)
    have e2 := Go.Sort.get_setMany (cs.drop (a + K)) a cur j (by omega)
    rw [if_neg (by omega), e2] at e1
    rw [Array.getElem?_eq_getElem hs]
    rw [getElem!_pos _ j hs] at e1
    rw [e1]
    by_cases h2 : j < a
    · rw [if_neg (by omega), hc j (by omega), List.getElem?_append_left (by simp; omega), List.getElem?_take, if_pos h2, List.getElem?_eq_getElem (by omega), getElem!_pos cs j (by omega)]
    · rw [if_pos (by simp [hl]; omega), List.getElem?_append_right (by simp; omega)]
      have h3 : j - a < (cs.drop (a + K)).length := by simp [hl]; omega
      rw [getElem!_pos (cs.drop (a + K)) (j - a) h3, show j - (cs.take a).length = j - a by simp; omega, List.getElem?_eq_getElem h3]
  · rw [if_neg hj, List.getElem?_eq_none (by simp [hl]; omega)]
/-- The world behind slices.Delete of one element of K cells. -/
def delW (w : World) (g a b : Nat) (news zs : List Value) : World := (w.drew.setCells g a news).setCells g b zs
theorem delW_own {w : World} {base g n cap K i : Nat} {e : TypeId} {cs zs : List Value} (h : w.ownsRow base e K (.slice (some ⟨g, 0, none⟩) n cap) n cs) (hi : i < n) (hz : zs.length = K) :
    (delW w g (i * K) ((n - 1) * K) (cs.drop ((i + 1) * K)) zs).ownsRow base e K (.slice (some ⟨g, 0, none⟩) (n - 1) cap) (n - 1) (cs.take (i * K) ++ cs.drop ((i + 1) * K)) := by
  have q1 : (i + 1) * K = i * K + K := by rw [Nat.add_mul, Nat.one_mul]
  have q2 : (n - 1) * K = n * K - K := by rw [Nat.sub_mul, Nat.one_mul]
  have q3 : i * K + K ≤ n * K := by rw [← q1]; exact Nat.mul_le_mul_right K (by omega)
  have hl : cs.length = n * K := h.1
  rcases h.2 with ⟨e0, _⟩ | ⟨g', cap', cur, e0, hb, hg, hn, hm, hs, ht⟩
  · cases e0
  · injection e0 with e1 _ e3
    injection e1 with e1
    injection e1 with e1
    subst e1; subst e3
    have hcap : n * K ≤ cur.size := by rw [hs]; exact Nat.mul_le_mul_right K hn
    refine ⟨by rw [List.length_append, List.length_take, List.length_drop, hl]; omega, .inr ⟨g, cap, _, rfl, hb, heap_setCells_at g e _ _ _ _ (heap_setCells_at g e _ _ _ cur hg), by omega, hm, by simpa using hs, ?_⟩⟩
    rw [q2, q1]
    exact del_cells cur cs zs (i * K) K (n * K) hcap ht q3 hz
theorem delW_block {w : World} {g a b k : Nat} {news zs : List Value} (hk : k ≠ g) : (delW w g a b news zs).heap[k]? = w.heap[k]? := by
  unfold delW
  rw [heap_setCells_ne g k hk, heap_setCells_ne g k hk]
  rfl
theorem delW_below {B : Nat} {w0 w : World} {g a b : Nat} {news zs : List Value} (h : Below B w0 w) (hg : B ≤ g) : Below B w0 (delW w g a b news zs) :=
  Go.below_setCells hg _ _ _ (Go.below_setCells hg _ _ _ h.drew)
theorem run_clear_one {P : Program} (w : World) (t e ty : TypeId) (z : Value) (zs : List Value) (ht : P.underlying t = some (.slice e)) (hv : ∀ w, (zeroValue e).run P w = .ok z w) (hz : z.cells = zs.toArray) (h1 : ∀ u ∈ zs, u.oneCell' = true) (b o c : Nat)
    (hc : ∀ j, j < zs.length → (w.cell? ⟨b, o + j, none⟩).isSome = true) (hf : ∀ j, j < zs.length → w.frozen? ⟨b, o + j, none⟩ = false) :
    (Builtin.clear_ #[t] ty #[.slice (some ⟨b, o, none⟩) 1 c]).run P w = .ok (.tuple #[]) (w.setCells b o zs) := by
  have hzc : (Builtin.zeroCells z.cells 1).toList = zs := by
    rw [hz]
    simp [Builtin.zeroCells]
    apply List.ext_getElem
    · simp
    · intro i h1 h2
      simp at h1
      simp [Nat.mod_eq_of_lt h2, List.getElem?_eq_getElem h2]
  have hst := run_storeCells_cells (P := P) b o zs 0 w (by simpa using hc) (by simpa using hf) h1
  simp only [Nat.add_zero] at hst
  simp [Builtin.clear_, run_underlying ht, hv, hzc, hst]
theorem reps_take {α : Type} {R : α → List Value → Prop} {K : Nat} {xs : List α} {cs : List Value} (h : Reps R K xs cs) (i : Nat) (hi : i < xs.length) : Reps R K (xs.eraseIdx i) (cs.take (i * K) ++ cs.drop ((i + 1) * K)) := by
  have q1 : (i + 1) * K = i * K + K := by rw [Nat.add_mul, Nat.one_mul]
  have q3 : (i + 1) * K ≤ xs.length * K := Nat.mul_le_mul_right K (by omega)
  have hl := h.1
  refine ⟨?_, fun j p hp => ?_⟩
  · rw [List.length_append, List.length_take, List.length_drop, hl, List.length_eraseIdx, if_pos hi, Nat.sub_mul, Nat.one_mul]
    omega
  · rw [List.getElem?_eraseIdx] at hp
    by_cases hj : j < i
    · rw [if_pos hj] at hp
      have q4 : (j + 1) * K ≤ i * K := Nat.mul_le_mul_right K (by omega)
      have q5 : (j + 1) * K = j * K + K := by rw [Nat.add_mul, Nat.one_mul]
      have e := h.2 j p hp
      have e2 : ((cs.take (i * K) ++ cs.drop ((i + 1) * K)).drop (j * K)).take K = (cs.drop (j * K)).take K := by
        rw [List.drop_append_of_le_length (by rw [List.length_take]; omega), List.take_append_of_le_length (by rw [List.length_drop, List.length_take]; omega), List.drop_take, List.take_take, Nat.min_eq_left (by omega)]
      rw [e2]
      exact e
    · rw [if_neg hj] at hp
      have q4 : i * K ≤ j * K := Nat.mul_le_mul_right K (by omega)
      have e := h.2 (j + 1) p hp
      have e2 : ((cs.take (i * K) ++ cs.drop ((i + 1) * K)).drop (j * K)).take K = (cs.drop ((j + 1) * K)).take K := by
        have hlt : (cs.take (i * K)).length = i * K := by rw [List.length_take]; omega
        rw [List.drop_append, hlt, List.drop_eq_nil_of_le (by omega), List.nil_append, List.drop_drop]
        congr 2
        rw [Nat.add_mul j 1, Nat.one_mul]
        omega
      rw [e2]
      exact e
theorem R_del {α : Type} {d : Kd α} {e : Nat} {w : World} {base g n cap i : Nat} {ok : Nat → Prop} {xs : List α} {zs : List Value} (h : d.R e w base ok (.slice (some ⟨g, 0, none⟩) n cap) xs) (hi : i < xs.length) (hz : zs.length = d.sz) :
    ∃ cs, w.ownsRow base e d.sz (.slice (some ⟨g, 0, none⟩) n cap) n cs ∧ n = xs.length ∧ (∀ u ∈ cs, u.oneCell' = true) ∧ d.R e (delW w g (i * d.sz) ((n - 1) * d.sz) (cs.drop ((i + 1) * d.sz)) zs) base ok (.slice (some ⟨g, 0, none⟩) (n - 1) cap) (xs.eraseIdx i) := by
  obtain ⟨h0, cs, ho, hr⟩ := h
  have hn : n = xs.length := by
    obtain ⟨A, c, e1, _⟩ := OwnRow.slice_ (⟨cs, ho, hr⟩ : OwnRow _ e d.sz w base _ xs)
    injection e1
  subst hn
  refine ⟨cs, ho, rfl, ?_, h0, cs.take (i * d.sz) ++ cs.drop ((i + 1) * d.sz), ?_, ?_⟩
  · intro u hu
    obtain ⟨t, ht, rfl⟩ := List.mem_iff_getElem.1 hu
    have hz0 : 0 < d.sz := by
      rcases Nat.eq_zero_or_pos d.sz with q | q
      · have := hr.1; rw [q, Nat.mul_zero] at this; omega
      · exact q
    have hq : t / d.sz < xs.length := (Nat.div_lt_iff_lt_mul hz0).2 (by rw [← hr.1]; exact ht)
    have hM := hr.2 (t / d.sz) xs[t / d.sz] (List.getElem?_eq_getElem hq)
    refine d.K_one (d.K_of_M hM) _ ?_
    have hmod : t % d.sz < d.sz := Nat.mod_lt _ hz0
    have hdm : t / d.sz * d.sz + t % d.sz = t := by rw [Nat.mul_comm]; exact Nat.div_add_mod t d.sz
    refine List.mem_of_getElem? (i := t % d.sz) ?_
    rw [List.getElem?_take, if_pos hmod, List.getElem?_drop, hdm, List.getElem?_eq_getElem ht]
  · have q := delW_own ho hi hz
    rwa [List.length_eraseIdx, if_pos hi]
  · refine (reps_take hr i hi).imp_ (fun p c hp => ?_)
    exact d.M_mono (fun k hk => hk) (d.M_move (fun k hk => delW_block (fun e => hk.2 (by rw [e]; rfl))) hp)
theorem reps_map {α : Type} (enc : α → Value) (xs : List α) : Reps (fun x cs => cs = [enc x]) 1 xs (xs.map enc) := by
  refine ⟨by simp, fun j p hp => ?_⟩
  have hj : j < (xs.map enc).length := by rw [List.length_map]; exact (List.getElem?_eq_some_iff.1 hp).1
  rw [Nat.mul_one, List.drop_eq_getElem_cons hj, List.take_succ_cons, List.take_zero, List.getElem_map]
  congr 2
  exact (List.getElem?_eq_some_iff.1 hp).2

set_option maxHeartbeats 4000000 in
set_option maxRecDepth 1000000 in
theorem delHold_calls {base g n cap i j : Nat} (hj : j = i + 1) {cs : List Value} {w : World} (h : w.ownsRow base 52 2 (.slice (some ⟨g, 0, none⟩) n cap) n cs) (h1 : ∀ u ∈ cs, u.oneCell' = true) (hi : i < n) :
    Calls Tryz.prog 73 #[.slice (some ⟨g, 0, none⟩) n cap, .int .i64 (i : Int), .int .i64 (j : Int)] w fun e w' => e = .returned (.slice (some ⟨g, 0, none⟩) (n - 1) cap) ∧ w' = delW w g (i * 2) ((n - 1) * 2) (cs.drop ((i + 1) * 2)) [.int .i16 0, .int .i8 0] := by
  have hl : cs.length = n * 2 := h.1
  obtain ⟨cur, hg, hn, hm, hs, ht⟩ : ∃ cur, w.heap[g]? = some (.cells cur 52 (0, 0)) ∧ n ≤ cap ∧ cap ≤ maxLen ∧ cur.size = cap * 2 ∧ cur.toList.take (n * 2) = cs := by
    rcases h.2 with ⟨e0, _⟩ | ⟨g', cap', cur, e0, _, hg, hn, hm, hs, ht⟩
    · cases e0
    · injection e0 with e1 _ e3
      injection e1 with e1
      injection e1 with e1
      subst e1; subst e3
      exact ⟨cur, hg, hn, hm, hs, ht⟩
  have hm' : cap ≤ 9223372036854775807 := by simpa [maxLen] using hm
  have hcell : ∀ t, t < n * 2 → w.cell? ⟨g, t, none⟩ = cs[t]? := by
    intro t h
    rw [← ht, List.getElem?_take, if_pos h]
    simp [World.cell?, hg]
  rw [← hj]
  obtain ⟨news, hnews⟩ : ∃ news, news = cs.drop (j * 2) := ⟨_, rfl⟩
  rw [← hnews]
  have hij : i ≤ j := by omega
  have hlt : i < j := by omega
  have hjn : j ≤ n := by omega
  have hlen : news.length = (n - j) * 2 := by rw [hnews, List.length_drop, hl]; omega
  have hnj : ∀ q u, news[q]? = some u → w.drew.cell? ⟨g, j * 2 + q, none⟩ = some u := by
    intro q u hu
    have hq : q < news.length := (List.getElem?_eq_some_iff.1 hu).1
    rw [hnews, List.getElem?_drop] at hu
    exact (hcell _ (by omega)).trans hu
  obtain ⟨A, hA, hsrc⟩ : ∃ A : Addr, (if cap = j then some (⟨g, 0, none⟩ : Addr) else some ⟨g, j * 2, none⟩) = some A ∧ Hid (∀ t u, news[t]? = some u → w.drew.cell? (A.add t) = some u) := by
    by_cases h : cap = j
    · refine ⟨⟨g, 0, none⟩, by simp [h], fun t u hu => ?_⟩
      have h0 : news.length = 0 := by rw [hlen]; omega
      rw [List.length_eq_zero_iff.1 h0] at hu
      simp at hu
    · refine ⟨⟨g, j * 2, none⟩, by simp [h], fun t u hu => ?_⟩
      rw [Addr.add_lit]
      exact hnj t u hu
  have s1 : Hid (news.length = (n - j) * 2) := hlen
  have s2 : Hid (∀ u ∈ news, u.oneCell' = true) := by
    intro u hu
    rw [hnews] at hu
    exact h1 u (List.mem_of_mem_drop hu)
  have s3 : Hid (∀ t, t < news.length → (w.drew.cell? ⟨g, 0 + i * 2 + t, none⟩).isSome = true ∧ w.drew.frozen? ⟨g, 0 + i * 2 + t, none⟩ = false) := by
    intro t ht
    rw [hlen] at ht
    refine ⟨?_, by show w.frozen? _ = false; simp [World.frozen?, hg]⟩
    show (w.cell? _).isSome = true
    rw [hcell _ (by omega), List.getElem?_eq_getElem (by omega)]
    rfl
  obtain ⟨W1, hW1⟩ : ∃ W1, W1 = w.drew.setCells g (0 + i * 2) news := ⟨_, rfl⟩
  have hg1 : W1.heap[g]? = some (.cells (Go.Sort.setMany cur (0 + i * 2) news) 52 (0, 0)) := by rw [hW1]; exact heap_setCells_at g _ _ _ _ cur hg
  have hone : n - (i + (n - j)) = 1 := by omega
  have hcl : ∀ ty c, (Builtin.clear_ #[29] ty #[.slice (some ⟨g, (i + (n - j)) * 2, none⟩) (n - (i + (n - j))) c]).run Tryz.prog W1 = .ok (.tuple #[]) (W1.setCells g ((i + (n - j)) * 2) [.int .i16 0, .int .i8 0]) :=
    fun ty c => by rw [hone]; exact run_clear_one W1 _ _ ty _ [.int .i16 0, .int .i8 0] Tryz.underlying29 Tryz.zeroValue52 rfl (by decide) g ((i + (n - j)) * 2) _ (fun q hq => by simp [World.cell?, hg1]; simp at hq; omega) (fun q hq => by simp [World.frozen?, hg1])
  have hW : Hid (W1 = w.drew.setCells g (0 + i * 2) news) := hW1
  have hic : i ≤ cap := by omega
  have hjc : j ≤ cap := by omega
  obtain ⟨i0, hi0, hz0, hz1, hz2⟩ := info_parts (show (Tryz.prog.info? 52).map (fun i => (i.zero, i.size, i.bytes)) = some (some (.agg #[.int .i16 0, .int .i8 0]), 2, 4) by kernel_rfl)
  have hJ : Hid (j = i + 1) := hj
  clear hj hone hW1 hg1 hcell hnj hlen hg ht hs h hl
  go_enter Tryz.func73, Tryz.ntmps73
  go_wp2_with fail
  go_region_law (refine step_append_room rfl (.tmp 22) (.tmp 25) 29 rfl 52 i0 2 Tryz.underlying29 hi0 hz1 g 0 i cap (by simp [Act.eval, Act.put]) A (n - j) (cap - j) news (by simp [Act.eval, Act.put]) s1.out hsrc.out s2.out (by omega) s3.out ?_; rw [← hW.out])
  have hne : ¬ (cap = i + (n - j)) := by have := hJ.out; omega
  go_wp2
  go_ret
  have hj := hJ.out
  refine ⟨by rw [show i + (n - j) = n - 1 by omega]; rfl, ?_⟩
  rw [hW.out, show i + (n - j) = n - 1 by omega, Nat.zero_add]
  rfl

/-! ### a sort of holds -/
/-- A hold on a knot, by who is there. -/
def encT (who : Nat → Int) (x : Fin 128) : List Value := [.int .i16 (who x.val), .int .i8 (x.val : Int)]
def cfT (x y : Fin 128) : Int := (x.val : Int) - (y.val : Int)
theorem ltT (x y : Fin 128) : ltOf cfT x y = decide (x.val < y.val) := by
  unfold ltOf cfT
  by_cases h : x.val < y.val
  · rw [decide_eq_true h, decide_eq_true (by omega)]
  · rw [decide_eq_false h, decide_eq_false (by omega)]
theorem swoT : SWO (ltOf cfT) where
  irrefl x := by rw [ltT]; simp
  trans x y z h1 h2 := by rw [ltT] at *; simp at *; omega
  ntrans x y z h1 h2 := by rw [ltT] at *; simp at *; omega
set_option maxHeartbeats 4000000 in
theorem takeCmp (who : Nat → Int) (x y : Fin 128) (W : World) : Calls Tryz.prog 57 #[.agg (encT who x).toArray, .agg (encT who y).toArray] W fun e w' => e = .returned (.int .i64 (cfT x y)) ∧ ∃ q os', w' = grow (W.drewN q) os' := by
  unfold encT cfT
  obtain ⟨x, hx⟩ := x
  obtain ⟨y, hy⟩ := y
  have h1 : wrap64 ((x : Int) - (y : Int)) = (x : Int) - (y : Int) := by simp only [wrap64]; omega
  have h2 : wrap64 (x : Int) = (x : Int) := by simp only [wrap64]; omega
  have h3 : wrap64 (y : Int) = (y : Int) := by simp only [wrap64]; omega
  generalize who x = a
  generalize who y = b
  go_enter Tryz.func57, Tryz.ntmps57
  go_wp2
  go_ret
  exact ⟨rfl, 0, _, by rw [alloc_eq_grow, alloc_eq_grow, grow_grow]; rfl⟩
def cellsT (who : Nat → Int) (ks : List (Fin 128)) : List Value := (flatK (encT who) 2 ks.toArray).toList
theorem cellsT_len (who : Nat → Int) (ks : List (Fin 128)) : (cellsT who ks).length = ks.length * 2 := by
  unfold cellsT
  rw [Array.length_toList, size_flatK, List.size_toArray]
set_option maxHeartbeats 4000000 in
/-- The sort of holds: what it leaves is the one list in the order of the knots. -/
theorem sortT_calls (who : Nat → Int) (ks kt : List (Fin 128)) (hp : kt.Perm ks) (hs : kt.Pairwise (fun a b => a.val ≤ b.val)) {base g cap : Nat} {w0 w : World} (ho : w.ownsRow base 52 2 (.slice (some ⟨g, 0, none⟩) ks.length cap) ks.length (cellsT who ks)) (hB : Below base w0 w) (hn : ks.length ≤ 100000) :
    Calls Tryz.prog 56 #[.slice (some ⟨g, 0, none⟩) ks.length cap, .func (.func 57) #[] #[]] w fun e w' => e = .returned (.tuple #[]) ∧ w'.ownsRow base 52 2 (.slice (some ⟨g, 0, none⟩) ks.length cap) ks.length (cellsT who kt) ∧ Below base w0 w' := by
  rcases ho.2 with ⟨e0, _⟩ | ⟨g', cap', cur, e0, hb, hg, hnc, hm, hsz, ht⟩
  · cases e0
  · injection e0 with e1 _ e3
    injection e1 with e1
    injection e1 with e1
    subst e1; subst e3
    have hlt : g < w.heap.size := (Array.getElem?_eq_some_iff.1 hg).1
    have hfl : (flatK (encT who) 2 ks.toArray).size = ks.length * 2 := by rw [size_flatK, List.size_toArray]
    have hH : HoldsK (encT who) 2 w g 0 ks.toArray := by
      intro j hj
      rw [hfl] at hj
      have hjc : j < cur.size := by rw [hsz]; exact Nat.lt_of_lt_of_le hj (Nat.mul_le_mul_right 2 hnc)
      have hc : cur[j]? = some ((flatK (encT who) 2 ks.toArray)[j]!) := by
        have h1 : (cur.toList.take (ks.length * 2))[j]? = (cellsT who ks)[j]? := by rw [ht]
        rw [List.getElem?_take, if_pos hj, Array.getElem?_toList] at h1
        rw [h1]
        unfold cellsT
        rw [Array.getElem?_toList, getElem!_pos _ j (by rw [hfl]; exact hj), Array.getElem?_eq_getElem (by rw [hfl]; exact hj)]
      refine ⟨?_, ?_⟩
      · simp only [World.cell?, Nat.zero_add, hg]; exact hc
      · simp [World.frozen?, hg]
    have eg : ∀ args w, (callFunc 57 args).run Tryz.prog w = .ok (.enter 57 args) w := enters_of Tryz.func57 (by kernel_rfl) rfl
    have hcmp : CmpLays Tryz.prog 57 #[] (encT who) 2 cfT g 0 ks.toArray.size w := fun _ _ _ _ x y => takeCmp who x y _
    have hcon := AnyQ.slices_SortFunc Tryz.sortRow 2 Tryz.isAgg52 Tryz.sizeOf52 (encT who) (fun _ => rfl) (fun x v hv => by simp [encT] at hv; rcases hv with rfl | rfl <;> rfl) cfT swoT 57 #[] g 0 cap ks.toArray w eg hcmp hH hlt (by rw [List.size_toArray]; omega)
    refine Calls.mono (show Calls Tryz.prog 56 _ w _ from hcon) ?_
    rintro e w' ⟨rfl, d', n, os, hpm, hso, rfl⟩
    have hd : d'.toList = kt := by
      obtain ⟨q1, _, q3⟩ := hpm
      have e1 : d'.extract 0 ks.toArray.size = d' := by rw [← q1]; exact Array.extract_size
      rw [e1, Array.extract_size, List.toList_toArray] at q3
      refine List.Perm.eq_of_pairwise (le := fun x y : Fin 128 => x.val ≤ y.val) (fun a b _ _ h1 h2 => Fin.ext (Nat.le_antisymm h1 h2)) ?_ hs (q3.trans hp.symm)
      rw [List.pairwise_iff_getElem]
      intro i j hi hj hij
      have hh := hso i j (Nat.zero_le _) hij (by rw [← q1]; simpa using hj)
      rw [ltT, getElem!_pos d' j (by simpa using hj), getElem!_pos d' i (by simpa using hi)] at hh
      have := of_decide_eq_false hh
      simp only [Array.getElem_toList]
      omega
    have hdk : d' = kt.toArray := by rw [← hd]
    subst hdk
    have hkl : kt.length = ks.length := hp.length_eq
    refine ⟨rfl, ⟨by rw [cellsT_len, hkl], .inr ⟨g, cap, putCells id 0 (flatK (encT who) 2 kt.toArray) cur, rfl, hb, ?_, hnc, hm, by simpa [putCells] using hsz, ?_⟩⟩, ?_⟩
    · have hin : (putRow id (Sort.ahead w n) g 0 (flatK (encT who) 2 kt.toArray)).heap[g]? = some (.cells (putCells id 0 (flatK (encT who) 2 kt.toArray) cur) 52 (0, 0)) := by
        simp [putRow, mapBlock, Sort.ahead, Array.getElem?_modify, hg, onCells]
      have hlt2 := (Array.getElem?_eq_some_iff.1 hin).1
      show ((putRow id (Sort.ahead w n) g 0 (flatK (encT who) 2 kt.toArray)).heap ++ os)[g]? = _
      rw [Array.getElem?_append_left hlt2]
      exact hin
    · apply List.ext_getElem?
      intro j
      rw [List.getElem?_take, Array.getElem?_toList]
      have hfl2 : (flatK (encT who) 2 kt.toArray).size = ks.length * 2 := by rw [size_flatK, List.size_toArray, hkl]
      by_cases hj : j < ks.length * 2
      · have hjc : j < cur.size := by rw [hsz]; exact Nat.lt_of_lt_of_le hj (Nat.mul_le_mul_right 2 hnc)
        rw [if_pos hj]
        simp only [putCells, Array.getElem?_mapIdx, Array.getElem?_eq_getElem hjc, Option.map_some]
        rw [if_pos (by simp; omega)]
        unfold cellsT
        rw [Array.getElem?_toList, Array.getElem?_eq_getElem (by omega)]
        simp only [Nat.sub_zero, id]
        rw [getElem!_pos _ j (by omega)]
      · rw [if_neg hj, List.getElem?_eq_none (by rw [cellsT_len, hkl]; omega)]
    · have hbb := Go.Lib.below_putRow (enc := (id : Value → Value)) (q := n) (d := flatK (encT who) 2 kt.toArray) hB hb
      refine ⟨hbb.os, hbb.tape, hbb.output, ?_, fun k hk => ?_⟩
      · refine Nat.le_trans hbb.size ?_
        show _ ≤ ((putRow id (Sort.ahead w n) g 0 (flatK (encT who) 2 kt.toArray)).heap ++ os).size
        rw [Array.size_append]; omega
      · have h1 := hbb.block k hk
        have hks : k < (putRow id (Sort.ahead w n) g 0 (flatK (encT who) 2 kt.toArray)).heap.size := by
          have : (putRow id (Sort.ahead w n) g 0 (flatK (encT who) 2 kt.toArray)).heap.size = w.heap.size := by simp [putRow, mapBlock, Sort.ahead]
          omega
        show ((putRow id (Sort.ahead w n) g 0 (flatK (encT who) 2 kt.toArray)).heap ++ os)[k]? = _
        rw [Array.getElem?_append_left hks]
        exact h1
theorem take_size (W : World) (o : Obj) : (W.alloc o).heap.size = W.heap.size + 1 := by rw [World.alloc]; simp only [Array.size_push]
theorem blk2_ {w : World} {g : Nat} {u v : Value} {t : TypeId} (h : w.heap[g]? = some (.cells #[u, v] t (0, 0))) : w.cell? ⟨g, 0, none⟩ = some u ∧ w.cell? ⟨g, 1, none⟩ = some v := by simp [World.cell?, h]
/-- append of one struct to a row of the call's own, as a step of a region that draws its order. -/
theorem step_append_cells {P : Program} {ops : Array Oper} {o : Oper} {a : Act} {w : World} {K : Act → World → Prop} {Q : Exit → Act → World → Prop} {E : Prop}
    (hgd : o.guard = none) (s x : Operand) (t e : TypeId) (z : Value) (size bytes : Nat) (ho : o.op = .call { callee := .builtin .append, args := #[s, x], argTypes := #[t, t] })
    (ht : P.underlying t = some (.slice e)) (hinfo : (P.info? e).map (fun i => (i.zero, i.size, i.bytes)) = some (some z, size, bytes)) (hz : z.cells.size = size) (hs0 : 0 < size) (hb0 : 0 < bytes)
    (base : Nat) (v : Value) (n : Nat) (xs cs : List Value) (hcs : cs.length = size) (h1 : ∀ u ∈ cs, u.oneCell' = true) (b : Nat) (hs : a.eval s = v) (hx : a.eval x = .slice (some ⟨b, 0, none⟩) 1 1)
    (HO : w.ownsRow base e size v n xs) (hw : w.heap[b]? = some (.cells cs.toArray e (0, 0))) (hbase : base ≤ w.heap.size) (hl : (n + 1) * bytes ≤ 140737488355328)
    (h : ∀ gb cap w1, w1.ownsRow base e size (.slice (some ⟨gb, 0, none⟩) (n + 1) cap) (n + 1) (xs ++ cs) → w.grownBy w1 v.ownBlock → K (a.put o.dst (.slice (some ⟨gb, 0, none⟩) (n + 1) cap)) w1) :
    if Region.wanted o (yielded ops a.tmps) = true then Oper.wp P o a w K Q else E := by
  obtain ⟨ie, hie, hz0, hz1, hz2⟩ := info_parts hinfo
  have hlen : n + 1 ≤ 140737488355328 := Nat.le_trans (Nat.le_mul_of_pos_right _ hb0) hl
  have hnw := World.news_of_block (w := w) (B := b) (cs := cs.toArray) (t := e) (fr := (0, 0)) hw
  refine step_append_lies w hgd s x t ho base e ie z size bytes ht hie hz0 hz1 hz2 hz hs0 v n xs hs HO ⟨b, 0, none⟩ 1 1 cs hx (by omega) (by simpa using hnw) h1 (by omega) (by simp only [maxLen]; omega) hl hbase _ rfl ?_
  intro g cap w' h2 h3 h4 h5
  exact h g cap w' h2 h3
theorem cellsT_get (who : Nat → Int) (q : List (Fin 128)) (j : Nat) (hj : j < q.length * 2) : (cellsT who q)[j]? = some ((encT who q.toArray[j / 2]!)[j % 2]!) := by
  unfold cellsT
  rw [Array.getElem?_toList, Array.getElem?_eq_getElem (by rw [size_flatK, List.size_toArray]; exact hj)]
  congr 1
  have := get_flatK (encT who) 2 q.toArray j (by rw [List.size_toArray]; exact hj)
  rw [← this, getElem!_pos _ j (by rw [size_flatK, List.size_toArray]; exact hj)]
theorem cellsT_pair {α : Type} (who : Nat → Int) (xs : List α) (f0 f1 : α → Int) (kf : α → Fin 128) (hk : ∀ x ∈ xs, who (kf x).val = f0 x ∧ ((kf x).val : Int) = f1 x) (j : Nat) (p : α) (hp : xs[j]? = some p) (t : Nat) (ht : t < 2) : (cellsT who (xs.map kf))[j * 2 + t]? = [Value.int .i16 (f0 p), Value.int .i8 (f1 p)][t]? := by
  obtain ⟨hj, hpe⟩ := List.getElem?_eq_some_iff.1 hp
  rw [cellsT_get who _ _ (by rw [List.length_map]; omega)]
  have e1 : (j * 2 + t) / 2 = j := by omega
  have e2 : (j * 2 + t) % 2 = t := by omega
  obtain ⟨h0, h1⟩ := hk p (List.mem_of_getElem? hp)
  have e3 : (xs.map kf).toArray[j]! = kf p := by
    rw [getElem!_pos _ _ (by simp; omega)]
    simp only [List.getElem_toArray, List.getElem_map, hpe]
  rw [e1, e2, e3]
  unfold encT
  rw [h0, h1]
  match t, ht with
  | 0, _ => rfl
  | 1, _ => rfl
theorem cells_of_reps {α : Type} {R : α → List Value → Prop} {cs : List Value} (xs : List α) (f0 f1 : α → Int) (hR : ∀ x c, R x c → c = [.int .i16 (f0 x), .int .i8 (f1 x)]) (hr : Reps R 2 xs cs) (who : Nat → Int) (kf : α → Fin 128) (hk : ∀ x ∈ xs, who (kf x).val = f0 x ∧ ((kf x).val : Int) = f1 x) : cs = cellsT who (xs.map kf) := by
  apply List.ext_getElem?
  intro j
  by_cases hj : j < xs.length * 2
  · obtain ⟨p, hp⟩ : ∃ p, xs[j / 2]? = some p := ⟨xs[j / 2], List.getElem?_eq_getElem (by omega)⟩
    have h1 := hR p _ (hr.2 (j / 2) p hp)
    have h2 := cellsT_pair who xs f0 f1 kf hk (j / 2) p hp (j % 2) (by omega)
    rw [show j / 2 * 2 + j % 2 = j by omega, ← h1, List.getElem?_take, if_pos (by omega), List.getElem?_drop, show j / 2 * 2 + j % 2 = j by omega] at h2
    exact h2.symm
  · rw [List.getElem?_eq_none (by rw [hr.1]; omega), List.getElem?_eq_none (by rw [cellsT_len, List.length_map]; omega)]
theorem reps_of_cells {α : Type} {R : α → List Value → Prop} (xs : List α) (f0 f1 : α → Int) (hR : ∀ x, R x [.int .i16 (f0 x), .int .i8 (f1 x)]) (who : Nat → Int) (kf : α → Fin 128) (hk : ∀ x ∈ xs, who (kf x).val = f0 x ∧ ((kf x).val : Int) = f1 x) : Reps R 2 xs (cellsT who (xs.map kf)) := by
  refine ⟨by rw [cellsT_len, List.length_map], fun j p hp => ?_⟩
  have e : ((cellsT who (xs.map kf)).drop (j * 2)).take 2 = [.int .i16 (f0 p), .int .i8 (f1 p)] := by
    apply List.ext_getElem?
    intro t
    by_cases ht : t < 2
    · rw [List.getElem?_take, if_pos ht, List.getElem?_drop]
      exact cellsT_pair who xs f0 f1 kf hk j p hp t ht
    · rw [List.getElem?_eq_none (by rw [List.length_take]; omega), List.getElem?_eq_none (by simp; omega)]
  rw [e]
  exact hR p
def whoT {α : Type} (f0 f1 : α → Int) (xs : List α) (n : Nat) : Int := ((xs.find? (fun x => f1 x == (n : Int))).map f0).getD 0
theorem whoT_mem {α : Type} (f0 f1 : α → Int) : ∀ (xs : List α), (xs.map f1).Pairwise (fun a b => a ≠ b) → ∀ x ∈ xs, ∀ n : Nat, (n : Int) = f1 x → whoT f0 f1 xs n = f0 x := by
  intro xs
  induction xs with
  | nil => intro _ x hx; exact absurd hx (by simp)
  | cons y r ih =>
    intro hp x hx n hn
    rw [List.map_cons, List.pairwise_cons] at hp
    unfold whoT
    rw [List.find?_cons]
    by_cases e : f1 y = (n : Int)
    · rw [beq_iff_eq.2 e]
      rcases List.mem_cons.1 hx with h | h
      · subst h; rfl
      · exact absurd (e.trans hn) (hp.1 _ (List.mem_map.2 ⟨x, h, rfl⟩))
    · rw [beq_eq_false_iff_ne.2 e]
      rcases List.mem_cons.1 hx with h | h
      · subst h; exact absurd hn.symm e
      · exact ih hp.2 x h n hn
/-- A list in the order of its keys, and one more. -/
def insT {α : Type} (f1 : α → Int) (h : α) : List α → List α
  | [] => [h]
  | x :: r => if f1 x < f1 h then x :: insT f1 h r else h :: x :: r
theorem insT_perm {α : Type} (f1 : α → Int) (h : α) : ∀ xs : List α, (insT f1 h xs).Perm (xs ++ [h]) := by
  intro xs
  induction xs with
  | nil => exact List.Perm.refl _
  | cons x r ih =>
    unfold insT
    split
    · exact (ih.cons x)
    · exact (List.perm_append_singleton h (x :: r)).symm
theorem insT_sorted {α : Type} (f1 : α → Int) (h : α) : ∀ xs : List α, xs.Pairwise (fun a b => f1 a < f1 b) → (∀ x ∈ xs, f1 x ≠ f1 h) → (insT f1 h xs).Pairwise (fun a b => f1 a < f1 b) := by
  intro xs
  induction xs with
  | nil => intro _ _; exact List.pairwise_singleton _ _
  | cons x r ih =>
    intro hp hn
    rw [List.pairwise_cons] at hp
    unfold insT
    split
    · rename_i hlt
      rw [List.pairwise_cons]
      refine ⟨fun y hy => ?_, ih hp.2 (fun y hy => hn y (by simp [hy]))⟩
      rcases List.mem_append.1 ((insT_perm f1 h r).mem_iff.1 hy) with q | q
      · exact hp.1 y q
      · rw [List.mem_singleton.1 q]; exact hlt
    · rename_i hlt
      have hx : f1 h < f1 x := by have := hn x (by simp); omega
      rw [List.pairwise_cons]
      refine ⟨fun y hy => ?_, List.pairwise_cons.2 hp⟩
      rcases List.mem_cons.1 hy with q | q
      · rw [q]; exact hx
      · have := hp.1 y q; omega
theorem cellsT_snoc (who : Nat → Int) (ks : List (Fin 128)) (k : Fin 128) : cellsT who (ks ++ [k]) = cellsT who ks ++ encT who k := by
  apply List.ext_getElem?
  intro j
  have hl := cellsT_len who ks
  have hget := cellsT_get who
  by_cases h1 : j < ks.length * 2
  · rw [List.getElem?_append_left (by omega), hget _ j (by rw [List.length_append]; omega), hget _ j h1]
    have e : (ks ++ [k]).toArray[j / 2]! = ks.toArray[j / 2]! := by
      rw [getElem!_pos _ _ (by simp; omega), getElem!_pos _ _ (by simp; omega)]
      simp only [List.getElem_toArray]
      rw [List.getElem_append_left (by omega)]
    rw [e]
  · rw [List.getElem?_append_right (by omega), hl]
    by_cases h2 : j < ks.length * 2 + 2
    · rw [hget _ j (by rw [List.length_append]; simp only [List.length_singleton]; omega)]
      have e : (ks ++ [k]).toArray[j / 2]! = k := by
        have hj2 : j / 2 = ks.length := by omega
        rw [getElem!_pos _ _ (by simp; omega)]
        simp only [List.getElem_toArray]
        rw [List.getElem_append_right (by omega)]
        simp
      rw [e]
      have : j - ks.length * 2 = 0 ∨ j - ks.length * 2 = 1 := by omega
      rcases this with q | q
      · rw [q, show j % 2 = 0 by omega]; rfl
      · rw [q, show j % 2 = 1 by omega]; rfl
    · rw [List.getElem?_eq_none (by rw [cellsT_len, List.length_append]; simp only [List.length_singleton]; omega), List.getElem?_eq_none (by simp [encT]; omega)]
set_option maxHeartbeats 8000000 in
set_option maxRecDepth 100000 in
theorem takeHold_calls (p0 : Int) (A0 : Option Addr) (n0 c0 : Nat) (A1 : Option Addr) (c1 : Nat) (who : Nat → Int) (ks kt : List (Fin 128)) (hk : Fin 128) (h0 h1 : Int) (e0 : who hk.val = h0) (e1 : (hk.val : Int) = h1) (w : World) (hn : ks.length ≤ 1000) (hp : kt.Perm (ks ++ [hk])) (hs : kt.Pairwise (fun a b => a.val ≤ b.val))
    (hvalid : ∀ W, Below w.heap.size w W → Calls Tryz.prog 15 #[.agg #[.int .i16 p0, .slice A0 n0 c0], .slice A1 ks.length c1] W fun e w' => e = .returned (.bool true) ∧ Below W.heap.size W w')
    (hhold : ∀ W, Below w.heap.size w W → Calls Tryz.prog 44 #[.agg #[.int .i16 p0, .slice A0 n0 c0], .agg #[.int .i16 h0, .int .i8 h1]] W fun e w' => e = .returned (.bool true) ∧ Below W.heap.size W w')
    (hcont : ∀ W b, Below w.heap.size w W → W.heap[b]? = some (.cells #[.int .i16 h0, .int .i8 h1] 52 (0, 0)) → Calls Tryz.prog 45 #[.slice A1 ks.length c1, .func (.func 55) #[] #[.pointer (some ⟨b, 0, none⟩)]] W fun e w' => e = .returned (.bool false) ∧ Below W.heap.size W w')
    (hclone : ∀ W, Below w.heap.size w W → Calls Tryz.prog 51 #[.slice A1 ks.length c1] W fun e w' => ∃ v : Value, e = .returned v ∧ w'.ownsRow W.heap.size 52 2 v ks.length (cellsT who ks) ∧ Below W.heap.size W w') :
    Calls Tryz.prog 27 #[.agg #[.int .i16 p0, .slice A0 n0 c0], .slice A1 ks.length c1, .agg #[.int .i16 h0, .int .i8 h1]] w fun e w' => ∃ v : Value, e = .returned (.tuple #[v, .int .i64 0]) ∧ w'.ownsRow w.heap.size 52 2 v (ks.length + 1) (cellsT who kt) ∧ Below w.heap.size w w' := by
  have hs1 := take_size w (.cells #[.int .i16 p0, .slice A0 n0 c0] 27)
  obtain ⟨W0, hW0⟩ : ∃ W0, W0 = (w.alloc (.cells #[.int .i16 p0, .slice A0 n0 c0] 27)).alloc (.cells #[.int .i16 h0, .int .i8 h1] 52) := ⟨_, rfl⟩
  have hs2 : W0.heap.size = w.heap.size + 2 := by rw [hW0, take_size]; omega
  have hB0 : Below w.heap.size w W0 := by rw [hW0]; exact Below.alloc (Below.alloc (Below.refl _ _) (Nat.le_refl _) _) (by omega) _
  have hbp0 : W0.heap[w.heap.size]? = some (.cells #[.int .i16 p0, .slice A0 n0 c0] 27 (0, 0)) := by rw [hW0]; exact (Below.heap_alloc _ _ _ (by omega)).trans (heap_alloc_new w _)
  have hbh0 : W0.heap[w.heap.size + 1]? = some (.cells #[.int .i16 h0, .int .i8 h1] 52 (0, 0)) := by
    have := heap_alloc_new (w.alloc (.cells #[.int .i16 p0, .slice A0 n0 c0] 27)) (.cells #[.int .i16 h0, .int .i8 h1] 52)
    rw [hs1] at this
    rw [hW0]; exact this
  have hcp0 := blk2_ hbp0
  have hch0 := blk2_ hbh0
  have hkeep : ∀ W, Below W0.heap.size W0 W → (W.cell? ⟨w.heap.size, 0, none⟩ = some (.int .i16 p0) ∧ W.cell? ⟨w.heap.size, 1, none⟩ = some (.slice A0 n0 c0)) ∧ (W.cell? ⟨w.heap.size + 1, 0, none⟩ = some (.int .i16 h0) ∧ W.cell? ⟨w.heap.size + 1, 1, none⟩ = some (.int .i8 h1)) ∧ W.heap[w.heap.size + 1]? = some (.cells #[.int .i16 h0, .int .i8 h1] 52 (0, 0)) ∧ Below w.heap.size w W := fun W q =>
    ⟨blk2_ ((q.block _ (by omega)).trans hbp0), blk2_ ((q.block _ (by omega)).trans hbh0), (q.block _ (by omega)).trans hbh0, hB0.trans (q.mono (by omega))⟩
  have hv := hvalid W0 hB0
  clear hvalid
  obtain ⟨hcp0a, hcp0b⟩ := hcp0
  obtain ⟨hch0a, hch0b⟩ := hch0
  subst hW0
  go_enter Tryz.func27, Tryz.ntmps27
  go_wp2_with (first | (go_at_call 15; refine hv.mono ?_; rintro e w1 ⟨rfl, hB1⟩; obtain ⟨⟨k1, k2⟩, ⟨k3, k4⟩, k5, k6⟩ := hkeep _ hB1) | (go_at_call 44; refine (hhold _ k6).mono ?_; rintro e w2 ⟨rfl, hB2⟩; have hB2' := hB1.trans (hB2.mono hB1.size); obtain ⟨⟨j1, j2⟩, ⟨j3, j4⟩, j5, j6⟩ := hkeep _ hB2') | (go_at_call 45; refine (hcont _ _ j6 j5).mono ?_; rintro e w3 ⟨rfl, hB3⟩; have hB3' := hB2'.trans (hB3.mono hB2'.size); obtain ⟨⟨m1, m2⟩, ⟨m3, m4⟩, m5, m6⟩ := hkeep _ hB3'))
  have hlt : w.heap.size + 1 < w3.heap.size := by have := hB3'.size; omega
  have hbo := m6.size
  have hBa : Below w.heap.size w (w3.alloc (.cells #[.int .i16 h0, .int .i8 h1] 52)) := Below.alloc m6 m6.size _
  have hnw := heap_alloc_new w3 (.cells #[.int .i16 h0, .int .i8 h1] 52)
  have hsa := take_size w3 (.cells #[.int .i16 h0, .int .i8 h1] 52)
  have hlta : w.heap.size + 1 < (w3.alloc (.cells #[.int .i16 h0, .int .i8 h1] 52)).heap.size := by rw [hsa]; omega
  have hlt3 : w3.heap.size < (w3.alloc (.cells #[.int .i16 h0, .int .i8 h1] 52)).heap.size := by rw [hsa]; omega
  have hH : Hid (cellsT who ks ++ [.int .i16 h0, .int .i8 h1] = cellsT who (ks ++ [hk])) := by
    show _ = _
    rw [cellsT_snoc]
    unfold encT
    rw [e0, e1]
  clear hhold hcont hv hcp0a hcp0b hch0a hch0b k1 k2 k3 k4 k5 k6 j1 j2 j3 j4 j5 j6 hB1 hB2 hB2' hbp0 hbh0 e0 e1 hs1 hs2
  go_region_law (first | (go_simp; go_at_call 51; refine (hclone _ (by first | exact m6.drew | exact hBa.drew | exact m6 | exact hBa)).mono ?_; rintro e w4 ⟨v, rfl, hoC, hBC⟩; have hB4 : Below w.heap.size w w4 := (by first | exact m6.drew.trans (hBC.mono hbo) | exact hBa.drew.trans (hBC.mono hBa.size) | exact m6.trans (hBC.mono hbo) | exact hBa.trans (hBC.mono hBa.size)); have hoD : w4.ownsRow w.heap.size 52 2 v ks.length (cellsT who ks) := own_weaken hoC (by first | exact hbo | exact hBa.size | exact hBa.drew.size); obtain ⟨x3, x4⟩ := blk2_ ((hBC.block (w.heap.size + 1) (by first | exact hlt | exact hlta)).trans (by first | exact m5 | exact (Below.heap_alloc w3 _ _ hlt).trans m5))) | (refine step_append_cells rfl (.tmp 24) (.tmp 26) 29 52 (.agg #[.int .i16 0, .int .i8 0]) 2 4 rfl Tryz.underlying29 (show (Tryz.prog.info? 52).map (fun i => (i.zero, i.size, i.bytes)) = some (some (.agg #[.int .i16 0, .int .i8 0]), 2, 4) by kernel_rfl) rfl (by omega) (by omega) w.heap.size v ks.length (cellsT who ks) [.int .i16 h0, .int .i8 h1] rfl (by simp [Value.oneCell']) w4.heap.size (by simp [Act.eval, Act.put]) (by simp [Act.eval, Act.put]) (by first | exact own_alloc hoD _ | exact hoD) (by exact heap_alloc_new w4 _) (by first | exact hB4.size | exact (Below.alloc hB4 hB4.size _).size) (by omega) ?_; intro gb cap w5 ho5 hg5) | (refine step_append_cells rfl (.tmp 24) (.tmp 26) 29 52 (.agg #[.int .i16 0, .int .i8 0]) 2 4 rfl Tryz.underlying29 (show (Tryz.prog.info? 52).map (fun i => (i.zero, i.size, i.bytes)) = some (some (.agg #[.int .i16 0, .int .i8 0]), 2, 4) by kernel_rfl) rfl (by omega) (by omega) w.heap.size v ks.length (cellsT who ks) [.int .i16 h0, .int .i8 h1] rfl (by simp [Value.oneCell']) w3.heap.size (by simp [Act.eval, Act.put]) (by simp [Act.eval, Act.put]) (by first | exact own_alloc hoD _ | exact hoD) (by exact (hBC.block _ hlt3).trans hnw) (by first | exact hB4.size | exact (Below.alloc hB4 hB4.size _).size) (by omega) ?_; intro gb cap w5 ho5 hg5))
  all_goals (
    have hBw5 : Below w.heap.size w w5 := by
      first
      | exact (Below.alloc hB4 hB4.size _).drew.grown hg5 (Below.alloc hB4 hB4.size _).size (own_base hoD)
      | exact (Below.alloc hB4 hB4.size _).grown hg5 (Below.alloc hB4 hB4.size _).size (own_base hoD)
      | exact hB4.grown hg5 hB4.size (own_base hoD)
      | exact hB4.drew.grown hg5 hB4.size (own_base hoD)
    rw [hH.out] at ho5
    have hl : (ks ++ [hk]).length = ks.length + 1 := by simp
    have hsrt := sortT_calls who (ks ++ [hk]) kt hp hs (w0 := w) (base := w.heap.size) (g := gb) (cap := cap) (w := w5) (by rw [hl]; exact ho5) hBw5 (by rw [hl]; omega)
    rw [hl] at hsrt
    clear ho5 hBw5 hg5
    go_wp2_with (go_at_call 56; refine hsrt.mono ?_; rintro e w6 ⟨rfl, ho6, hB6⟩)
    go_ret2
    exact ⟨_, rfl, ho6, hB6⟩)
set_option maxHeartbeats 8000000 in
set_option maxRecDepth 100000 in
theorem takeHold_err (p0 : Int) (A0 : Option Addr) (n0 c0 : Nat) (A1 : Option Addr) (n c1 : Nat) (h0 h1 : Int) (w : World) (vb hb cb : Bool) (hne : vb = false ∨ hb = false ∨ cb = true)
    (hvalid : ∀ W, Below w.heap.size w W → Calls Tryz.prog 15 #[.agg #[.int .i16 p0, .slice A0 n0 c0], .slice A1 n c1] W fun e w' => e = .returned (.bool vb) ∧ Below W.heap.size W w')
    (hhold : vb = true → ∀ W, Below w.heap.size w W → Calls Tryz.prog 44 #[.agg #[.int .i16 p0, .slice A0 n0 c0], .agg #[.int .i16 h0, .int .i8 h1]] W fun e w' => e = .returned (.bool hb) ∧ Below W.heap.size W w')
    (hcont : vb = true → hb = true → ∀ W b, Below w.heap.size w W → W.heap[b]? = some (.cells #[.int .i16 h0, .int .i8 h1] 52 (0, 0)) → Calls Tryz.prog 45 #[.slice A1 n c1, .func (.func 55) #[] #[.pointer (some ⟨b, 0, none⟩)]] W fun e w' => e = .returned (.bool cb) ∧ Below W.heap.size W w') :
    Calls Tryz.prog 27 #[.agg #[.int .i16 p0, .slice A0 n0 c0], .slice A1 n c1, .agg #[.int .i16 h0, .int .i8 h1]] w fun e w' => e = .returned (.tuple #[.slice none 0 0, .int .i64 (if vb = false then 1 else if hb = false then 2 else 4)]) ∧ Below w.heap.size w w' := by
  have hs1 := take_size w (.cells #[.int .i16 p0, .slice A0 n0 c0] 27)
  obtain ⟨W0, hW0⟩ : ∃ W0, W0 = (w.alloc (.cells #[.int .i16 p0, .slice A0 n0 c0] 27)).alloc (.cells #[.int .i16 h0, .int .i8 h1] 52) := ⟨_, rfl⟩
  have hs2 : W0.heap.size = w.heap.size + 2 := by rw [hW0, take_size]; omega
  have hB0 : Below w.heap.size w W0 := by rw [hW0]; exact Below.alloc (Below.alloc (Below.refl _ _) (Nat.le_refl _) _) (by omega) _
  have hbp0 : W0.heap[w.heap.size]? = some (.cells #[.int .i16 p0, .slice A0 n0 c0] 27 (0, 0)) := by rw [hW0]; exact (Below.heap_alloc _ _ _ (by omega)).trans (heap_alloc_new w _)
  have hbh0 : W0.heap[w.heap.size + 1]? = some (.cells #[.int .i16 h0, .int .i8 h1] 52 (0, 0)) := by
    have := heap_alloc_new (w.alloc (.cells #[.int .i16 p0, .slice A0 n0 c0] 27)) (.cells #[.int .i16 h0, .int .i8 h1] 52)
    rw [hs1] at this
    rw [hW0]; exact this
  have hcp0 := blk2_ hbp0
  have hch0 := blk2_ hbh0
  have hkeep : ∀ W, Below W0.heap.size W0 W → (W.cell? ⟨w.heap.size, 0, none⟩ = some (.int .i16 p0) ∧ W.cell? ⟨w.heap.size, 1, none⟩ = some (.slice A0 n0 c0)) ∧ (W.cell? ⟨w.heap.size + 1, 0, none⟩ = some (.int .i16 h0) ∧ W.cell? ⟨w.heap.size + 1, 1, none⟩ = some (.int .i8 h1)) ∧ W.heap[w.heap.size + 1]? = some (.cells #[.int .i16 h0, .int .i8 h1] 52 (0, 0)) ∧ Below w.heap.size w W := fun W q =>
    ⟨blk2_ ((q.block _ (by omega)).trans hbp0), blk2_ ((q.block _ (by omega)).trans hbh0), (q.block _ (by omega)).trans hbh0, hB0.trans (q.mono (by omega))⟩
  have hv := hvalid W0 hB0
  clear hvalid
  obtain ⟨hcp0a, hcp0b⟩ := hcp0
  obtain ⟨hch0a, hch0b⟩ := hch0
  subst hW0
  cases vb with
  | false =>
    clear hhold hcont hne
    rw [if_pos rfl]
    go_enter Tryz.func27, Tryz.ntmps27
    go_wp2_with (go_at_call 15; refine hv.mono ?_; rintro e w1 ⟨rfl, hB1⟩; obtain ⟨⟨k1, k2⟩, ⟨k3, k4⟩, k5, k6⟩ := hkeep _ hB1)
    go_ret2
    exact ⟨rfl, k6⟩
  | true =>
    have hh2 := hhold rfl
    clear hhold
    rw [if_neg (by decide)]
    cases hb with
    | false =>
      clear hcont hne
      rw [if_pos rfl]
      go_enter Tryz.func27, Tryz.ntmps27
      go_wp2_with (first | (go_at_call 15; refine hv.mono ?_; rintro e w1 ⟨rfl, hB1⟩; obtain ⟨⟨k1, k2⟩, ⟨k3, k4⟩, k5, k6⟩ := hkeep _ hB1) | (go_at_call 44; refine (hh2 _ k6).mono ?_; rintro e w2 ⟨rfl, hB2⟩; have hB2' := hB1.trans (hB2.mono hB1.size); obtain ⟨⟨j1, j2⟩, ⟨j3, j4⟩, j5, j6⟩ := hkeep _ hB2'))
      go_ret2
      exact ⟨rfl, j6⟩
    | true =>
      have hc2 := hcont rfl rfl
      clear hcont
      obtain rfl : cb = true := by simpa using hne
      clear hne
      rw [if_neg (by decide)]
      go_enter Tryz.func27, Tryz.ntmps27
      go_wp2_with (first | (go_at_call 15; refine hv.mono ?_; rintro e w1 ⟨rfl, hB1⟩; obtain ⟨⟨k1, k2⟩, ⟨k3, k4⟩, k5, k6⟩ := hkeep _ hB1) | (go_at_call 44; refine (hh2 _ k6).mono ?_; rintro e w2 ⟨rfl, hB2⟩; have hB2' := hB1.trans (hB2.mono hB1.size); obtain ⟨⟨j1, j2⟩, ⟨j3, j4⟩, j5, j6⟩ := hkeep _ hB2') | (go_at_call 45; refine (hc2 _ _ j6 j5).mono ?_; rintro e w3 ⟨rfl, hB3⟩; have hB3' := hB2'.trans (hB3.mono hB2'.size); obtain ⟨⟨m1, m2⟩, ⟨m3, m4⟩, m5, m6⟩ := hkeep _ hB3'))
      go_ret2
      exact ⟨rfl, m6⟩

/-! ### numbers in the scale of ten; texts joined -/
def Tab10a (w : World) : Prop := Lib.TabIs Tryz.prog w "internal/strconv.uint64pow10" .u64 Lib.pow10Tab
theorem tab10a_below {w w' : World} (h : Tab10a w) (hB : Below w.heap.size w w') : Tab10a w' := by
  unfold Tab10a Lib.TabIs at *
  unfold World.var? at *
  cases hg : Tryz.prog.globalNamed "internal/strconv.uint64pow10" with
  | none => rw [hg] at h; exact h
  | some g =>
    rw [hg] at h
    simp only [Option.bind_some] at h ⊢
    have hlt : g < w.heap.size := by
      rcases Nat.lt_or_ge g w.heap.size with q | q
      · exact q
      · rw [Array.getElem?_eq_none q] at h; exact absurd h (by simp)
    rw [hB.block g hlt]
    exact h
theorem decimal_callsa (n : Int) (h0 : -9223372036854775808 ≤ n) (h1 : n ≤ 9223372036854775807) (w : World) (ht : Tab10a w) :
    Calls Tryz.prog 37 #[.int .i64 n] w fun e w' => e = .returned (.string ⟨(Lib.itoa n).toArray⟩) ∧ Below w.heap.size w w' := by
  have hc := Tryz.strconv_FormatInt_10 n h0 h1 w ht
  go_enter Tryz.func37, Tryz.ntmps37
  go_wp2_with (go_at_call 64; refine hc.mono ?_; rintro e w1 ⟨rfl, k, os, rfl⟩)
  go_ret
  refine ⟨rfl, ?_⟩
  have hb : Below w.heap.size w (w.drewN k) := pw_below_drewN (Below.refl _ _) k
  refine ⟨hb.os, hb.tape, hb.output, Nat.le_trans hb.size (by simp [grow]), fun i hi => ?_⟩
  show ((w.drewN k).heap ++ os)[i]? = _
  rw [Array.getElem?_append_left (show i < (w.drewN k).heap.size from hi)]
  rfl
theorem dec_spot {w : World} {b o : Nat} {sp : Option Nat} {v : Value} (h : w.cell? ⟨b, o, sp⟩ = some v) : sp = none := by
  cases sp with
  | none => rfl
  | some s =>
    unfold World.cell? at h
    simp at h
    split at h <;> cases h
theorem join_calls (A0 : Option Addr) (c0 : Nat) (l0 : List ByteArray) (sep : ByteArray) (w : World) (hr0 : Kd.C Kd.string w A0 l0.length l0) (hc0 : l0.length ≤ c0) (hN : l0.length ≤ 140737488355328) (hl : (Lib.join (l0.map (·.data.toList)) sep.data.toList).length ≤ 140737488355328) :
    Calls Tryz.prog 38 #[.slice A0 l0.length c0, .string sep] w fun e w' => e = .returned (.string ⟨(Lib.join (l0.map (·.data.toList)) sep.data.toList).toArray⟩) ∧ Below w.heap.size w w' := by
  by_cases h0 : l0.length = 0
  · obtain rfl := List.length_eq_zero_iff.1 h0
    refine (Tryz.strings_Join_none A0 c0 sep w).mono ?_
    rintro e w' ⟨rfl, rfl⟩
    exact ⟨rfl, Below.refl _ _⟩
  · obtain ⟨⟨b, o, sp⟩, rfl, hx⟩ := Kd.at_string hr0 (0 : Int) (by omega) (by omega)
    have hsp : sp = none := dec_spot hx
    subst hsp
    have hlt := World.block_lt_of_cell? w _ hx
    refine (Tryz.strings_Join b o c0 l0 sep w (fun j x hj => ?_) hlt hN hc0 hl)
    obtain ⟨hjl, hje⟩ := List.getElem?_eq_some_iff.1 hj
    obtain ⟨ad, e_, hy⟩ := Kd.at_string hr0 (j : Int) (by omega) (by omega)
    injection e_ with e_
    subst e_
    rw [Int.toNat_natCast] at hy
    have hr : rdOf ByteArray.empty l0 (j : Int) = x := by simp [rdOf, List.getD_eq_getElem?_getD, hj]
    rw [hr] at hy
    have ha : (⟨b, o, none⟩ : Addr).add j = ⟨b, o + j, none⟩ := by
      unfold Addr.add
      split
      · rename_i hz; subst hz; rfl
      · rfl
    rw [ha] at hy
    exact hy

theorem split_length (s sep : ByteArray) (h1 : 1 ≤ sep.size) : (Go.Lib.splitB sep 0 (Go.Lib.countB s sep) s).length = Go.Lib.countB s sep + 1 := Go.Lib.splitB_all sep h1 0 _ s rfl
theorem split_small (s sep : ByteArray) (h1 : 1 ≤ sep.size) : Go.Lib.countB s sep ≤ s.size := by
  have hc := Go.Lib.countB_mul_le sep h1 s.size s (Nat.le_refl _)
  have hc1 : Go.Lib.countB s sep ≤ Go.Lib.countB s sep * sep.size := Nat.le_mul_of_pos_right _ h1
  omega

/-! ### impl.number -/
def ErrVars (w : World) : Prop := (∃ tp p, w.var? Tryz.prog "strconv.ErrSyntax" = some #[.iface tp p]) ∧ (∃ tp p, w.var? Tryz.prog "strconv.ErrRange" = some #[.iface tp p])
theorem var_below {w w' : World} {n : String} {cs : Array Value} (h : w.var? Tryz.prog n = some cs) (hB : Below w.heap.size w w') : w'.var? Tryz.prog n = some cs := by
  unfold World.var? at *
  cases hg : Tryz.prog.globalNamed n with
  | none => rw [hg] at h; exact h
  | some g =>
    rw [hg] at h
    simp only [Option.bind_some] at h ⊢
    have hlt : g < w.heap.size := by
      rcases Nat.lt_or_ge g w.heap.size with q | q
      · exact q
      · rw [Array.getElem?_eq_none q] at h; exact absurd h (by simp)
    rw [hB.block g hlt]
    exact h
def Tab10 (w : World) : Prop := Tab10a w ∧ ErrVars w
theorem tab10_below {w w' : World} (h : Tab10 w) (hB : Below w.heap.size w w') : Tab10 w' := by
  obtain ⟨h1, ⟨tp1, p1, e1⟩, ⟨tp2, p2, e2⟩⟩ := h
  exact ⟨tab10a_below h1 hB, ⟨tp1, p1, var_below e1 hB⟩, ⟨tp2, p2, var_below e2 hB⟩⟩
theorem decimal_calls (n : Int) (h0 : -9223372036854775808 ≤ n) (h1 : n ≤ 9223372036854775807) (w : World) (ht : Tab10 w) :
    Calls Tryz.prog 37 #[.int .i64 n] w fun e w' => e = .returned (.string ⟨(Lib.itoa n).toArray⟩) ∧ Below w.heap.size w w' := decimal_callsa n h0 h1 w ht.1
def numV (s : ByteArray) (most : Int) : Int × Bool := match Lib.parseIntB 64 s.data.toList with
  | .ok v => if (⟨(Lib.itoa v).toArray⟩ : ByteArray).toList = s.toList ∧ 0 ≤ v ∧ v ≤ most then (v, true) else (0, false)
  | _ => (0, false)
set_option maxHeartbeats 4000000 in
set_option maxRecDepth 100000 in
theorem within_calls (n a b : Int) (w : World) : Calls Tryz.prog 41 #[.int .i64 n, .int .i64 a, .int .i64 b] w fun e w' => e = .returned (.bool (decide (a ≤ n) && decide (n ≤ b))) ∧ w' = w := by
  go_enter Tryz.func41, Tryz.ntmps41
  go_wp2
  all_goals (go_ret; refine ⟨?_, rfl⟩; congr 2; simp only [decide_eq_true_eq, *]; first | rfl | (simp; omega) | (simp [*]))
set_option maxHeartbeats 4000000 in
set_option maxRecDepth 100000 in
theorem number_err (s : ByteArray) (most v : Int) (N te : Nat) (w w1 : World) (hB : Below w.heap.size w w1)
    (hp : Calls Tryz.prog 63 #[.string s, .int .i64 10, .int .i64 64] w fun e w' => ∃ N, e = .returned (.tuple #[.int .i64 v, .iface te (.pointer (some ⟨N, 0, none⟩))]) ∧ Below w.heap.size w w') :
    Calls Tryz.prog 36 #[.string s, .int .i64 most] w fun e w' => e = .returned (.tuple #[.int .i64 0, .bool false]) ∧ Below w.heap.size w w' := by
  go_enter Tryz.func36, Tryz.ntmps36
  go_wp2_with (go_at_call 63; refine hp.mono ?_; rintro e w2 ⟨N2, rfl, hb⟩)
  go_ret2
  exact ⟨rfl, hb⟩
set_option maxHeartbeats 4000000 in
set_option maxRecDepth 100000 in
theorem number_ok (s : ByteArray) (most v : Int) (w : World) (ht : Tab10 w) (h0 : -9223372036854775808 ≤ v) (h1 : v ≤ 9223372036854775807) (c1 : Bool) (hc1 : ((⟨(Lib.itoa v).toArray⟩ : ByteArray).toList != s.toList) = !c1) (c2 : Bool) (hc2 : (decide (0 ≤ v) && decide (v ≤ most)) = c2)
    (hp : Calls Tryz.prog 63 #[.string s, .int .i64 10, .int .i64 64] w fun e w' => e = .returned (.tuple #[.int .i64 v, .nilIface]) ∧ Below w.heap.size w w') :
    Calls Tryz.prog 36 #[.string s, .int .i64 most] w fun e w' => e = .returned (.tuple #[.int .i64 (if (c1 && c2) = true then v else 0), .bool (c1 && c2)]) ∧ Below w.heap.size w w' := by
  go_enter Tryz.func36, Tryz.ntmps36
  go_wp2_with (go_at_call 63; refine hp.mono ?_; rintro e w2 ⟨rfl, hb⟩)
  have hd := decimal_calls v h0 h1 w2 (tab10_below ht hb)
  generalize (⟨(Lib.itoa v).toArray⟩ : ByteArray) = tx at hd hc1
  cases c1 with
  | false =>
    have hc1 : (tx.toList != s.toList) = true := hc1
    go_wp2_with (go_at_call 37; refine hd.mono ?_; rintro e w3 ⟨rfl, hb3⟩)
    all_goals first | (go_ret2; exact ⟨rfl, hb.trans (hb3.mono hb.size)⟩) | simp_all
  | true =>
    have hc1 : (tx.toList != s.toList) = false := hc1
    cases c2 with
    | false =>
      go_wp2_with (go_at_call 37; refine hd.mono ?_; rintro e w3 ⟨rfl, hb3⟩)
      go_wp2_with (go_at_call 41; refine (within_calls v 0 most w3).mono ?_; rintro e w4 ⟨rfl, rfl⟩; rw [hc2])
      all_goals first | (go_ret2; exact ⟨rfl, hb.trans (hb3.mono hb.size)⟩) | simp_all
    | true =>
      go_wp2_with (go_at_call 37; refine hd.mono ?_; rintro e w3 ⟨rfl, hb3⟩)
      go_wp2_with (go_at_call 41; refine (within_calls v 0 most w3).mono ?_; rintro e w4 ⟨rfl, rfl⟩; rw [hc2])
      all_goals first | (go_ret2; exact ⟨rfl, hb.trans (hb3.mono hb.size)⟩) | simp_all
theorem number_calls (s : ByteArray) (most : Int) (w : World) (ht : Tab10 w) (hs : s.size ≤ 281474976710656) :
    Calls Tryz.prog 36 #[.string s, .int .i64 most] w fun e w' => e = .returned (.tuple #[.int .i64 (numV s most).1, .bool (numV s most).2]) ∧ Below w.heap.size w w' := by
  obtain ⟨tp1, p1, e1⟩ := ht.2.1
  obtain ⟨tp2, p2, e2⟩ := ht.2.2
  rcases h : Lib.parseIntB 64 s.data.toList with v | _ | _
  · obtain ⟨b0, b1⟩ := Lib.parseIntB_bounds h
    have e63 : ((2 ^ (64 - 1) : Nat) : Int) = 9223372036854775808 := by decide
    rw [e63] at b0 b1
    have hp : Calls Tryz.prog 63 #[.string s, .int .i64 10, .int .i64 64] w fun e w' => e = .returned (.tuple #[.int .i64 v, .nilIface]) ∧ Below w.heap.size w w' :=
      (Tryz.strconv_ParseInt_10_at64_ok s (by omega) v h w).mono fun e w' ⟨h1, h2⟩ => ⟨h1, by
        rcases h2 with rfl | ⟨t, rfl⟩
        · exact Below.refl _ _
        · exact Lib.bytesWorld_below _ _ _⟩
    by_cases c1 : (⟨(Lib.itoa v).toArray⟩ : ByteArray).toList = s.toList
    · by_cases c2 : 0 ≤ v ∧ v ≤ most
      · have hv : numV s most = (v, true) := by unfold numV; rw [h]; exact if_pos ⟨c1, c2⟩
        rw [hv]
        have hm := number_ok s most v w ht b0 (by omega) true (by simp [c1]) true (by simp [c2]) hp
        exact hm
      · have hv : numV s most = (0, false) := by unfold numV; rw [h]; exact if_neg (fun z => c2 z.2)
        rw [hv]
        have hm := number_ok s most v w ht b0 (by omega) true (by simp [c1]) false (by rw [Bool.and_eq_false_iff]; exact if z : 0 ≤ v then .inr (decide_eq_false (fun y => c2 ⟨z, y⟩)) else .inl (decide_eq_false z)) hp
        exact hm
    · have hv : numV s most = (0, false) := by unfold numV; rw [h]; exact if_neg (fun z => c1 z.1)
      rw [hv]
      have hm := number_ok s most v w ht b0 (by omega) false (bne_iff_ne.mpr c1) _ rfl hp
      exact hm
  · have hv : numV s most = (0, false) := by unfold numV; rw [h]
    rw [hv]
    exact number_err s most 0 0 _ w w (Below.refl _ _) ((Tryz.strconv_ParseInt_10_at64_syntax_var s hs _ (by exact ⟨nofun, nofun⟩) h tp1 p1 w e1).mono (fun e w' ⟨N, h1, _, _, hb⟩ => ⟨N, h1, hb⟩))
  · have hv : numV s most = (0, false) := by unfold numV; rw [h]
    rw [hv]
    exact number_err s most _ 0 _ w w (Below.refl _ _) ((Tryz.strconv_ParseInt_10_at64_range_var s hs h tp2 p2 w e2).mono (fun e w' ⟨N, h1, _, _, hb⟩ => ⟨N, h1, hb⟩))

end Go.Proofs.YtlggjfhoecaelaaGreatDoor.H
