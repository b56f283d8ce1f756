-- Mine: walks of functions that the print does not reach.
import Derived.Test.YtcgbnbblojkglaaProg
import Derived.Test.YtcgbnbblojkglaaWWords
import Derived.Test.YtcgbnbblojkglaaWLast
import Derived.Test.YtcgbnbblojkglaaWMore
import Derived.Sort.WalkB12
import Derived.Lib.SlicesMore
import Derived.Lib.OwnBridge
import Derived.WalkKit
import Derived.Deep.LoopGhost
import Derived.Deep.RegionLaw
import Derived.Lib.LazyBuf
import Derived.Laws.IdiomCopy
import Derived.Shelf.GgSortFunc.RowK
import Derived.Lib.ConvBytes
import Derived.Laws.BytesArg
import Derived.Tactics
import Derived.KernelRfl
import Derived.BigQuiet
import Derived.WalkSpells
import Derived.Lib.SliceRun
import Derived.StillTailTactics
import Derived.Maps.OwnOps
import Derived.Maps.OwnSet
import Derived.Maps.Views
import Derived.Maps.Keyed
import Derived.StringKeys
namespace Go.Proofs.Ytcgbnbblojkglaa.H
open Go.RowKit Go.Sort Go.Proofs.YtcgbnbblojkglaaW.PrintWords Go.Proofs.YtcgbnbblojkglaaW.PrintLast
set_option linter.unusedVariables false
set_option linter.unusedSimpArgs false
/-! ### rows of the call's own, written in runs of cells -/
theorem heap_setCell_at (w : World) (g o : Nat) (v : Value) (e : TypeId) (cur : Array Value) (h : w.heap[g]? = some (.cells cur e (0, 0))) : (w.setCell ⟨g, o, none⟩ v).heap[g]? = some (.cells (cur.setIfInBounds o v) e (0, 0)) := by
  simp [World.setCell, Array.getElem?_modify, h]
theorem heap_setCells_at (g : Nat) (e : TypeId) : ∀ (vs : List Value) (o : Nat) (w : World) (cur : Array Value), w.heap[g]? = some (.cells cur e (0, 0)) → (w.setCells g o vs).heap[g]? = some (.cells (Go.Sort.setMany cur o vs) e (0, 0))
  | [], _, _, _, h => h
  | v :: r, o, w, cur, h => by
    rw [World.setCells, Go.Sort.setMany]
    exact heap_setCells_at g e r (o + 1) _ _ (heap_setCell_at w g o v e cur h)
theorem heap_setCells_ne (g k : Nat) (hk : k ≠ g) : ∀ (vs : List Value) (o : Nat) (w : World), (w.setCells g o vs).heap[k]? = w.heap[k]?
  | [], _, _ => rfl
  | v :: r, o, w => by
    rw [World.setCells, heap_setCells_ne g k hk r (o + 1)]
    exact Below.heap_setCell w ⟨g, o, none⟩ v k hk
theorem del_cells (cur : Array Value) (cs zs : List Value) (a K N : Nat) (hN : N ≤ cur.size) (ht : cur.toList.take N = cs) (ha : a + K ≤ N) (hz : zs.length = K) :
    (Go.Sort.setMany (Go.Sort.setMany cur a (cs.drop (a + K))) (N - K) zs).toList.take (N - K) = cs.take a ++ cs.drop (a + K) := by
  have hl : cs.length = N := by rw [← ht]; simp; omega
  have hc : ∀ t, t < N → cur[t]! = cs[t]! := by
    intro t h
    have e : (cur.toList.take N)[t]? = cs[t]? := by rw [ht]
    rw [List.getElem?_take, if_pos h, Array.getElem?_toList] at e
    simp only [Array.getElem!_eq_getD, Array.getD_eq_getD_getElem?, List.getElem!_eq_getElem?_getD]
    rw [e]
  apply List.ext_getElem?
  intro j
  rw [List.getElem?_take]
  by_cases hj : j < N - K
  · rw [if_pos hj, Array.getElem?_toList]
    have hs : j < (Go.Sort.setMany (Go.Sort.setMany cur a (cs.drop (a + K))) (N - K) zs).size := by simp; omega
    have e1 := Go.Sort.get_setMany zs (N - K) (Go.Sort.setMany cur a (cs.drop (a + K))) j (by simp; omega)
    have e2 := Go.Sort.get_setMany (cs.drop (a + K)) a cur j (by omega)
    rw [if_neg (by omega), e2] at e1
    rw [Array.getElem?_eq_getElem hs]
    rw [getElem!_pos _ j hs] at e1
    rw [e1]
    by_cases h2 : j < a
    · rw [if_neg (by omega), hc j (by omega), List.getElem?_append_left (by simp; omega), List.getElem?_take, if_pos h2, List.getElem?_eq_getElem (by omega), getElem!_pos cs j (by omega)]
    · rw [if_pos (by simp [hl]; omega), List.getElem?_append_right (by simp; omega)]
      have h3 : j - a < (cs.drop (a + K)).length := by simp [hl]; omega
      rw [getElem!_pos (cs.drop (a + K)) (j - a) h3, show j - (cs.take a).length = j - a by simp; omega, List.getElem?_eq_getElem h3]
  · rw [if_neg hj, List.getElem?_eq_none (by simp [hl]; omega)]
/-- The world behind slices.Delete of one element of K cells. -/
def delW (w : World) (g a b : Nat) (news zs : List Value) : World := (w.drew.setCells g a news).setCells g b zs
theorem delW_own {w : World} {base g n cap K i : Nat} {e : TypeId} {cs zs : List Value} (h : w.ownsRow base e K (.slice (some ⟨g, 0, none⟩) n cap) n cs) (hi : i < n) (hz : zs.length = K) :
    (delW w g (i * K) ((n - 1) * K) (cs.drop ((i + 1) * K)) zs).ownsRow base e K (.slice (some ⟨g, 0, none⟩) (n - 1) cap) (n - 1) (cs.take (i * K) ++ cs.drop ((i + 1) * K)) := by
  have q1 : (i + 1) * K = i * K + K := by rw [Nat.add_mul, Nat.one_mul]
  have q2 : (n - 1) * K = n * K - K := by rw [Nat.sub_mul, Nat.one_mul]
  have q3 : i * K + K ≤ n * K := by rw [← q1]; exact Nat.mul_le_mul_right K (by omega)
  have hl : cs.length = n * K := h.1
  rcases h.2 with ⟨e0, _⟩ | ⟨g', cap', cur, e0, hb, hg, hn, hm, hs, ht⟩
  · cases e0
  · injection e0 with e1 _ e3
    injection e1 with e1
    injection e1 with e1
    subst e1; subst e3
    have hcap : n * K ≤ cur.size := by rw [hs]; exact Nat.mul_le_mul_right K hn
    refine ⟨by rw [List.length_append, List.length_take, List.length_drop, hl]; omega, .inr ⟨g, cap, _, rfl, hb, heap_setCells_at g e _ _ _ _ (heap_setCells_at g e _ _ _ cur hg), by omega, hm, by simpa using hs, ?_⟩⟩
    rw [q2, q1]
    exact del_cells cur cs zs (i * K) K (n * K) hcap ht q3 hz
theorem delW_block {w : World} {g a b k : Nat} {news zs : List Value} (hk : k ≠ g) : (delW w g a b news zs).heap[k]? = w.heap[k]? := by
  unfold delW
  rw [heap_setCells_ne g k hk, heap_setCells_ne g k hk]
  rfl
theorem delW_below {B : Nat} {w0 w : World} {g a b : Nat} {news zs : List Value} (h : Below B w0 w) (hg : B ≤ g) : Below B w0 (delW w g a b news zs) :=
  Go.below_setCells hg _ _ _ (Go.below_setCells hg _ _ _ h.drew)
theorem run_clear_one {P : Program} (w : World) (t e ty : TypeId) (z : Value) (zs : List Value) (ht : P.underlying t = some (.slice e)) (hv : ∀ w, (zeroValue e).run P w = .ok z w) (hz : z.cells = zs.toArray) (h1 : ∀ u ∈ zs, u.oneCell' = true) (b o c : Nat)
    (hc : ∀ j, j < zs.length → (w.cell? ⟨b, o + j, none⟩).isSome = true) (hf : ∀ j, j < zs.length → w.frozen? ⟨b, o + j, none⟩ = false) :
    (Builtin.clear_ #[t] ty #[.slice (some ⟨b, o, none⟩) 1 c]).run P w = .ok (.tuple #[]) (w.setCells b o zs) := by
  have hzc : (Builtin.zeroCells z.cells 1).toList = zs := by
    rw [hz]
    simp [Builtin.zeroCells]
    apply List.ext_getElem
    · simp
    · intro i h1 h2
      simp at h1
      simp [Nat.mod_eq_of_lt h2, List.getElem?_eq_getElem h2]
  have hst := run_storeCells_cells (P := P) b o zs 0 w (by simpa using hc) (by simpa using hf) h1
  simp only [Nat.add_zero] at hst
  simp [Builtin.clear_, run_underlying ht, hv, hzc, hst]
theorem reps_take {α : Type} {R : α → List Value → Prop} {K : Nat} {xs : List α} {cs : List Value} (h : Reps R K xs cs) (i : Nat) (hi : i < xs.length) : Reps R K (xs.eraseIdx i) (cs.take (i * K) ++ cs.drop ((i + 1) * K)) := by
  have q1 : (i + 1) * K = i * K + K := by rw [Nat.add_mul, Nat.one_mul]
  have q3 : (i + 1) * K ≤ xs.length * K := Nat.mul_le_mul_right K (by omega)
  have hl := h.1
  refine ⟨?_, fun j p hp => ?_⟩
  · rw [List.length_append, List.length_take, List.length_drop, hl, List.length_eraseIdx, if_pos hi, Nat.sub_mul, Nat.one_mul]
    omega
  · rw [List.getElem?_eraseIdx] at hp
    by_cases hj : j < i
    · rw [if_pos hj] at hp
      have q4 : (j + 1) * K ≤ i * K := Nat.mul_le_mul_right K (by omega)
      have q5 : (j + 1) * K = j * K + K := by rw [Nat.add_mul, Nat.one_mul]
      have e := h.2 j p hp
      have e2 : ((cs.take (i * K) ++ cs.drop ((i + 1) * K)).drop (j * K)).take K = (cs.drop (j * K)).take K := by
        rw [List.drop_append_of_le_length (by rw [List.length_take]; omega), List.take_append_of_le_length (by rw [List.length_drop, List.length_take]; omega), List.drop_take, List.take_take, Nat.min_eq_left (by omega)]
      rw [e2]
      exact e
    · rw [if_neg hj] at hp
      have q4 : i * K ≤ j * K := Nat.mul_le_mul_right K (by omega)
      have e := h.2 (j + 1) p hp
      have e2 : ((cs.take (i * K) ++ cs.drop ((i + 1) * K)).drop (j * K)).take K = (cs.drop ((j + 1) * K)).take K := by
        have hlt : (cs.take (i * K)).length = i * K := by rw [List.length_take]; omega
        rw [List.drop_append, hlt, List.drop_eq_nil_of_le (by omega), List.nil_append, List.drop_drop]
        congr 2
        rw [Nat.add_mul j 1, Nat.one_mul]
        omega
      rw [e2]
      exact e
theorem R_del {α : Type} {d : Kd α} {e : Nat} {w : World} {base g n cap i : Nat} {ok : Nat → Prop} {xs : List α} {zs : List Value} (h : d.R e w base ok (.slice (some ⟨g, 0, none⟩) n cap) xs) (hi : i < xs.length) (hz : zs.length = d.sz) :
    ∃ cs, w.ownsRow base e d.sz (.slice (some ⟨g, 0, none⟩) n cap) n cs ∧ n = xs.length ∧ (∀ u ∈ cs, u.oneCell' = true) ∧ d.R e (delW w g (i * d.sz) ((n - 1) * d.sz) (cs.drop ((i + 1) * d.sz)) zs) base ok (.slice (some ⟨g, 0, none⟩) (n - 1) cap) (xs.eraseIdx i) := by
  obtain ⟨h0, cs, ho, hr⟩ := h
  have hn : n = xs.length := by
    obtain ⟨A, c, e1, _⟩ := OwnRow.slice_ (⟨cs, ho, hr⟩ : OwnRow _ e d.sz w base _ xs)
    injection e1
  subst hn
  refine ⟨cs, ho, rfl, ?_, h0, cs.take (i * d.sz) ++ cs.drop ((i + 1) * d.sz), ?_, ?_⟩
  · intro u hu
    obtain ⟨t, ht, rfl⟩ := List.mem_iff_getElem.1 hu
    have hz0 : 0 < d.sz := by
      rcases Nat.eq_zero_or_pos d.sz with q | q
      · have := hr.1; rw [q, Nat.mul_zero] at this; omega
      · exact q
    have hq : t / d.sz < xs.length := (Nat.div_lt_iff_lt_mul hz0).2 (by rw [← hr.1]; exact ht)
    have hM := hr.2 (t / d.sz) xs[t / d.sz] (List.getElem?_eq_getElem hq)
    refine d.K_one (d.K_of_M hM) _ ?_
    have hmod : t % d.sz < d.sz := Nat.mod_lt _ hz0
    have hdm : t / d.sz * d.sz + t % d.sz = t := by rw [Nat.mul_comm]; exact Nat.div_add_mod t d.sz
    refine List.mem_of_getElem? (i := t % d.sz) ?_
    rw [List.getElem?_take, if_pos hmod, List.getElem?_drop, hdm, List.getElem?_eq_getElem ht]
  · have q := delW_own ho hi hz
    rwa [List.length_eraseIdx, if_pos hi]
  · refine (reps_take hr i hi).imp_ (fun p c hp => ?_)
    exact d.M_mono (fun k hk => hk) (d.M_move (fun k hk => delW_block (fun e => hk.2 (by rw [e]; rfl))) hp)
theorem reps_map {α : Type} (enc : α → Value) (xs : List α) : Reps (fun x cs => cs = [enc x]) 1 xs (xs.map enc) := by
  refine ⟨by simp, fun j p hp => ?_⟩
  have hj : j < (xs.map enc).length := by rw [List.length_map]; exact (List.getElem?_eq_some_iff.1 hp).1
  rw [Nat.mul_one, List.drop_eq_getElem_cons hj, List.take_succ_cons, List.take_zero, List.getElem_map]
  congr 2
  exact (List.getElem?_eq_some_iff.1 hp).2

set_option maxHeartbeats 4000000 in
set_option maxRecDepth 1000000 in
theorem delHold_calls {base g n cap i j : Nat} (hj : j = i + 1) {cs : List Value} {w : World} (h : w.ownsRow base 47 2 (.slice (some ⟨g, 0, none⟩) n cap) n cs) (h1 : ∀ u ∈ cs, u.oneCell' = true) (hi : i < n) :
    Calls Try.prog 46 #[.slice (some ⟨g, 0, none⟩) n cap, .int .i64 (i : Int), .int .i64 (j : Int)] w fun e w' => e = .returned (.slice (some ⟨g, 0, none⟩) (n - 1) cap) ∧ w' = delW w g (i * 2) ((n - 1) * 2) (cs.drop ((i + 1) * 2)) [.int .i16 0, .int .i8 0] := by
  have hl : cs.length = n * 2 := h.1
  obtain ⟨cur, hg, hn, hm, hs, ht⟩ : ∃ cur, w.heap[g]? = some (.cells cur 47 (0, 0)) ∧ n ≤ cap ∧ cap ≤ maxLen ∧ cur.size = cap * 2 ∧ cur.toList.take (n * 2) = cs := by
    rcases h.2 with ⟨e0, _⟩ | ⟨g', cap', cur, e0, _, hg, hn, hm, hs, ht⟩
    · cases e0
    · injection e0 with e1 _ e3
      injection e1 with e1
      injection e1 with e1
      subst e1; subst e3
      exact ⟨cur, hg, hn, hm, hs, ht⟩
  have hm' : cap ≤ 9223372036854775807 := by simpa [maxLen] using hm
  have hcell : ∀ t, t < n * 2 → w.cell? ⟨g, t, none⟩ = cs[t]? := by
    intro t h
    rw [← ht, List.getElem?_take, if_pos h]
    simp [World.cell?, hg]
  rw [← hj]
  obtain ⟨news, hnews⟩ : ∃ news, news = cs.drop (j * 2) := ⟨_, rfl⟩
  rw [← hnews]
  have hij : i ≤ j := by omega
  have hlt : i < j := by omega
  have hjn : j ≤ n := by omega
  have hlen : news.length = (n - j) * 2 := by rw [hnews, List.length_drop, hl]; omega
  have hnj : ∀ q u, news[q]? = some u → w.drew.cell? ⟨g, j * 2 + q, none⟩ = some u := by
    intro q u hu
    have hq : q < news.length := (List.getElem?_eq_some_iff.1 hu).1
    rw [hnews, List.getElem?_drop] at hu
    exact (hcell _ (by omega)).trans hu
  obtain ⟨A, hA, hsrc⟩ : ∃ A : Addr, (if cap = j then some (⟨g, 0, none⟩ : Addr) else some ⟨g, j * 2, none⟩) = some A ∧ Hid (∀ t u, news[t]? = some u → w.drew.cell? (A.add t) = some u) := by
    by_cases h : cap = j
    · refine ⟨⟨g, 0, none⟩, by simp [h], fun t u hu => ?_⟩
      have h0 : news.length = 0 := by rw [hlen]; omega
      rw [List.length_eq_zero_iff.1 h0] at hu
      simp at hu
    · refine ⟨⟨g, j * 2, none⟩, by simp [h], fun t u hu => ?_⟩
      rw [Addr.add_lit]
      exact hnj t u hu
  have s1 : Hid (news.length = (n - j) * 2) := hlen
  have s2 : Hid (∀ u ∈ news, u.oneCell' = true) := by
    intro u hu
    rw [hnews] at hu
    exact h1 u (List.mem_of_mem_drop hu)
  have s3 : Hid (∀ t, t < news.length → (w.drew.cell? ⟨g, 0 + i * 2 + t, none⟩).isSome = true ∧ w.drew.frozen? ⟨g, 0 + i * 2 + t, none⟩ = false) := by
    intro t ht
    rw [hlen] at ht
    refine ⟨?_, by show w.frozen? _ = false; simp [World.frozen?, hg]⟩
    show (w.cell? _).isSome = true
    rw [hcell _ (by omega), List.getElem?_eq_getElem (by omega)]
    rfl
  obtain ⟨W1, hW1⟩ : ∃ W1, W1 = w.drew.setCells g (0 + i * 2) news := ⟨_, rfl⟩
  have hg1 : W1.heap[g]? = some (.cells (Go.Sort.setMany cur (0 + i * 2) news) 47 (0, 0)) := by rw [hW1]; exact heap_setCells_at g _ _ _ _ cur hg
  have hone : n - (i + (n - j)) = 1 := by omega
  have hcl : ∀ ty c, (Builtin.clear_ #[29] ty #[.slice (some ⟨g, (i + (n - j)) * 2, none⟩) (n - (i + (n - j))) c]).run Try.prog W1 = .ok (.tuple #[]) (W1.setCells g ((i + (n - j)) * 2) [.int .i16 0, .int .i8 0]) :=
    fun ty c => by rw [hone]; exact run_clear_one W1 _ _ ty _ [.int .i16 0, .int .i8 0] Try.underlying29 Try.zeroValue47 rfl (by decide) g ((i + (n - j)) * 2) _ (fun q hq => by simp [World.cell?, hg1]; simp at hq; omega) (fun q hq => by simp [World.frozen?, hg1])
  have hW : Hid (W1 = w.drew.setCells g (0 + i * 2) news) := hW1
  have hic : i ≤ cap := by omega
  have hjc : j ≤ cap := by omega
  obtain ⟨i0, hi0, hz0, hz1, hz2⟩ := info_parts (show (Try.prog.info? 47).map (fun i => (i.zero, i.size, i.bytes)) = some (some (.agg #[.int .i16 0, .int .i8 0]), 2, 4) by kernel_rfl)
  have hJ : Hid (j = i + 1) := hj
  clear hj hone hW1 hg1 hcell hnj hlen hg ht hs h hl
  go_enter Try.func46, Try.ntmps46
  go_wp2_with fail
  go_region_law (refine step_append_room rfl (.tmp 22) (.tmp 25) 29 rfl 47 i0 2 Try.underlying29 hi0 hz1 g 0 i cap (by simp [Act.eval, Act.put]) A (n - j) (cap - j) news (by simp [Act.eval, Act.put]) s1.out hsrc.out s2.out (by omega) s3.out ?_; rw [← hW.out])
  have hne : ¬ (cap = i + (n - j)) := by have := hJ.out; omega
  go_wp2
  go_ret
  have hj := hJ.out
  refine ⟨by rw [show i + (n - j) = n - 1 by omega]; rfl, ?_⟩
  rw [hW.out, show i + (n - j) = n - 1 by omega, Nat.zero_add]
  rfl

end Go.Proofs.Ytcgbnbblojkglaa.H
