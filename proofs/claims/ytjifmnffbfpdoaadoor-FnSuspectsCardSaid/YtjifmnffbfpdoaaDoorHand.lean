-- Mine: walks of functions that the print does not reach.
import Derived.Test.YtjifmnffbfpdoaaDoorProg
import Derived.Test.YtjifmnffbfpdoaaDoorShelf
import Derived.Test.YtjifmnffbfpdoaaDoorWWords
import Derived.Test.YtjifmnffbfpdoaaDoorWLast
import Derived.Test.YtjifmnffbfpdoaaDoorWMore
import Derived.Sort.WalkB12
import Derived.Lib.SlicesMore
import Derived.Lib.OwnBridge
import Derived.WalkKit
import Derived.Deep.LoopGhost
import Derived.Deep.RegionLaw
import Derived.Lib.LazyBuf
import Derived.Laws.IdiomCopy
import Derived.Shelf.GgSortFunc.RowK
import Derived.Lib.ConvBytes
import Derived.Laws.BytesArg
import Derived.Tactics
import Derived.KernelRfl
import Derived.BigQuiet
import Derived.WalkSpells
import Derived.Lib.SliceRun
namespace Go.Proofs.YtjifmnffbfpdoaaDoor.H
open Go.RowKit Go.Sort Go.Proofs.YtjifmnffbfpdoaaDoorW.PrintWords Go.Proofs.YtjifmnffbfpdoaaDoorW.PrintLast
set_option linter.unusedVariables false
set_option linter.unusedSimpArgs false
def enc8 : Int → Value := fun x => Value.int .u8 x
theorem enc8_eq (x : Int) : enc8 x = .int .u8 x := rfl
set_option maxHeartbeats 4000000 in
set_option maxRecDepth 100000 in
theorem rev_bytes (blk cap : Nat) (d : Array Int) (w : World) (hH : Holds enc8 w blk 0 d) (hsz : d.size ≤ 9223372036854775807) :
    Calls Tryd.prog 66 #[.slice (some ⟨blk, 0, none⟩) d.size cap] w fun e w' => e = .returned (.tuple #[]) ∧ ∃ n, w' = putRow enc8 (Sort.ahead w n) blk 0 d.reverse := by
  go_enter Tryd.func66, Tryd.ntmps66
  go_wp2
  go_loopg [2, 3] d.size (fun k s2 s3 wr => ∃ (i jn : Nat) (jz : Int) (dk : Array Int) (n : Nat), s2 = .int .i64 i ∧ s3 = .int .i64 jz ∧ ((i : Int) < jz → jz = jn ∧ jn < d.size) ∧ (¬ (i : Int) < jz → ¬ i < jn) ∧ jn - i ≤ k ∧
    dk.size = d.size ∧ wr = putRow enc8 (Sort.ahead w n) blk 0 dk ∧ reverseLoop i jn dk = reverseLoop 0 (d.size - 1) d)
  case atStart => exact ⟨0, d.size - 1, (d.size : Int) - 1, d, 0, rfl, rfl, fun h => ⟨by omega, by omega⟩, fun h => by omega, by omega, rfl, (putRow_self enc8 w blk 0 d hH).symm, rfl⟩
  case round =>
    obtain ⟨i, jn, jz, dk, n, rfl, rfl, h1, h2, hk, hds, hwr, heq⟩ := hrel
    by_cases hlt : (i : Int) < jz
    · obtain ⟨rfl, hjn⟩ := h1 hlt
      have hij : i < jn := by omega
      have hHk : Holds enc8 wr blk 0 dk := by rw [hwr]; exact holds_putRow enc8 _ blk 0 d dk (holds_ahead enc8 w n blk 0 d hH) hds
      obtain ⟨ci, fi⟩ := hHk i (by omega)
      obtain ⟨cj, fj⟩ := hHk jn (by omega)
      rw [enc8_eq, Nat.zero_add] at ci cj
      rw [Nat.zero_add] at fi fj
      have A : Aside (wr = putRow enc8 (Sort.ahead w n) blk 0 dk) := hwr
      clear hwr hHk hH h1 h2
      go_wp2_with fail
      go_region
      go_wp2
      go_roundg (jn - 1 - (i + 1))
      case measure => omega
      case rel =>
        rw [reverseLoop, if_pos hij] at heq
        exact ⟨i + 1, jn - 1, (jn : Int) - 1, swp dk i jn, n + 1, by simp, rfl, fun h => ⟨by omega, by omega⟩, fun h => by omega, Nat.le_refl _, by rw [size_swp]; exact hds,
          by
            have e_ := swap_world enc8 (i := i) (j := jn) (by omega) (by omega) A.out (x := .int .u8 dk[jn]!) (y := .int .u8 dk[i]!) rfl rfl
            rw [Nat.zero_add, Nat.zero_add] at e_
            first | exact e_ | (rw [← e_]; simp [getElem!_pos, show jn < dk.size by omega, show i < dk.size by omega]), heq⟩
    · have hnot := h2 hlt
      go_wp2
      go_end0
      refine ⟨rfl, n, ?_⟩
      rw [reverseLoop, if_neg hnot] at heq
      rw [← Lib.reverseLoop_reverse, ← heq]
theorem bytesOf_get (s : ByteArray) (j : Nat) (h : j < s.size) : (bytesOf s)[j]'(by rw [bytesOf_length]; exact h) = ((s.data.toList.getD j 0).toNat : Int) := by
  have h2 : j < s.data.toList.length := by rw [data_length]; exact h
  simp only [bytesOf, List.getElem_map]
  rw [List.getD_eq_getElem?_getD, List.getElem?_eq_getElem h2]
  rfl
theorem holds_bytes (w : World) (s : ByteArray) : Holds enc8 (Lib.bytesWorld w 5 s) w.heap.size 0 (bytesOf s).toArray := by
  intro j hj
  have hj' : j < s.size := by rw [List.size_toArray, bytesOf_length] at hj; exact hj
  rw [Nat.zero_add]
  refine ⟨?_, ?_⟩
  · rw [Lib.bytesWorld_cell w 5 s j hj', enc8_eq]
    have h1 : j < (bytesOf s).length := by rw [bytesOf_length]; exact hj'
    rw [List.getElem!_toArray, getElem!_pos (bytesOf s) j h1, bytesOf_get s j hj']
  · simp [World.frozen?, Lib.bytesWorld_at_new, Lib.bytesCells]
    intro h
    have : s.data.size = s.size := rfl
    omega
theorem holds_cells (w : World) (B : Nat) (l : List Int) (h : Holds enc8 w B 0 l.toArray) : ∀ i, i < l.length → w.cell? ⟨B, 0 + i, none⟩ = some (.int .u8 (l.getD i 0)) := by
  intro i hi
  have := (h i (by simpa using hi)).1
  rw [this, enc8_eq, List.getD_eq_getElem?_getD, List.getElem?_eq_getElem hi]
  simp [getElem!_pos, hi]
set_option maxHeartbeats 4000000 in
set_option maxRecDepth 100000 in
theorem turned_calls (s : ByteArray) (w : World) (hs : s.size ≤ 9223372036854775807) :
    Calls Tryd.prog 53 #[.string s] w fun e w' => e = .returned (.string (strOfNums (bytesOf s).reverse)) ∧ Below w.heap.size w w' := by
  have hcv := Lib.run_convert_string_bytes (P := Tryd.prog) w 9 22 5 s Tryd.underlying9 Tryd.underlying22 Tryd.underlying5
  have hH := holds_bytes w s
  have hb := bytes_below (Below.refl w.heap.size w) (Nat.le_refl _) 5 s
  have hlen := bytesOf_length s
  generalize hW : Lib.bytesWorld w 5 s = W at hcv hH hb
  generalize hC : grownCap w s.size 0 5 = C at hcv
  generalize hL : bytesOf s = L at hH hlen ⊢
  have hcv2 : ∀ (W' : World), Holds enc8 W' w.heap.size 0 L.reverse.toArray → (convert 22 9 (.slice (some ⟨w.heap.size, 0, none⟩) s.size C)).run Tryd.prog W' = .ok (.string (strOfNums L.reverse)) W' := by
    intro W' h'
    exact run_convert_bytes_arg (P := Tryd.prog) W' 22 5 Tryd.underlying22 Tryd.underlying5 w.heap.size 0 s.size C L.reverse (by rw [List.length_reverse, hlen]) (fun i hi => holds_cells W' _ _ h' i (by rw [List.length_reverse, hlen]; exact hi)) 9 Tryd.underlying9
  have hrev := rev_bytes w.heap.size C L.toArray W hH (by simpa [hlen] using hs)
  rw [show L.toArray.size = s.size by simpa using hlen, show L.toArray.reverse = L.reverse.toArray by simp] at hrev
  go_enter Tryd.func53, Tryd.ntmps53
  go_wp2_with (first | (go_at_call 66; refine hrev.mono ?_; rintro e w' ⟨rfl, n, hw⟩; have hH2 : Holds enc8 w' w.heap.size 0 L.reverse.toArray := (by rw [hw]; exact holds_putRow enc8 _ _ 0 L.toArray _ (holds_ahead enc8 W n _ 0 _ hH) (by simp)); have hb2 : Below w.heap.size w w' := (by rw [hw]; exact Go.Lib.below_putRow hb (Nat.le_refl _)); have hcv3 := hcv2 w' hH2; clear hw hH2))
  go_ret
  exact ⟨rfl, hb2⟩
def swap1 (a b x : Int) : Int := if x = a then b else x
def swapped (a b : Int) (L : List Int) (i : Nat) : List Int := (L.take i).map (swap1 a b) ++ L.drop i
theorem swapped_length (a b : Int) (L : List Int) (i : Nat) : (swapped a b L i).length = L.length := by simp [swapped]; omega
theorem swapped_get (a b : Int) (L : List Int) (i : Nat) (h : i < L.length) : (swapped a b L i)[i]'(by rw [swapped_length]; exact h) = L[i] := by
  simp only [swapped]
  rw [List.getElem_append_right (by rw [List.length_map, List.length_take]; omega)]
  simp [Nat.min_eq_left (Nat.le_of_lt h)]
theorem swapped_set (a b : Int) (L : List Int) (i : Nat) (h : i < L.length) : (swapped a b L i).set i (swap1 a b L[i]) = swapped a b L (i + 1) := by
  unfold swapped
  rw [List.set_append_right _ _ (by simp; omega), List.take_add_one, List.getElem?_eq_getElem h]
  have e : i - ((L.take i).map (swap1 a b)).length = 0 := by simp; omega
  rw [e, List.drop_eq_getElem_cons h, List.map_append, List.append_assoc]
  rfl
theorem swapped_keep (a b : Int) (L : List Int) (i : Nat) (h : i < L.length) (hne : L[i] ≠ a) : swapped a b L (i + 1) = swapped a b L i := by
  rw [← swapped_set a b L i h]
  have : swap1 a b L[i] = L[i] := by unfold swap1; rw [if_neg hne]
  rw [this, ← swapped_get a b L i h]
  exact List.set_getElem_self _
set_option maxHeartbeats 4000000 in
set_option maxRecDepth 100000 in
theorem l04Swap_calls (s : ByteArray) (x y : Int) (w : World) (hs : s.size ≤ 4611686018427387900) :
    Calls Tryd.prog 58 #[.string s, .int .u8 x, .int .u8 y] w fun e w' => e = .returned (.string (strOfNums ((bytesOf s).map (swap1 x y)))) ∧ Below w.heap.size w w' := by
  have hcv := Lib.run_convert_string_bytes (P := Tryd.prog) w 9 22 5 s Tryd.underlying9 Tryd.underlying22 Tryd.underlying5
  have hH := holds_bytes w s
  have hb := bytes_below (Below.refl w.heap.size w) (Nat.le_refl _) 5 s
  have hlen := bytesOf_length s
  generalize hW : Lib.bytesWorld w 5 s = W at hcv hH hb
  generalize hC : grownCap w s.size 0 5 = C at hcv
  generalize hL : bytesOf s = L at hH hlen ⊢
  have hcv2 : ∀ (W' : World), Holds enc8 W' w.heap.size 0 (L.map (swap1 x y)).toArray → (convert 22 9 (.slice (some ⟨w.heap.size, 0, none⟩) s.size C)).run Tryd.prog W' = .ok (.string (strOfNums (L.map (swap1 x y)))) W' := by
    intro W' h'
    exact run_convert_bytes_arg (P := Tryd.prog) W' 22 5 Tryd.underlying22 Tryd.underlying5 w.heap.size 0 s.size C (L.map (swap1 x y)) (by rw [List.length_map, hlen]) (fun i hi => holds_cells W' _ _ h' i (by rw [List.length_map, hlen]; exact hi)) 9 Tryd.underlying9
  have hB : Aside (Go.RowKit.Below w.heap.size w W) := hb
  clear hb hW hC
  go_enter Tryd.func58, Tryd.ntmps58
  go_wp2
  go_loopg [8] s.size (fun k s8 wr => ∃ i : Nat, s8 = .int .i64 i ∧ i + k = s.size ∧ wr = putRow enc8 W w.heap.size 0 (swapped x y L i).toArray)
  case atStart => exact ⟨0, rfl, by omega, by rw [show swapped x y L 0 = L by simp [swapped]]; exact (putRow_self enc8 W w.heap.size 0 L.toArray hH).symm⟩
  case round =>
    obtain ⟨i, rfl, hk, hwr⟩ := hrel
    have hHk : Holds enc8 wr w.heap.size 0 (swapped x y L i).toArray := by
      rw [hwr]; exact holds_putRow enc8 _ _ 0 L.toArray _ hH (by simp [swapped_length])
    by_cases hlt : (i : Int) < (s.size : Int)
    · have hi : i < L.length := by omega
      obtain ⟨ci, fi⟩ := hHk i (by simp [swapped_length]; omega)
      rw [enc8_eq, Nat.zero_add, List.getElem!_toArray, getElem!_pos (swapped x y L i) i (by rw [swapped_length]; exact hi), swapped_get x y L i hi] at ci
      rw [Nat.zero_add] at fi
      have A : Aside (wr = putRow enc8 W w.heap.size 0 (swapped x y L i).toArray) := hwr
      clear hwr hHk
      by_cases e : L[i] = x
      · have e1 : (L[i] == x) = true := beq_iff_eq.2 e
        go_wp2
        go_roundg (s.size - (i + 1))
        case measure => omega
        case rel =>
          refine ⟨i + 1, by simp, by omega, ?_⟩
          have h1 := putRow_set enc8 W w.heap.size 0 (swapped x y L i).toArray i y (by simp [swapped_length]; omega)
          rw [Nat.zero_add] at h1
          rw [A.out]
          refine Eq.trans h1 ?_
          rw [List.setIfInBounds_toArray, ← swapped_set x y L i hi]
          simp [swap1, e]
      · have e1 : (L[i] == x) = false := beq_eq_false_iff_ne.2 e
        go_wp2
        go_roundg (s.size - (i + 1))
        case measure => omega
        case rel =>
          refine ⟨i + 1, by simp, by omega, ?_⟩
          rw [swapped_keep x y L i hi e]
          exact A.out
    · have hn : i = s.size := by omega
      have hsw : swapped x y L i = L.map (swap1 x y) := by
        unfold swapped
        rw [List.take_of_length_le (by omega), List.drop_eq_nil_of_le (by omega), List.append_nil]
      rw [hsw] at hHk hwr
      have hcv3 := hcv2 wr hHk
      have hb2 : Below w.heap.size w wr := by
        rw [hwr]
        have := Go.Lib.below_putRow (enc := enc8) (q := 0) (g := w.heap.size) (d := (L.map (swap1 x y)).toArray) hB.out (Nat.le_refl _)
        simpa using this
      clear hHk hwr
      go_wp2
      go_ret
      exact ⟨rfl, hb2⟩

/-! ### rows of the call's own, written in runs of cells -/
theorem heap_setCell_at (w : World) (g o : Nat) (v : Value) (e : TypeId) (cur : Array Value) (h : w.heap[g]? = some (.cells cur e (0, 0))) : (w.setCell ⟨g, o, none⟩ v).heap[g]? = some (.cells (cur.setIfInBounds o v) e (0, 0)) := by
  simp [World.setCell, Array.getElem?_modify, h]
theorem heap_setCells_at (g : Nat) (e : TypeId) : ∀ (vs : List Value) (o : Nat) (w : World) (cur : Array Value), w.heap[g]? = some (.cells cur e (0, 0)) → (w.setCells g o vs).heap[g]? = some (.cells (Go.Sort.setMany cur o vs) e (0, 0))
  | [], _, _, _, h => h
  | v :: r, o, w, cur, h => by
    rw [World.setCells, Go.Sort.setMany]
    exact heap_setCells_at g e r (o + 1) _ _ (heap_setCell_at w g o v e cur h)
theorem heap_setCells_ne (g k : Nat) (hk : k ≠ g) : ∀ (vs : List Value) (o : Nat) (w : World), (w.setCells g o vs).heap[k]? = w.heap[k]?
  | [], _, _ => rfl
  | v :: r, o, w => by
    rw [World.setCells, heap_setCells_ne g k hk r (o + 1)]
    exact Below.heap_setCell w ⟨g, o, none⟩ v k hk
theorem del_cells (cur : Array Value) (cs zs : List Value) (a K N : Nat) (hN : N ≤ cur.size) (ht : cur.toList.take N = cs) (ha : a + K ≤ N) (hz : zs.length = K) :
    (Go.Sort.setMany (Go.Sort.setMany cur a (cs.drop (a + K))) (N - K) zs).toList.take (N - K) = cs.take a ++ cs.drop (a + K) := by
  have hl : cs.length = N := by rw [← ht]; simp; omega
  have hc : ∀ t, t < N → cur[t]! = cs[t]! := by
    intro t h
    have e : (cur.toList.take N)[t]? = cs[t]? := by rw [ht]
    rw [List.getElem?_take, if_pos h, Array.getElem?_toList] at e
    simp only [Array.getElem!_eq_getD, Array.getD_eq_getD_getElem?, List.getElem!_eq_getElem?_getD]
    rw [e]
  apply List.ext_getElem?
  intro j
  rw [List.getElem?_take]
  by_cases hj : j < N - K
  · rw [if_pos hj, Array.getElem?_toList]
    have hs : j < (Go.Sort.setMany (Go.Sort.setMany cur a (cs.drop (a + K))) (N - K) zs).size := by simp; omega
    have e1 := Go.Sort.get_setMany zs (N - K) (Go.Sort.setMany cur a (cs.drop (a + K))) j (by simp; omega)
    have e2 := Go.Sort.get_setMany (cs.drop (a + K)) a cur j (by omega)
    rw [if_neg (by omega), e2] at e1
    rw [Array.getElem?_eq_getElem hs]
    rw [getElem!_pos _ j hs] at e1
    rw [e1]
    by_cases h2 : j < a
    · rw [if_neg (by omega), hc j (by omega), List.getElem?_append_left (by simp; omega), List.getElem?_take, if_pos h2, List.getElem?_eq_getElem (by omega), getElem!_pos cs j (by omega)]
    · rw [if_pos (by simp [hl]; omega), List.getElem?_append_right (by simp; omega)]
      have h3 : j - a < (cs.drop (a + K)).length := by simp [hl]; omega
      rw [getElem!_pos (cs.drop (a + K)) (j - a) h3, show j - (cs.take a).length = j - a by simp; omega, List.getElem?_eq_getElem h3]
  · rw [if_neg hj, List.getElem?_eq_none (by simp [hl]; omega)]
/-- The world behind slices.Delete of one element of K cells. -/
def delW (w : World) (g a b : Nat) (news zs : List Value) : World := (w.drew.setCells g a news).setCells g b zs
theorem delW_own {w : World} {base g n cap K i : Nat} {e : TypeId} {cs zs : List Value} (h : w.ownsRow base e K (.slice (some ⟨g, 0, none⟩) n cap) n cs) (hi : i < n) (hz : zs.length = K) :
    (delW w g (i * K) ((n - 1) * K) (cs.drop ((i + 1) * K)) zs).ownsRow base e K (.slice (some ⟨g, 0, none⟩) (n - 1) cap) (n - 1) (cs.take (i * K) ++ cs.drop ((i + 1) * K)) := by
  have q1 : (i + 1) * K = i * K + K := by rw [Nat.add_mul, Nat.one_mul]
  have q2 : (n - 1) * K = n * K - K := by rw [Nat.sub_mul, Nat.one_mul]
  have q3 : i * K + K ≤ n * K := by rw [← q1]; exact Nat.mul_le_mul_right K (by omega)
  have hl : cs.length = n * K := h.1
  rcases h.2 with ⟨e0, _⟩ | ⟨g', cap', cur, e0, hb, hg, hn, hm, hs, ht⟩
  · cases e0
  · injection e0 with e1 _ e3
    injection e1 with e1
    injection e1 with e1
    subst e1; subst e3
    have hcap : n * K ≤ cur.size := by rw [hs]; exact Nat.mul_le_mul_right K hn
    refine ⟨by rw [List.length_append, List.length_take, List.length_drop, hl]; omega, .inr ⟨g, cap, _, rfl, hb, heap_setCells_at g e _ _ _ _ (heap_setCells_at g e _ _ _ cur hg), by omega, hm, by simpa using hs, ?_⟩⟩
    rw [q2, q1]
    exact del_cells cur cs zs (i * K) K (n * K) hcap ht q3 hz
theorem delW_block {w : World} {g a b k : Nat} {news zs : List Value} (hk : k ≠ g) : (delW w g a b news zs).heap[k]? = w.heap[k]? := by
  unfold delW
  rw [heap_setCells_ne g k hk, heap_setCells_ne g k hk]
  rfl
theorem delW_below {B : Nat} {w0 w : World} {g a b : Nat} {news zs : List Value} (h : Below B w0 w) (hg : B ≤ g) : Below B w0 (delW w g a b news zs) :=
  Go.below_setCells hg _ _ _ (Go.below_setCells hg _ _ _ h.drew)
theorem run_clear_one {P : Program} (w : World) (t e ty : TypeId) (z : Value) (zs : List Value) (ht : P.underlying t = some (.slice e)) (hv : ∀ w, (zeroValue e).run P w = .ok z w) (hz : z.cells = zs.toArray) (h1 : ∀ u ∈ zs, u.oneCell' = true) (b o c : Nat)
    (hc : ∀ j, j < zs.length → (w.cell? ⟨b, o + j, none⟩).isSome = true) (hf : ∀ j, j < zs.length → w.frozen? ⟨b, o + j, none⟩ = false) :
    (Builtin.clear_ #[t] ty #[.slice (some ⟨b, o, none⟩) 1 c]).run P w = .ok (.tuple #[]) (w.setCells b o zs) := by
  have hzc : (Builtin.zeroCells z.cells 1).toList = zs := by
    rw [hz]
    simp [Builtin.zeroCells]
    apply List.ext_getElem
    · simp
    · intro i h1 h2
      simp at h1
      simp [Nat.mod_eq_of_lt h2, List.getElem?_eq_getElem h2]
  have hst := run_storeCells_cells (P := P) b o zs 0 w (by simpa using hc) (by simpa using hf) h1
  simp only [Nat.add_zero] at hst
  simp [Builtin.clear_, run_underlying ht, hv, hzc, hst]
theorem reps_take {α : Type} {R : α → List Value → Prop} {K : Nat} {xs : List α} {cs : List Value} (h : Reps R K xs cs) (i : Nat) (hi : i < xs.length) : Reps R K (xs.eraseIdx i) (cs.take (i * K) ++ cs.drop ((i + 1) * K)) := by
  have q1 : (i + 1) * K = i * K + K := by rw [Nat.add_mul, Nat.one_mul]
  have q3 : (i + 1) * K ≤ xs.length * K := Nat.mul_le_mul_right K (by omega)
  have hl := h.1
  refine ⟨?_, fun j p hp => ?_⟩
  · rw [List.length_append, List.length_take, List.length_drop, hl, List.length_eraseIdx, if_pos hi, Nat.sub_mul, Nat.one_mul]
    omega
  · rw [List.getElem?_eraseIdx] at hp
    by_cases hj : j < i
    · rw [if_pos hj] at hp
      have q4 : (j + 1) * K ≤ i * K := Nat.mul_le_mul_right K (by omega)
      have q5 : (j + 1) * K = j * K + K := by rw [Nat.add_mul, Nat.one_mul]
      have e := h.2 j p hp
      have e2 : ((cs.take (i * K) ++ cs.drop ((i + 1) * K)).drop (j * K)).take K = (cs.drop (j * K)).take K := by
        rw [List.drop_append_of_le_length (by rw [List.length_take]; omega), List.take_append_of_le_length (by rw [List.length_drop, List.length_take]; omega), List.drop_take, List.take_take, Nat.min_eq_left (by omega)]
      rw [e2]
      exact e
    · rw [if_neg hj] at hp
      have q4 : i * K ≤ j * K := Nat.mul_le_mul_right K (by omega)
      have e := h.2 (j + 1) p hp
      have e2 : ((cs.take (i * K) ++ cs.drop ((i + 1) * K)).drop (j * K)).take K = (cs.drop ((j + 1) * K)).take K := by
        have hlt : (cs.take (i * K)).length = i * K := by rw [List.length_take]; omega
        rw [List.drop_append, hlt, List.drop_eq_nil_of_le (by omega), List.nil_append, List.drop_drop]
        congr 2
        rw [Nat.add_mul j 1, Nat.one_mul]
        omega
      rw [e2]
      exact e
theorem R_del {α : Type} {d : Kd α} {e : Nat} {w : World} {base g n cap i : Nat} {ok : Nat → Prop} {xs : List α} {zs : List Value} (h : d.R e w base ok (.slice (some ⟨g, 0, none⟩) n cap) xs) (hi : i < xs.length) (hz : zs.length = d.sz) :
    ∃ cs, w.ownsRow base e d.sz (.slice (some ⟨g, 0, none⟩) n cap) n cs ∧ n = xs.length ∧ (∀ u ∈ cs, u.oneCell' = true) ∧ d.R e (delW w g (i * d.sz) ((n - 1) * d.sz) (cs.drop ((i + 1) * d.sz)) zs) base ok (.slice (some ⟨g, 0, none⟩) (n - 1) cap) (xs.eraseIdx i) := by
  obtain ⟨h0, cs, ho, hr⟩ := h
  have hn : n = xs.length := by
    obtain ⟨A, c, e1, _⟩ := OwnRow.slice_ (⟨cs, ho, hr⟩ : OwnRow _ e d.sz w base _ xs)
    injection e1
  subst hn
  refine ⟨cs, ho, rfl, ?_, h0, cs.take (i * d.sz) ++ cs.drop ((i + 1) * d.sz), ?_, ?_⟩
  · intro u hu
    obtain ⟨t, ht, rfl⟩ := List.mem_iff_getElem.1 hu
    have hz0 : 0 < d.sz := by
      rcases Nat.eq_zero_or_pos d.sz with q | q
      · have := hr.1; rw [q, Nat.mul_zero] at this; omega
      · exact q
    have hq : t / d.sz < xs.length := (Nat.div_lt_iff_lt_mul hz0).2 (by rw [← hr.1]; exact ht)
    have hM := hr.2 (t / d.sz) xs[t / d.sz] (List.getElem?_eq_getElem hq)
    refine d.K_one (d.K_of_M hM) _ ?_
    have hmod : t % d.sz < d.sz := Nat.mod_lt _ hz0
    have hdm : t / d.sz * d.sz + t % d.sz = t := by rw [Nat.mul_comm]; exact Nat.div_add_mod t d.sz
    refine List.mem_of_getElem? (i := t % d.sz) ?_
    rw [List.getElem?_take, if_pos hmod, List.getElem?_drop, hdm, List.getElem?_eq_getElem ht]
  · have q := delW_own ho hi hz
    rwa [List.length_eraseIdx, if_pos hi]
  · refine (reps_take hr i hi).imp_ (fun p c hp => ?_)
    exact d.M_mono (fun k hk => hk) (d.M_move (fun k hk => delW_block (fun e => hk.2 (by rw [e]; rfl))) hp)
theorem reps_map {α : Type} (enc : α → Value) (xs : List α) : Reps (fun x cs => cs = [enc x]) 1 xs (xs.map enc) := by
  refine ⟨by simp, fun j p hp => ?_⟩
  have hj : j < (xs.map enc).length := by rw [List.length_map]; exact (List.getElem?_eq_some_iff.1 hp).1
  rw [Nat.mul_one, List.drop_eq_getElem_cons hj, List.take_succ_cons, List.take_zero, List.getElem_map]
  congr 2
  exact (List.getElem?_eq_some_iff.1 hp).2

set_option maxHeartbeats 4000000 in
set_option maxRecDepth 1000000 in
theorem delHabit_calls {base g n cap i j : Nat} (hj : j = i + 1) {cs : List Value} {w : World} (h : w.ownsRow base 41 3 (.slice (some ⟨g, 0, none⟩) n cap) n cs) (h1 : ∀ u ∈ cs, u.oneCell' = true) (hi : i < n) :
    Calls Tryd.prog 34 #[.slice (some ⟨g, 0, none⟩) n cap, .int .i64 (i : Int), .int .i64 (j : Int)] w fun e w' => e = .returned (.slice (some ⟨g, 0, none⟩) (n - 1) cap) ∧ w' = delW w g (i * 3) ((n - 1) * 3) (cs.drop ((i + 1) * 3)) [.int .i8 0, .int .u8 0, .int .u8 0] := by
  have hl : cs.length = n * 3 := h.1
  obtain ⟨cur, hg, hn, hm, hs, ht⟩ : ∃ cur, w.heap[g]? = some (.cells cur 41 (0, 0)) ∧ n ≤ cap ∧ cap ≤ maxLen ∧ cur.size = cap * 3 ∧ cur.toList.take (n * 3) = cs := by
    rcases h.2 with ⟨e0, _⟩ | ⟨g', cap', cur, e0, _, hg, hn, hm, hs, ht⟩
    · cases e0
    · injection e0 with e1 _ e3
      injection e1 with e1
      injection e1 with e1
      subst e1; subst e3
      exact ⟨cur, hg, hn, hm, hs, ht⟩
  have hm' : cap ≤ 9223372036854775807 := by simpa [maxLen] using hm
  have hcell : ∀ t, t < n * 3 → w.cell? ⟨g, t, none⟩ = cs[t]? := by
    intro t h
    rw [← ht, List.getElem?_take, if_pos h]
    simp [World.cell?, hg]
  rw [← hj]
  obtain ⟨news, hnews⟩ : ∃ news, news = cs.drop (j * 3) := ⟨_, rfl⟩
  rw [← hnews]
  have hij : i ≤ j := by omega
  have hlt : i < j := by omega
  have hjn : j ≤ n := by omega
  have hlen : news.length = (n - j) * 3 := by rw [hnews, List.length_drop, hl]; omega
  have hnj : ∀ q u, news[q]? = some u → w.drew.cell? ⟨g, j * 3 + q, none⟩ = some u := by
    intro q u hu
    have hq : q < news.length := (List.getElem?_eq_some_iff.1 hu).1
    rw [hnews, List.getElem?_drop] at hu
    exact (hcell _ (by omega)).trans hu
  obtain ⟨A, hA, hsrc⟩ : ∃ A : Addr, (if cap = j then some (⟨g, 0, none⟩ : Addr) else some ⟨g, j * 3, none⟩) = some A ∧ Hid (∀ t u, news[t]? = some u → w.drew.cell? (A.add t) = some u) := by
    by_cases h : cap = j
    · refine ⟨⟨g, 0, none⟩, by simp [h], fun t u hu => ?_⟩
      have h0 : news.length = 0 := by rw [hlen]; omega
      rw [List.length_eq_zero_iff.1 h0] at hu
      simp at hu
    · refine ⟨⟨g, j * 3, none⟩, by simp [h], fun t u hu => ?_⟩
      rw [Addr.add_lit]
      exact hnj t u hu
  have s1 : Hid (news.length = (n - j) * 3) := hlen
  have s2 : Hid (∀ u ∈ news, u.oneCell' = true) := by
    intro u hu
    rw [hnews] at hu
    exact h1 u (List.mem_of_mem_drop hu)
  have s3 : Hid (∀ t, t < news.length → (w.drew.cell? ⟨g, 0 + i * 3 + t, none⟩).isSome = true ∧ w.drew.frozen? ⟨g, 0 + i * 3 + t, none⟩ = false) := by
    intro t ht
    rw [hlen] at ht
    refine ⟨?_, by show w.frozen? _ = false; simp [World.frozen?, hg]⟩
    show (w.cell? _).isSome = true
    rw [hcell _ (by omega), List.getElem?_eq_getElem (by omega)]
    rfl
  obtain ⟨W1, hW1⟩ : ∃ W1, W1 = w.drew.setCells g (0 + i * 3) news := ⟨_, rfl⟩
  have hg1 : W1.heap[g]? = some (.cells (Go.Sort.setMany cur (0 + i * 3) news) 41 (0, 0)) := by rw [hW1]; exact heap_setCells_at g _ _ _ _ cur hg
  have hone : n - (i + (n - j)) = 1 := by omega
  have hcl : ∀ ty c, (Builtin.clear_ #[24] ty #[.slice (some ⟨g, (i + (n - j)) * 3, none⟩) (n - (i + (n - j))) c]).run Tryd.prog W1 = .ok (.tuple #[]) (W1.setCells g ((i + (n - j)) * 3) [.int .i8 0, .int .u8 0, .int .u8 0]) :=
    fun ty c => by rw [hone]; exact run_clear_one W1 _ _ ty _ [.int .i8 0, .int .u8 0, .int .u8 0] Tryd.underlying24 Tryd.zeroValue41 rfl (by decide) g ((i + (n - j)) * 3) _ (fun q hq => by simp [World.cell?, hg1]; simp at hq; omega) (fun q hq => by simp [World.frozen?, hg1])
  have hW : Hid (W1 = w.drew.setCells g (0 + i * 3) news) := hW1
  have hic : i ≤ cap := by omega
  have hjc : j ≤ cap := by omega
  obtain ⟨i0, hi0, hz0, hz1, hz2⟩ := info_parts (show (Tryd.prog.info? 41).map (fun i => (i.zero, i.size, i.bytes)) = some (some (.agg #[.int .i8 0, .int .u8 0, .int .u8 0]), 3, 3) by kernel_rfl)
  have hJ : Hid (j = i + 1) := hj
  clear hj hone hW1 hg1 hcell hnj hlen hg ht hs h hl
  go_enter Tryd.func34, Tryd.ntmps34
  go_wp2_with fail
  go_region_law (refine step_append_room rfl (.tmp 22) (.tmp 25) 24 rfl 41 i0 3 Tryd.underlying24 hi0 hz1 g 0 i cap (by simp [Act.eval, Act.put]) A (n - j) (cap - j) news (by simp [Act.eval, Act.put]) s1.out hsrc.out s2.out (by omega) s3.out ?_; rw [← hW.out])
  have hne : ¬ (cap = i + (n - j)) := by have := hJ.out; omega
  go_wp2
  go_ret
  have hj := hJ.out
  refine ⟨by rw [show i + (n - j) = n - 1 by omega]; rfl, ?_⟩
  rw [hW.out, show i + (n - j) = n - 1 by omega, Nat.zero_add]
  rfl

end Go.Proofs.YtjifmnffbfpdoaaDoor.H
