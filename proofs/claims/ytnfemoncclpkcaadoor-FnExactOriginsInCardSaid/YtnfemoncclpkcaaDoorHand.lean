-- Mine: walks of functions that the print does not reach.
import Derived.Test.YtnfemoncclpkcaaDoorProg
import Derived.Test.YtnfemoncclpkcaaDoorWWords
import Derived.Test.YtnfemoncclpkcaaDoorWLast
import Derived.Test.YtnfemoncclpkcaaDoorWMore
import Derived.Sort.WalkB12
import Derived.Lib.SlicesMore
import Derived.Lib.OwnBridge
import Derived.WalkKit
import Derived.Deep.LoopGhost
import Derived.Lib.ConvBytes
import Derived.Laws.BytesArg
import Derived.Tactics
import Derived.KernelRfl
import Derived.BigQuiet
import Derived.WalkSpells
import Derived.Lib.SliceRun
namespace Go.Proofs.YtnfemoncclpkcaaDoor.H
open Go.RowKit Go.Sort Go.Proofs.YtnfemoncclpkcaaDoorW.PrintWords Go.Proofs.YtnfemoncclpkcaaDoorW.PrintLast
set_option linter.unusedVariables false
set_option linter.unusedSimpArgs false
def enc8 : Int → Value := fun x => Value.int .u8 x
theorem enc8_eq (x : Int) : enc8 x = .int .u8 x := rfl
set_option maxHeartbeats 4000000 in
set_option maxRecDepth 100000 in
theorem rev_bytes (blk cap : Nat) (d : Array Int) (w : World) (hH : Holds enc8 w blk 0 d) (hsz : d.size ≤ 9223372036854775807) :
    Calls Tryd.prog 117 #[.slice (some ⟨blk, 0, none⟩) d.size cap] w fun e w' => e = .returned (.tuple #[]) ∧ ∃ n, w' = putRow enc8 (Sort.ahead w n) blk 0 d.reverse := by
  go_enter Tryd.func117, Tryd.ntmps117
  go_wp2
  go_loopg [2, 3] d.size (fun k s2 s3 wr => ∃ (i jn : Nat) (jz : Int) (dk : Array Int) (n : Nat), s2 = .int .i64 i ∧ s3 = .int .i64 jz ∧ ((i : Int) < jz → jz = jn ∧ jn < d.size) ∧ (¬ (i : Int) < jz → ¬ i < jn) ∧ jn - i ≤ k ∧
    dk.size = d.size ∧ wr = putRow enc8 (Sort.ahead w n) blk 0 dk ∧ reverseLoop i jn dk = reverseLoop 0 (d.size - 1) d)
  case atStart => exact ⟨0, d.size - 1, (d.size : Int) - 1, d, 0, rfl, rfl, fun h => ⟨by omega, by omega⟩, fun h => by omega, by omega, rfl, (putRow_self enc8 w blk 0 d hH).symm, rfl⟩
  case round =>
    obtain ⟨i, jn, jz, dk, n, rfl, rfl, h1, h2, hk, hds, hwr, heq⟩ := hrel
    by_cases hlt : (i : Int) < jz
    · obtain ⟨rfl, hjn⟩ := h1 hlt
      have hij : i < jn := by omega
      have hHk : Holds enc8 wr blk 0 dk := by rw [hwr]; exact holds_putRow enc8 _ blk 0 d dk (holds_ahead enc8 w n blk 0 d hH) hds
      obtain ⟨ci, fi⟩ := hHk i (by omega)
      obtain ⟨cj, fj⟩ := hHk jn (by omega)
      rw [enc8_eq, Nat.zero_add] at ci cj
      rw [Nat.zero_add] at fi fj
      have A : Aside (wr = putRow enc8 (Sort.ahead w n) blk 0 dk) := hwr
      clear hwr hHk hH h1 h2
      go_wp2_with fail
      go_region
      go_wp2
      go_roundg (jn - 1 - (i + 1))
      case measure => omega
      case rel =>
        rw [reverseLoop, if_pos hij] at heq
        exact ⟨i + 1, jn - 1, (jn : Int) - 1, swp dk i jn, n + 1, by simp, rfl, fun h => ⟨by omega, by omega⟩, fun h => by omega, Nat.le_refl _, by rw [size_swp]; exact hds,
          by
            have e_ := swap_world enc8 (i := i) (j := jn) (by omega) (by omega) A.out (x := .int .u8 dk[jn]!) (y := .int .u8 dk[i]!) rfl rfl
            rw [Nat.zero_add, Nat.zero_add] at e_
            first | exact e_ | (rw [← e_]; simp [getElem!_pos, show jn < dk.size by omega, show i < dk.size by omega]), heq⟩
    · have hnot := h2 hlt
      go_wp2
      go_end0
      refine ⟨rfl, n, ?_⟩
      rw [reverseLoop, if_neg hnot] at heq
      rw [← Lib.reverseLoop_reverse, ← heq]
theorem bytesOf_get (s : ByteArray) (j : Nat) (h : j < s.size) : (bytesOf s)[j]'(by rw [bytesOf_length]; exact h) = ((s.data.toList.getD j 0).toNat : Int) := by
  have h2 : j < s.data.toList.length := by rw [data_length]; exact h
  simp only [bytesOf, List.getElem_map]
  rw [List.getD_eq_getElem?_getD, List.getElem?_eq_getElem h2]
  rfl
theorem holds_bytes (w : World) (s : ByteArray) : Holds enc8 (Lib.bytesWorld w 5 s) w.heap.size 0 (bytesOf s).toArray := by
  intro j hj
  have hj' : j < s.size := by rw [List.size_toArray, bytesOf_length] at hj; exact hj
  rw [Nat.zero_add]
  refine ⟨?_, ?_⟩
  · rw [Lib.bytesWorld_cell w 5 s j hj', enc8_eq]
    have h1 : j < (bytesOf s).length := by rw [bytesOf_length]; exact hj'
    rw [List.getElem!_toArray, getElem!_pos (bytesOf s) j h1, bytesOf_get s j hj']
  · simp [World.frozen?, Lib.bytesWorld_at_new, Lib.bytesCells]
    intro h
    have : s.data.size = s.size := rfl
    omega
theorem holds_cells (w : World) (B : Nat) (l : List Int) (h : Holds enc8 w B 0 l.toArray) : ∀ i, i < l.length → w.cell? ⟨B, 0 + i, none⟩ = some (.int .u8 (l.getD i 0)) := by
  intro i hi
  have := (h i (by simpa using hi)).1
  rw [this, enc8_eq, List.getD_eq_getElem?_getD, List.getElem?_eq_getElem hi]
  simp [getElem!_pos, hi]
set_option maxHeartbeats 4000000 in
set_option maxRecDepth 100000 in
theorem turned_calls (s : ByteArray) (w : World) (hs : s.size ≤ 9223372036854775807) :
    Calls Tryd.prog 100 #[.string s] w fun e w' => e = .returned (.string (strOfNums (bytesOf s).reverse)) ∧ Below w.heap.size w w' := by
  have hcv := Lib.run_convert_string_bytes (P := Tryd.prog) w 9 57 5 s Tryd.underlying9 Tryd.underlying57 Tryd.underlying5
  have hH := holds_bytes w s
  have hb := bytes_below (Below.refl w.heap.size w) (Nat.le_refl _) 5 s
  have hlen := bytesOf_length s
  generalize hW : Lib.bytesWorld w 5 s = W at hcv hH hb
  generalize hC : grownCap w s.size 0 5 = C at hcv
  generalize hL : bytesOf s = L at hH hlen ⊢
  have hcv2 : ∀ (W' : World), Holds enc8 W' w.heap.size 0 L.reverse.toArray → (convert 57 9 (.slice (some ⟨w.heap.size, 0, none⟩) s.size C)).run Tryd.prog W' = .ok (.string (strOfNums L.reverse)) W' := by
    intro W' h'
    exact run_convert_bytes_arg (P := Tryd.prog) W' 57 5 Tryd.underlying57 Tryd.underlying5 w.heap.size 0 s.size C L.reverse (by rw [List.length_reverse, hlen]) (fun i hi => holds_cells W' _ _ h' i (by rw [List.length_reverse, hlen]; exact hi)) 9 Tryd.underlying9
  have hrev := rev_bytes w.heap.size C L.toArray W hH (by simpa [hlen] using hs)
  rw [show L.toArray.size = s.size by simpa using hlen, show L.toArray.reverse = L.reverse.toArray by simp] at hrev
  go_enter Tryd.func100, Tryd.ntmps100
  go_wp2_with (first | (go_at_call 117; refine hrev.mono ?_; rintro e w' ⟨rfl, n, hw⟩; have hH2 : Holds enc8 w' w.heap.size 0 L.reverse.toArray := (by rw [hw]; exact holds_putRow enc8 _ _ 0 L.toArray _ (holds_ahead enc8 W n _ 0 _ hH) (by simp)); have hb2 : Below w.heap.size w w' := (by rw [hw]; exact Go.Lib.below_putRow hb (Nat.le_refl _)); have hcv3 := hcv2 w' hH2; clear hw hH2))
  go_ret
  exact ⟨rfl, hb2⟩
def swap1 (a b x : Int) : Int := if x = a then b else x
def swapped (a b : Int) (L : List Int) (i : Nat) : List Int := (L.take i).map (swap1 a b) ++ L.drop i
theorem swapped_length (a b : Int) (L : List Int) (i : Nat) : (swapped a b L i).length = L.length := by simp [swapped]; omega
theorem swapped_get (a b : Int) (L : List Int) (i : Nat) (h : i < L.length) : (swapped a b L i)[i]'(by rw [swapped_length]; exact h) = L[i] := by
  simp only [swapped]
  rw [List.getElem_append_right (by rw [List.length_map, List.length_take]; omega)]
  simp [Nat.min_eq_left (Nat.le_of_lt h)]
theorem swapped_set (a b : Int) (L : List Int) (i : Nat) (h : i < L.length) : (swapped a b L i).set i (swap1 a b L[i]) = swapped a b L (i + 1) := by
  unfold swapped
  rw [List.set_append_right _ _ (by simp; omega), List.take_add_one, List.getElem?_eq_getElem h]
  have e : i - ((L.take i).map (swap1 a b)).length = 0 := by simp; omega
  rw [e, List.drop_eq_getElem_cons h, List.map_append, List.append_assoc]
  rfl
theorem swapped_keep (a b : Int) (L : List Int) (i : Nat) (h : i < L.length) (hne : L[i] ≠ a) : swapped a b L (i + 1) = swapped a b L i := by
  rw [← swapped_set a b L i h]
  have : swap1 a b L[i] = L[i] := by unfold swap1; rw [if_neg hne]
  rw [this, ← swapped_get a b L i h]
  exact List.set_getElem_self _
set_option maxHeartbeats 4000000 in
set_option maxRecDepth 100000 in
theorem l04Swap_calls (s : ByteArray) (x y : Int) (w : World) (hs : s.size ≤ 4611686018427387900) :
    Calls Tryd.prog 93 #[.string s, .int .u8 x, .int .u8 y] w fun e w' => e = .returned (.string (strOfNums ((bytesOf s).map (swap1 x y)))) ∧ Below w.heap.size w w' := by
  have hcv := Lib.run_convert_string_bytes (P := Tryd.prog) w 9 57 5 s Tryd.underlying9 Tryd.underlying57 Tryd.underlying5
  have hH := holds_bytes w s
  have hb := bytes_below (Below.refl w.heap.size w) (Nat.le_refl _) 5 s
  have hlen := bytesOf_length s
  generalize hW : Lib.bytesWorld w 5 s = W at hcv hH hb
  generalize hC : grownCap w s.size 0 5 = C at hcv
  generalize hL : bytesOf s = L at hH hlen ⊢
  have hcv2 : ∀ (W' : World), Holds enc8 W' w.heap.size 0 (L.map (swap1 x y)).toArray → (convert 57 9 (.slice (some ⟨w.heap.size, 0, none⟩) s.size C)).run Tryd.prog W' = .ok (.string (strOfNums (L.map (swap1 x y)))) W' := by
    intro W' h'
    exact run_convert_bytes_arg (P := Tryd.prog) W' 57 5 Tryd.underlying57 Tryd.underlying5 w.heap.size 0 s.size C (L.map (swap1 x y)) (by rw [List.length_map, hlen]) (fun i hi => holds_cells W' _ _ h' i (by rw [List.length_map, hlen]; exact hi)) 9 Tryd.underlying9
  have hB : Aside (Go.RowKit.Below w.heap.size w W) := hb
  clear hb hW hC
  go_enter Tryd.func93, Tryd.ntmps93
  go_wp2
  go_loopg [8] s.size (fun k s8 wr => ∃ i : Nat, s8 = .int .i64 i ∧ i + k = s.size ∧ wr = putRow enc8 W w.heap.size 0 (swapped x y L i).toArray)
  case atStart => exact ⟨0, rfl, by omega, by rw [show swapped x y L 0 = L by simp [swapped]]; exact (putRow_self enc8 W w.heap.size 0 L.toArray hH).symm⟩
  case round =>
    obtain ⟨i, rfl, hk, hwr⟩ := hrel
    have hHk : Holds enc8 wr w.heap.size 0 (swapped x y L i).toArray := by
      rw [hwr]; exact holds_putRow enc8 _ _ 0 L.toArray _ hH (by simp [swapped_length])
    by_cases hlt : (i : Int) < (s.size : Int)
    · have hi : i < L.length := by omega
      obtain ⟨ci, fi⟩ := hHk i (by simp [swapped_length]; omega)
      rw [enc8_eq, Nat.zero_add, List.getElem!_toArray, getElem!_pos (swapped x y L i) i (by rw [swapped_length]; exact hi), swapped_get x y L i hi] at ci
      rw [Nat.zero_add] at fi
      have A : Aside (wr = putRow enc8 W w.heap.size 0 (swapped x y L i).toArray) := hwr
      clear hwr hHk
      by_cases e : L[i] = x
      · have e1 : (L[i] == x) = true := beq_iff_eq.2 e
        go_wp2
        go_roundg (s.size - (i + 1))
        case measure => omega
        case rel =>
          refine ⟨i + 1, by simp, by omega, ?_⟩
          have h1 := putRow_set enc8 W w.heap.size 0 (swapped x y L i).toArray i y (by simp [swapped_length]; omega)
          rw [Nat.zero_add] at h1
          rw [A.out]
          refine Eq.trans h1 ?_
          rw [List.setIfInBounds_toArray, ← swapped_set x y L i hi]
          simp [swap1, e]
      · have e1 : (L[i] == x) = false := beq_eq_false_iff_ne.2 e
        go_wp2
        go_roundg (s.size - (i + 1))
        case measure => omega
        case rel =>
          refine ⟨i + 1, by simp, by omega, ?_⟩
          rw [swapped_keep x y L i hi e]
          exact A.out
    · have hn : i = s.size := by omega
      have hsw : swapped x y L i = L.map (swap1 x y) := by
        unfold swapped
        rw [List.take_of_length_le (by omega), List.drop_eq_nil_of_le (by omega), List.append_nil]
      rw [hsw] at hHk hwr
      have hcv3 := hcv2 wr hHk
      have hb2 : Below w.heap.size w wr := by
        rw [hwr]
        have := Go.Lib.below_putRow (enc := enc8) (q := 0) (g := w.heap.size) (d := (L.map (swap1 x y)).toArray) hB.out (Nat.le_refl _)
        simpa using this
      clear hHk hwr
      go_wp2
      go_ret
      exact ⟨rfl, hb2⟩

end Go.Proofs.YtnfemoncclpkcaaDoor.H
