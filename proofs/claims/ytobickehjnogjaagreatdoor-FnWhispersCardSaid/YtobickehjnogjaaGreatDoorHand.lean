-- Mine: walks of functions that the print does not reach.
import Derived.Test.YtobickehjnogjaaGreatDoorProg
import Derived.Test.YtobickehjnogjaaGreatDoorShelf
import Derived.Test.YtobickehjnogjaaGreatDoorWWords
import Derived.Test.YtobickehjnogjaaGreatDoorWLast
import Derived.Test.YtobickehjnogjaaGreatDoorWMore
import Derived.Sort.WalkB12
import Derived.Lib.SlicesMore
import Derived.Lib.OwnBridge
import Derived.WalkKit
import Derived.Deep.LoopGhost
import Derived.Deep.RegionLaw
import Derived.Lib.LazyBuf
import Derived.Laws.IdiomCopy
import Derived.Shelf.GgSortFunc.RowK
import Derived.Lib.ConvBytes
import Derived.Laws.BytesArg
import Derived.Tactics
import Derived.KernelRfl
import Derived.BigQuiet
import Derived.WalkSpells
import Derived.Lib.SliceRun
import Derived.StillTailTactics
import Derived.Maps.OwnOps
import Derived.Maps.OwnSet
import Derived.Maps.Views
import Derived.Maps.Keyed
import Derived.StringKeys
import Derived.Sort.OwnSorted
namespace Go.Proofs.YtobickehjnogjaaGreatDoor.H
open Go.RowKit Go.Sort Go.Proofs.YtobickehjnogjaaGreatDoorW.PrintWords Go.Proofs.YtobickehjnogjaaGreatDoorW.PrintLast
set_option linter.unusedVariables false
set_option linter.unusedSimpArgs false
def enc8 : Int → Value := fun x => Value.int .u8 x
theorem enc8_eq (x : Int) : enc8 x = .int .u8 x := rfl
set_option maxHeartbeats 4000000 in
set_option maxRecDepth 100000 in
theorem rev_bytes (blk cap : Nat) (d : Array Int) (w : World) (hH : Holds enc8 w blk 0 d) (hsz : d.size ≤ 9223372036854775807) :
    Calls Tryz.prog 85 #[.slice (some ⟨blk, 0, none⟩) d.size cap] w fun e w' => e = .returned (.tuple #[]) ∧ ∃ n, w' = putRow enc8 (Sort.ahead w n) blk 0 d.reverse := by
  go_enter Tryz.func85, Tryz.ntmps85
  go_wp2
  go_loopg [2, 3] d.size (fun k s2 s3 wr => ∃ (i jn : Nat) (jz : Int) (dk : Array Int) (n : Nat), s2 = .int .i64 i ∧ s3 = .int .i64 jz ∧ ((i : Int) < jz → jz = jn ∧ jn < d.size) ∧ (¬ (i : Int) < jz → ¬ i < jn) ∧ jn - i ≤ k ∧
    dk.size = d.size ∧ wr = putRow enc8 (Sort.ahead w n) blk 0 dk ∧ reverseLoop i jn dk = reverseLoop 0 (d.size - 1) d)
  case atStart => exact ⟨0, d.size - 1, (d.size : Int) - 1, d, 0, rfl, rfl, fun h => ⟨by omega, by omega⟩, fun h => by omega, by omega, rfl, (putRow_self enc8 w blk 0 d hH).symm, rfl⟩
  case round =>
    obtain ⟨i, jn, jz, dk, n, rfl, rfl, h1, h2, hk, hds, hwr, heq⟩ := hrel
    by_cases hlt : (i : Int) < jz
    · obtain ⟨rfl, hjn⟩ := h1 hlt
      have hij : i < jn := by omega
      have hHk : Holds enc8 wr blk 0 dk := by rw [hwr]; exact holds_putRow enc8 _ blk 0 d dk (holds_ahead enc8 w n blk 0 d hH) hds
      obtain ⟨ci, fi⟩ := hHk i (by omega)
      obtain ⟨cj, fj⟩ := hHk jn (by omega)
      rw [enc8_eq, Nat.zero_add] at ci cj
      rw [Nat.zero_add] at fi fj
      have A : Aside (wr = putRow enc8 (Sort.ahead w n) blk 0 dk) := hwr
      clear hwr hHk hH h1 h2
      go_wp2_with fail
      go_region
      go_wp2
      go_roundg (jn - 1 - (i + 1))
      case measure => omega
      case rel =>
        rw [reverseLoop, if_pos hij] at heq
        exact ⟨i + 1, jn - 1, (jn : Int) - 1, swp dk i jn, n + 1, by simp, rfl, fun h => ⟨by omega, by omega⟩, fun h => by omega, Nat.le_refl _, by rw [size_swp]; exact hds,
          by
            have e_ := swap_world enc8 (i := i) (j := jn) (by omega) (by omega) A.out (x := .int .u8 dk[jn]!) (y := .int .u8 dk[i]!) rfl rfl
            rw [Nat.zero_add, Nat.zero_add] at e_
            first | exact e_ | (rw [← e_]; simp [getElem!_pos, show jn < dk.size by omega, show i < dk.size by omega]), heq⟩
    · have hnot := h2 hlt
      go_wp2
      go_end0
      refine ⟨rfl, n, ?_⟩
      rw [reverseLoop, if_neg hnot] at heq
      rw [← Lib.reverseLoop_reverse, ← heq]
theorem bytesOf_get (s : ByteArray) (j : Nat) (h : j < s.size) : (bytesOf s)[j]'(by rw [bytesOf_length]; exact h) = ((s.data.toList.getD j 0).toNat : Int) := by
  have h2 : j < s.data.toList.length := by rw [data_length]; exact h
  simp only [bytesOf, List.getElem_map]
  rw [List.getD_eq_getElem?_getD, List.getElem?_eq_getElem h2]
  rfl
theorem holds_bytes (w : World) (s : ByteArray) : Holds enc8 (Lib.bytesWorld w 5 s) w.heap.size 0 (bytesOf s).toArray := by
  intro j hj
  have hj' : j < s.size := by rw [List.size_toArray, bytesOf_length] at hj; exact hj
  rw [Nat.zero_add]
  refine ⟨?_, ?_⟩
  · rw [Lib.bytesWorld_cell w 5 s j hj', enc8_eq]
    have h1 : j < (bytesOf s).length := by rw [bytesOf_length]; exact hj'
    rw [List.getElem!_toArray, getElem!_pos (bytesOf s) j h1, bytesOf_get s j hj']
  · simp [World.frozen?, Lib.bytesWorld_at_new, Lib.bytesCells]
    intro h
    have : s.data.size = s.size := rfl
    omega
theorem holds_cells (w : World) (B : Nat) (l : List Int) (h : Holds enc8 w B 0 l.toArray) : ∀ i, i < l.length → w.cell? ⟨B, 0 + i, none⟩ = some (.int .u8 (l.getD i 0)) := by
  intro i hi
  have := (h i (by simpa using hi)).1
  rw [this, enc8_eq, List.getD_eq_getElem?_getD, List.getElem?_eq_getElem hi]
  simp [getElem!_pos, hi]
set_option maxHeartbeats 4000000 in
set_option maxRecDepth 100000 in
theorem turned_calls (s : ByteArray) (w : World) (hs : s.size ≤ 9223372036854775807) :
    Calls Tryz.prog 65 #[.string s] w fun e w' => e = .returned (.string (strOfNums (bytesOf s).reverse)) ∧ Below w.heap.size w w' := by
  have hcv := Lib.run_convert_string_bytes (P := Tryz.prog) w 9 22 5 s Tryz.underlying9 Tryz.underlying22 Tryz.underlying5
  have hH := holds_bytes w s
  have hb := bytes_below (Below.refl w.heap.size w) (Nat.le_refl _) 5 s
  have hlen := bytesOf_length s
  generalize hW : Lib.bytesWorld w 5 s = W at hcv hH hb
  generalize hC : grownCap w s.size 0 5 = C at hcv
  generalize hL : bytesOf s = L at hH hlen ⊢
  have hcv2 : ∀ (W' : World), Holds enc8 W' w.heap.size 0 L.reverse.toArray → (convert 22 9 (.slice (some ⟨w.heap.size, 0, none⟩) s.size C)).run Tryz.prog W' = .ok (.string (strOfNums L.reverse)) W' := by
    intro W' h'
    exact run_convert_bytes_arg (P := Tryz.prog) W' 22 5 Tryz.underlying22 Tryz.underlying5 w.heap.size 0 s.size C L.reverse (by rw [List.length_reverse, hlen]) (fun i hi => holds_cells W' _ _ h' i (by rw [List.length_reverse, hlen]; exact hi)) 9 Tryz.underlying9
  have hrev := rev_bytes w.heap.size C L.toArray W hH (by simpa [hlen] using hs)
  rw [show L.toArray.size = s.size by simpa using hlen, show L.toArray.reverse = L.reverse.toArray by simp] at hrev
  go_enter Tryz.func65, Tryz.ntmps65
  go_wp2_with (first | (go_at_call 85; refine hrev.mono ?_; rintro e w' ⟨rfl, n, hw⟩; have hH2 : Holds enc8 w' w.heap.size 0 L.reverse.toArray := (by rw [hw]; exact holds_putRow enc8 _ _ 0 L.toArray _ (holds_ahead enc8 W n _ 0 _ hH) (by simp)); have hb2 : Below w.heap.size w w' := (by rw [hw]; exact Go.Lib.below_putRow hb (Nat.le_refl _)); have hcv3 := hcv2 w' hH2; clear hw hH2))
  go_ret
  exact ⟨rfl, hb2⟩
def swap1 (a b x : Int) : Int := if x = a then b else x
def swapped (a b : Int) (L : List Int) (i : Nat) : List Int := (L.take i).map (swap1 a b) ++ L.drop i
theorem swapped_length (a b : Int) (L : List Int) (i : Nat) : (swapped a b L i).length = L.length := by simp [swapped]; omega
theorem swapped_get (a b : Int) (L : List Int) (i : Nat) (h : i < L.length) : (swapped a b L i)[i]'(by rw [swapped_length]; exact h) = L[i] := by
  simp only [swapped]
  rw [List.getElem_append_right (by rw [List.length_map, List.length_take]; omega)]
  simp [Nat.min_eq_left (Nat.le_of_lt h)]
theorem swapped_set (a b : Int) (L : List Int) (i : Nat) (h : i < L.length) : (swapped a b L i).set i (swap1 a b L[i]) = swapped a b L (i + 1) := by
  unfold swapped
  rw [List.set_append_right _ _ (by simp; omega), List.take_add_one, List.getElem?_eq_getElem h]
  have e : i - ((L.take i).map (swap1 a b)).length = 0 := by simp; omega
  rw [e, List.drop_eq_getElem_cons h, List.map_append, List.append_assoc]
  rfl
theorem swapped_keep (a b : Int) (L : List Int) (i : Nat) (h : i < L.length) (hne : L[i] ≠ a) : swapped a b L (i + 1) = swapped a b L i := by
  rw [← swapped_set a b L i h]
  have : swap1 a b L[i] = L[i] := by unfold swap1; rw [if_neg hne]
  rw [this, ← swapped_get a b L i h]
  exact List.set_getElem_self _
set_option maxHeartbeats 4000000 in
set_option maxRecDepth 100000 in
theorem l04Swap_calls (s : ByteArray) (x y : Int) (w : World) (hs : s.size ≤ 4611686018427387900) :
    Calls Tryz.prog 78 #[.string s, .int .u8 x, .int .u8 y] w fun e w' => e = .returned (.string (strOfNums ((bytesOf s).map (swap1 x y)))) ∧ Below w.heap.size w w' := by
  have hcv := Lib.run_convert_string_bytes (P := Tryz.prog) w 9 22 5 s Tryz.underlying9 Tryz.underlying22 Tryz.underlying5
  have hH := holds_bytes w s
  have hb := bytes_below (Below.refl w.heap.size w) (Nat.le_refl _) 5 s
  have hlen := bytesOf_length s
  generalize hW : Lib.bytesWorld w 5 s = W at hcv hH hb
  generalize hC : grownCap w s.size 0 5 = C at hcv
  generalize hL : bytesOf s = L at hH hlen ⊢
  have hcv2 : ∀ (W' : World), Holds enc8 W' w.heap.size 0 (L.map (swap1 x y)).toArray → (convert 22 9 (.slice (some ⟨w.heap.size, 0, none⟩) s.size C)).run Tryz.prog W' = .ok (.string (strOfNums (L.map (swap1 x y)))) W' := by
    intro W' h'
    exact run_convert_bytes_arg (P := Tryz.prog) W' 22 5 Tryz.underlying22 Tryz.underlying5 w.heap.size 0 s.size C (L.map (swap1 x y)) (by rw [List.length_map, hlen]) (fun i hi => holds_cells W' _ _ h' i (by rw [List.length_map, hlen]; exact hi)) 9 Tryz.underlying9
  have hB : Aside (Go.RowKit.Below w.heap.size w W) := hb
  clear hb hW hC
  go_enter Tryz.func78, Tryz.ntmps78
  go_wp2
  go_loopg [8] s.size (fun k s8 wr => ∃ i : Nat, s8 = .int .i64 i ∧ i + k = s.size ∧ wr = putRow enc8 W w.heap.size 0 (swapped x y L i).toArray)
  case atStart => exact ⟨0, rfl, by omega, by rw [show swapped x y L 0 = L by simp [swapped]]; exact (putRow_self enc8 W w.heap.size 0 L.toArray hH).symm⟩
  case round =>
    obtain ⟨i, rfl, hk, hwr⟩ := hrel
    have hHk : Holds enc8 wr w.heap.size 0 (swapped x y L i).toArray := by
      rw [hwr]; exact holds_putRow enc8 _ _ 0 L.toArray _ hH (by simp [swapped_length])
    by_cases hlt : (i : Int) < (s.size : Int)
    · have hi : i < L.length := by omega
      obtain ⟨ci, fi⟩ := hHk i (by simp [swapped_length]; omega)
      rw [enc8_eq, Nat.zero_add, List.getElem!_toArray, getElem!_pos (swapped x y L i) i (by rw [swapped_length]; exact hi), swapped_get x y L i hi] at ci
      rw [Nat.zero_add] at fi
      have A : Aside (wr = putRow enc8 W w.heap.size 0 (swapped x y L i).toArray) := hwr
      clear hwr hHk
      by_cases e : L[i] = x
      · have e1 : (L[i] == x) = true := beq_iff_eq.2 e
        go_wp2
        go_roundg (s.size - (i + 1))
        case measure => omega
        case rel =>
          refine ⟨i + 1, by simp, by omega, ?_⟩
          have h1 := putRow_set enc8 W w.heap.size 0 (swapped x y L i).toArray i y (by simp [swapped_length]; omega)
          rw [Nat.zero_add] at h1
          rw [A.out]
          refine Eq.trans h1 ?_
          rw [List.setIfInBounds_toArray, ← swapped_set x y L i hi]
          simp [swap1, e]
      · have e1 : (L[i] == x) = false := beq_eq_false_iff_ne.2 e
        go_wp2
        go_roundg (s.size - (i + 1))
        case measure => omega
        case rel =>
          refine ⟨i + 1, by simp, by omega, ?_⟩
          rw [swapped_keep x y L i hi e]
          exact A.out
    · have hn : i = s.size := by omega
      have hsw : swapped x y L i = L.map (swap1 x y) := by
        unfold swapped
        rw [List.take_of_length_le (by omega), List.drop_eq_nil_of_le (by omega), List.append_nil]
      rw [hsw] at hHk hwr
      have hcv3 := hcv2 wr hHk
      have hb2 : Below w.heap.size w wr := by
        rw [hwr]
        have := Go.Lib.below_putRow (enc := enc8) (q := 0) (g := w.heap.size) (d := (L.map (swap1 x y)).toArray) hB.out (Nat.le_refl _)
        simpa using this
      clear hHk hwr
      go_wp2
      go_ret
      exact ⟨rfl, hb2⟩

/-! ### slices.DeleteFunc at strings, for a closure that takes memory; Sort and Compact behind it -/
theorem heap_setCell_at (w : World) (g o : Nat) (v : Value) (e : TypeId) (cur : Array Value) (h : w.heap[g]? = some (.cells cur e (0, 0))) : (w.setCell ⟨g, o, none⟩ v).heap[g]? = some (.cells (cur.setIfInBounds o v) e (0, 0)) := by
  simp [World.setCell, Array.getElem?_modify, h]
theorem heap_setCells_at (g : Nat) (e : TypeId) : ∀ (vs : List Value) (o : Nat) (w : World) (cur : Array Value), w.heap[g]? = some (.cells cur e (0, 0)) → (w.setCells g o vs).heap[g]? = some (.cells (Go.Sort.setMany cur o vs) e (0, 0))
  | [], _, _, _, h => h
  | v :: r, o, w, cur, h => by
    rw [World.setCells, Go.Sort.setMany]
    exact heap_setCells_at g e r (o + 1) _ _ (heap_setCell_at w g o v e cur h)
def keepO (p : ByteArray → Option Bool) : List ByteArray → Option (List ByteArray)
  | [] => some []
  | x :: r => (p x).bind fun b => (keepO p r).bind fun s => some (if b then s else x :: s)
def delRest (p : ByteArray → Option Bool) (ts : List ByteArray) (i : Int) : Option (List ByteArray) :=
  if i = -1 then some ts else if 0 ≤ i ∧ i < (ts.length : Int) then (keepO p (ts.drop (i.toNat + 1))).map (ts.take i.toNat ++ ·) else none
/-- A row of strings of the call's own: its block, and what it holds. -/
def RowS (W : World) (g cap : Nat) (d : List ByteArray) : Prop := ∃ cur : Array Value, W.heap[g]? = some (.cells cur 9 (0, 0)) ∧ cur.size = cap ∧ d.length ≤ cap ∧ cap ≤ maxLen ∧ cur.toList.take d.length = d.map Value.string
theorem RowS.lt {W : World} {g cap : Nat} {d : List ByteArray} (h : RowS W g cap d) : g < W.heap.size := by
  obtain ⟨cur, h1, _⟩ := h
  exact (Array.getElem?_eq_some_iff.1 h1).1
theorem RowS.below {W W' : World} {g cap : Nat} {d : List ByteArray} (h : RowS W g cap d) (hb : Below W.heap.size W W') : RowS W' g cap d := by
  obtain ⟨cur, h1, h2⟩ := h
  exact ⟨cur, (hb.block g (Array.getElem?_eq_some_iff.1 h1).1).trans h1, h2⟩
theorem RowS.cell {W : World} {g cap : Nat} {d : List ByteArray} (h : RowS W g cap d) (j : Nat) (hj : j < d.length) : W.cell? ⟨g, j, none⟩ = some (.string d[j]) := by
  obtain ⟨cur, h1, h2, h3, _, h4⟩ := h
  have e : (cur.toList.take d.length)[j]? = (d.map Value.string)[j]? := by rw [h4]
  rw [List.getElem?_take, if_pos hj, Array.getElem?_toList, List.getElem?_map, List.getElem?_eq_getElem hj] at e
  simp only [World.cell?, h1]
  exact e
theorem RowS.frozen {W : World} {g cap : Nat} {d : List ByteArray} (h : RowS W g cap d) (j : Nat) : W.frozen? ⟨g, j, none⟩ = false := by
  obtain ⟨cur, h1, _⟩ := h
  simp [World.frozen?, h1]
theorem RowS.set {W : World} {g cap : Nat} {d : List ByteArray} (h : RowS W g cap d) (i : Nat) (x : ByteArray) : RowS (W.setCell ⟨g, i, none⟩ (.string x)) g cap (d.set i x) := by
  obtain ⟨cur, h1, h2, h3, h5, h4⟩ := h
  refine ⟨_, heap_setCell_at W g i _ _ cur h1, by simpa using h2, by simpa using h3, h5, ?_⟩
  rw [List.length_set, Array.toList_setIfInBounds, List.take_set, h4, List.map_set]
theorem RowS.drew {W : World} {g cap : Nat} {d : List ByteArray} (h : RowS W g cap d) : RowS W.drew g cap d := h
theorem take_setMany (vs : List Value) : ∀ (o : Nat) (cur : Array Value) (n : Nat), n ≤ o → (Go.Sort.setMany cur o vs).toList.take n = cur.toList.take n := by
  induction vs with
  | nil => intro o cur n _; rfl
  | cons v r ih =>
    intro o cur n h
    rw [Go.Sort.setMany, ih (o + 1) _ n (by omega), Array.toList_setIfInBounds, List.take_set_of_le h]
theorem RowS.cut {W : World} {g cap : Nat} {d : List ByteArray} (h : RowS W g cap d) (i : Nat) (hi : i ≤ d.length) (vs : List Value) : RowS (W.setCells g i vs) g cap (d.take i) := by
  obtain ⟨cur, h1, h2, h3, h5, h4⟩ := h
  have hl : (d.take i).length = i := by rw [List.length_take]; omega
  refine ⟨_, heap_setCells_at g _ vs i W cur h1, by simpa using h2, by omega, h5, ?_⟩
  rw [hl, take_setMany vs i cur i (Nat.le_refl _), List.map_take, ← h4, List.take_take, Nat.min_eq_left hi]
theorem RowS.own {W : World} {base g cap : Nat} {d : List ByteArray} (h : RowS W g cap d) (hb : base ≤ g) : W.ownsRow base 9 1 (.slice (some ⟨g, 0, none⟩) d.length cap) d.length (d.map Value.string) := by
  obtain ⟨cur, h1, h2, h3, h5, h4⟩ := h
  exact ⟨by simp, .inr ⟨g, cap, cur, rfl, hb, h1, h3, h5, by simpa using h2, by simpa using h4⟩⟩
theorem RowS.of_own {W : World} {base g cap n : Nat} {d : List ByteArray} (h : W.ownsRow base 9 1 (.slice (some ⟨g, 0, none⟩) n cap) n (d.map Value.string)) : n = d.length ∧ base ≤ g ∧ RowS W g cap d := by
  have hl : d.length = n := by simpa using h.1
  rcases h.2 with ⟨e0, _⟩ | ⟨g', cap', cur, e0, hb, hg, hn, hm, hs, ht⟩
  · cases e0
  · injection e0 with e1 _ e3
    injection e1 with e1
    injection e1 with e1
    subst e1; subst e3; subst hl
    exact ⟨rfl, hb, cur, hg, by simpa using hs, hn, hm, by simpa using ht⟩
set_option maxHeartbeats 4000000 in
set_option maxRecDepth 1000000 in
theorem delstr_calls (p : ByteArray → Option Bool) (lb : Array Value) (B g cap : Nat) (w0 w : World) (hB0 : Below B w0 w) (hg : B ≤ g) (ts : List ByteArray) (hrow : RowS w g cap ts)
    (hcl : ∀ W x r, Below B w0 W → p x = some r → Calls Tryz.prog 68 (#[.string x] ++ lb) W fun e w' => e = .returned (.bool r) ∧ Below W.heap.size W w')
    (i : Int) (hi : Calls Tryz.prog 75 #[.slice (some ⟨g, 0, none⟩) ts.length cap, .func (.func 68) #[] lb] w fun e w' => e = .returned (.int .i64 i) ∧ Below w.heap.size w w')
    (l : List ByteArray) (hl : delRest p ts i = some l) :
    Calls Tryz.prog 66 #[.slice (some ⟨g, 0, none⟩) ts.length cap, .func (.func 68) #[] lb] w fun e w' => e = .returned (.slice (some ⟨g, 0, none⟩) l.length cap) ∧ Below B w0 w' ∧ RowS w' g cap l := by
  have hcm : ts.length ≤ cap ∧ cap ≤ maxLen := by obtain ⟨cur, _, _, h3, h5, _⟩ := hrow; exact ⟨h3, h5⟩
  have hm' : cap ≤ 9223372036854775807 := by simpa [maxLen] using hcm.2
  have hn := hcm.1
  have ROW : Aside (RowS w g cap ts) := hrow
  have HB : Aside (Below B w0 w) := hB0
  have HC : Aside _ := hcl
  have HBS : Aside (B ≤ w.heap.size) := Nat.le_of_lt (Nat.lt_of_le_of_lt hg hrow.lt)
  unfold delRest at hl
  by_cases c1 : i = -1
  · rw [if_pos c1] at hl
    obtain rfl := Option.some.inj hl
    subst c1
    clear hrow hB0 hcl hl hcm
    go_enter Tryz.func66, Tryz.ntmps66
    go_wp2_with ((go_at_call 75; refine hi.mono ?_; rintro e w1 ⟨rfl, hb1⟩; have R1 := Aside0.mk (ROW.out.below hb1); have B1 := Aside0.mk (HB.out.trans (hb1.mono HBS.out))))
    go_ret
    exact ⟨rfl, B1.out, R1.out⟩
  · rw [if_neg c1] at hl
    by_cases c2 : 0 ≤ i ∧ i < (ts.length : Int)
    · rw [if_pos c2] at hl
      obtain ⟨i0, rfl⟩ : ∃ i0 : Nat, i = (i0 : Int) := ⟨i.toNat, by omega⟩
      rw [Int.toNat_natCast] at hl
      have hi0 : i0 < ts.length := by omega
      have hne : ((i0 : Int) == -1) = false := beq_eq_false_iff_ne.2 (by omega)
      have HL : Aside _ := hl
      clear hrow hB0 hcl hl hcm c2 c1
      go_enter Tryz.func66, Tryz.ntmps66
      go_wp2_with ((go_at_call 75; refine hi.mono ?_; rintro e w1 ⟨rfl, hb1⟩; have R1 := Aside0.mk (ROW.out.below hb1); have B1 := Aside0.mk (HB.out.trans (hb1.mono HBS.out))))
      go_loopg [5, 6, 7] ts.length (fun gg s5 s6 _ wr => ∃ (i j : Nat) (dk : List ByteArray), s5 = .int .i64 i ∧ s6 = .int .i64 j ∧ i < j ∧ j ≤ ts.length ∧ ts.length - j ≤ gg ∧ Aside (Below B w0 wr) ∧ Aside (RowS wr g cap dk) ∧ dk.length = ts.length ∧ dk.drop j = ts.drop j ∧ Aside ((keepO p (ts.drop j)).map (dk.take i ++ ·) = some l))
      case atStart => exact ⟨i0, i0 + 1, ts, rfl, by go_num, by omega, by omega, by omega, B1.out, R1.out, rfl, rfl, HL.out⟩
      case round =>
        obtain ⟨i, j, dk, rfl, rfl, hij, hjd, hgg, B2, R2, hds, hdr, L2⟩ := hrel
        by_cases hlt : j < ts.length
        · have hltz : (j : Int) < (ts.length : Int) := by omega
          have cj := R2.out.cell j (by omega)
          have ci := R2.out.cell i (by omega)
          have fi := R2.out.frozen i
          have hdj : dk.drop j = dk[j] :: dk.drop (j + 1) := List.drop_eq_getElem_cons (by omega)
          have hL := L2.out
          rw [← hdr, hdj] at hL
          generalize hu : dk[j] = u at cj hL hdj
          obtain ⟨rest, hrest, hL⟩ := Option.map_eq_some_iff.1 hL
          unfold keepO at hrest
          obtain ⟨q, hq, hrest⟩ := Option.bind_eq_some_iff.1 hrest
          obtain ⟨r2, hr2, hrest⟩ := Option.bind_eq_some_iff.1 hrest
          have hrest := Option.some.inj hrest
          have hcall := HC.out wr u q B2.out hq
          have hdr2 : dk.drop (j + 1) = ts.drop (j + 1) := by rw [← List.drop_drop, ← List.drop_drop, hdr]
          rw [hdr2] at hr2
          have HBW : Aside (B ≤ wr.heap.size) := Nat.le_of_lt (Nat.lt_of_le_of_lt hg R2.out.lt)
          generalize hold : dk[i] = old at ci
          have C : Aside (dk[j] = u) := hu
          have HR : Aside0 (keepO p (ts.drop (j + 1)) = some r2) := ⟨hr2⟩
          have HD : Aside0 (dk.drop (j + 1) = ts.drop (j + 1)) := ⟨hdr2⟩
          have HE : Aside0 ((if q then r2 else u :: r2) = rest) := ⟨hrest⟩
          have HF : Aside0 (dk.take i ++ rest = l) := ⟨hL⟩
          clear hu hold hr2 hdr2 hrest hL hdj hdr hq L2
          cases q with
          | false =>
            go_wp2_with ((go_at_call 68; refine hcall.mono ?_; rintro e w2 ⟨rfl, hb2⟩; have B3 := Aside0.mk (B2.out.trans (hb2.mono HBW.out)); have R3 := Aside0.mk (R2.out.below hb2); have ci3 := R3.out.cell i (by omega); have fi3 := R3.out.frozen i))
            go_roundg (ts.length - (j + 1))
            case measure => omega
            case rel =>
              refine ⟨i + 1, j + 1, dk.set i u, by go_num, by go_num, by omega, by omega, Nat.le_refl _, (show Aside _ from Go.below_setCells hg [Value.string u] i w2 B3.out), (show Aside _ from R3.out.set i u), by rw [List.length_set]; exact hds, ?_, ?_⟩
              · rw [List.drop_set_of_lt (by omega)]; exact HD.out
              · show (keepO p (ts.drop (j + 1))).map (fun x => (dk.set i u).take (i + 1) ++ x) = some l
                rw [HR.out, List.take_add_one, List.take_set_of_le (Nat.le_refl i), List.getElem?_set_self (by omega)]
                refine congrArg some ?_
                rw [← HF.out, ← HE.out]
                simp
          | true =>
            go_wp2_with ((go_at_call 68; refine hcall.mono ?_; rintro e w2 ⟨rfl, hb2⟩; have B3 := Aside0.mk (B2.out.trans (hb2.mono HBW.out)); have R3 := Aside0.mk (R2.out.below hb2)))
            go_roundg (ts.length - (j + 1))
            case measure => omega
            case rel => exact ⟨i, j + 1, dk, rfl, by go_num, by omega, by omega, Nat.le_refl _, B3.out, R3.out, hds, HD.out, by rw [HR.out]; exact congrArg some ((congrArg _ HE.out).trans HF.out)⟩
        · obtain rfl : j = ts.length := by omega
          have hltz : ¬ (ts.length : Int) < (ts.length : Int) := by omega
          have hil : i < ts.length := hij
          have hL := L2.out
          rw [List.drop_length] at hL
          have hLL : dk.take i = l := by simpa [keepO] using hL
          have hcl : ∀ ty, (Builtin.clear_ #[29] ty #[.slice (some ⟨g, i, none⟩) (ts.length - i) (cap - i)]).run Tryz.prog wr = .ok (.tuple #[]) (wr.setCells g i (List.replicate (ts.length - i) (.string ⟨#[]⟩))) :=
            fun ty => Lib.run_clear_slice wr _ _ ty _ Tryz.underlying29 Tryz.zeroValue9 rfl rfl g i _ _ (by omega) (fun t ht => by rw [R2.out.cell (i + t) (by omega)]; rfl) (fun t ht => R2.out.frozen (i + t))
          have R3 := Aside0.mk (R2.out.cut i (by omega) (List.replicate (ts.length - i) (.string ⟨#[]⟩)))
          have B3 := Aside0.mk (Go.below_setCells hg (List.replicate (ts.length - i) (.string ⟨#[]⟩)) i wr B2.out)
          have hll : l.length = i := by rw [← hLL, List.length_take]; omega
          have hic : ¬ (cap = i) := by omega
          have hile : i ≤ cap := by omega
          clear hL L2
          go_wp2
          go_ret
          exact ⟨rfl, B3.out, by rw [← hLL]; exact R3.out⟩
    · rw [if_neg c2] at hl; cases hl
def bytesL (l : List ByteArray) : List (List UInt8) := l.map (·.data.toList)
def sortB (l : List ByteArray) : List (List UInt8) := (bytesL l).mergeSort fun x y => decide (x ≤ y)
def unB (s : List (List UInt8)) : List ByteArray := s.map fun b => ⟨b.toArray⟩
theorem unB_enc (s : List (List UInt8)) : (unB s).map Value.string = s.map encStr := by
  unfold unB
  rw [List.map_map]
  exact List.map_congr_left (fun x _ => rfl)
theorem RowS.holds {W : World} {g cap : Nat} {s : List (List UInt8)} (h : RowS W g cap (unB s)) : Holds encStr W g 0 s.toArray := by
  obtain ⟨cur, h1, h2, h3, h5, h4⟩ := h
  have hl : (unB s).length = s.length := List.length_map _
  rw [unB_enc, hl] at h4
  exact _root_.Go.holds_of_block h1 h4
theorem unB_bytes (l : List ByteArray) : unB (bytesL l) = l := by
  unfold unB bytesL
  rw [List.map_map]
  exact (List.map_congr_left (fun x _ => rfl)).trans (List.map_id l)
theorem sort_row {B g cap : Nat} {w0 w : World} (hB0 : Below B w0 w) (hg : B ≤ g) {l : List ByteArray} (h : RowS w g cap l) (hn : l.length < 4611686018427387904) :
    Calls Tryz.prog 49 #[.slice (some ⟨g, 0, none⟩) l.length cap] w fun e w' => e = .returned (.tuple #[]) ∧ Below B w0 w' ∧ RowS w' g cap (unB (sortB l)) := by
  have hbl : (bytesL l).length = l.length := List.length_map _
  have hH : Holds encStr w g 0 (bytesL l).toArray := RowS.holds (by rw [unB_bytes]; exact h)
  have hc := Tryz.slices_Sort_string g 0 cap (bytesL l) w hH h.lt (by omega)
  rw [hbl] at hc
  refine hc.mono ?_
  rintro e w' ⟨rfl, n, os, rfl⟩
  have hlt := h.lt
  obtain ⟨cur, h1, h2, h3, h5, h4⟩ := h
  have hs := Go.ownsRow_sorted (w := w) (base := B) (g := g) (cap := cap) (n := n) (os := os) (ss := bytesL l) (ts := sortB l) (List.length_mergeSort _) hg h1 (by omega) h5 (by omega)
  rw [← unB_enc] at hs
  refine ⟨rfl, ?_, (RowS.of_own hs).2.2⟩
  exact hB0.grown (Go.grownBy_sorted _) (Nat.le_of_lt (Nat.lt_of_le_of_lt hg hlt)) (fun j hj => by cases hj; exact hg)
theorem compact_row {B g cap : Nat} {w0 w : World} (hB0 : Below B w0 w) (hg : B ≤ g) {s : List (List UInt8)} (h : RowS w g cap (unB s)) :
    Calls Tryz.prog 50 #[.slice (some ⟨g, 0, none⟩) s.length cap] w fun e w' => e = .returned (.slice (some ⟨g, 0, none⟩) (unB (Lib.compact s)).length cap) ∧ Below B w0 w' ∧ RowS w' g cap (unB (Lib.compact s)) := by
  have hl : (unB s).length = s.length := List.length_map _
  have hcap : s.length ≤ cap ∧ cap ≤ maxLen := by obtain ⟨cur, _, _, h3, h5, _⟩ := h; exact ⟨by omega, h5⟩
  have hc := Tryz.slices_Compact_string g 0 cap s w h.holds (by have := hcap.2; simp only [maxLen] at this; omega) hcap.1
  refine hc.mono ?_
  rintro e w' ⟨rfl, q, rfl⟩
  have hle := Lib.compact_length_le s
  have ho := h.own hg
  rw [hl, unB_enc] at ho
  have hc2 := Lib.ownsRow_putRow (q := q) (k := (Lib.compact s).length) (ys := Lib.compact s ++ List.replicate (s.length - (Lib.compact s).length) []) ho (by simp; omega) hle
  rw [List.take_left, ← unB_enc] at hc2
  refine ⟨by rw [show (unB (Lib.compact s)).length = (Lib.compact s).length from List.length_map _], Lib.below_putRow hB0 hg, (RowS.of_own hc2).2.2⟩
theorem keepO_mono {p q : ByteArray → Option Bool} (h : ∀ s, LeO (p s) (q s)) : ∀ l, LeO (keepO p l) (keepO q l)
  | [] => LeO.refl _
  | x :: r => by
    unfold keepO
    exact LeO.bind (h x) (fun b => LeO.bind (keepO_mono h r) (fun s => LeO.refl _))
theorem delRest_mono {p q : ByteArray → Option Bool} (h : ∀ s, LeO (p s) (q s)) (ts : List ByteArray) (i : Int) : LeO (delRest p ts i) (delRest q ts i) := by
  unfold delRest
  refine LeO.ite (LeO.refl _) (LeO.ite ?_ (LeO.refl _))
  intro r hr
  obtain ⟨x, hx, e⟩ := Option.map_eq_some_iff.1 hr
  rw [keepO_mono h _ x hx, Option.map_some, e]
theorem rowS_of_R {W : World} {base : Nat} {ok : Nat → Prop} {v : Value} {ts : List ByteArray} (h : Kd.R Kd.string 9 W base ok v ts) (h0 : 0 < ts.length) :
    ∃ g cap, v = .slice (some ⟨g, 0, none⟩) ts.length cap ∧ base ≤ g ∧ RowS W g cap ts ∧ Kd.C Kd.string W (some ⟨g, 0, none⟩) ts.length ts ∧ ts.length ≤ cap := by
  have ho : W.ownsRow base 9 1 v ts.length (ts.map Value.string) := Kd.own_of_R h
  obtain ⟨A, c, hv, hle, hC⟩ := Kd.R_reads h
  rcases ho.2 with ⟨e0, e1⟩ | ⟨g, cap, cur, e0, hb, hg, hn, hm, hs, ht⟩
  · omega
  · have e2 := hv.symm.trans e0
    injection e2 with e3 _ e4
    subst e3; subst e4; subst hv
    exact ⟨g, c, rfl, hb, (RowS.of_own ho).2.2, hC, hle⟩
theorem R_of_rowS {W : World} {base g cap : Nat} {d : List ByteArray} (h : RowS W g cap d) (hb : base ≤ g) : Kd.R Kd.string 9 W base (fun _ => True) (.slice (some ⟨g, 0, none⟩) d.length cap) d := Kd.R_of_own (h.own hb) (fun _ _ => trivial)
theorem sortB_length (l : List ByteArray) : (sortB l).length = l.length := by unfold sortB bytesL; rw [List.length_mergeSort, List.length_map]
/-! ### the row of '[]byte(s)' (its block bears a mark): what the walk wants of it -/
def RZ (W : World) (base : Nat) (v : Value) (xs : List Int) : Prop := ∃ (g cap : Nat) (cells : Array Value) (fr : Nat × Nat), v = .slice (some ⟨g, 0, none⟩) xs.length cap ∧ base ≤ g ∧ W.heap[g]? = some (.cells cells 5 fr) ∧ (∀ j, j < xs.length → cells[j]? = some (.int .u8 (xs.getD j 0))) ∧ xs.length ≤ fr.1
theorem RZ_new (W : World) (base : Nat) (s : ByteArray) (hb : base ≤ W.heap.size) : RZ (Lib.bytesWorld W 5 s) base (.slice (some ⟨W.heap.size, 0, none⟩) s.size (grownCap W s.size 0 5)) (bytesOf s) := by
  refine ⟨W.heap.size, _, _, _, by rw [bytesOf_length], hb, Lib.bytesWorld_at_new W 5 s, fun j hj => ?_, ?_⟩
  · rw [bytesOf_length] at hj
    have h1 := Lib.bytesWorld_cell W 5 s j hj
    have h2 : (bytesOf s).getD j 0 = ((s.data.toList.getD j 0).toNat : Int) := by
      rw [← bytesOf_get s j hj, List.getD_eq_getElem?_getD, List.getElem?_eq_getElem (by rw [bytesOf_length]; exact hj)]
      rfl
    rw [h2, ← h1]
    simp [World.cell?, Lib.bytesWorld_at_new]
  · show (bytesOf s).length ≤ (Lib.bytesCells W 5 s).size
    rw [bytesOf_length]
    simp [Lib.bytesCells]
theorem RZ_below {W W' : World} {base : Nat} {v : Value} {xs : List Int} (h : RZ W base v xs) (hb : Below W.heap.size W W') : RZ W' base v xs := by
  obtain ⟨g, cap, cells, fr, h1, h2, h3, h4⟩ := h
  exact ⟨g, cap, cells, fr, h1, h2, (hb.block g (Array.getElem?_eq_some_iff.1 h3).1).trans h3, h4⟩
theorem RZ_drew {W : World} {base : Nat} {v : Value} {xs : List Int} (h : RZ W base v xs) : RZ W.drew base v xs := h
theorem RZ_form {W : World} {base : Nat} {v : Value} {xs : List Int} (h : RZ W base v xs) : ∃ g cap, v = .slice (some ⟨g, 0, none⟩) xs.length cap ∧ base ≤ g ∧ g < W.heap.size ∧ ∃ cells fr, W.heap[g]? = some (.cells cells 5 fr) := by
  obtain ⟨g, cap, cells, fr, h1, h2, h3, h4⟩ := h
  exact ⟨g, cap, h1, h2, (Array.getElem?_eq_some_iff.1 h3).1, cells, fr, h3⟩
theorem RZ_celln {W : World} {base g n cap : Nat} {xs : List Int} (h : RZ W base (.slice (some ⟨g, 0, none⟩) n cap) xs) (i : Int) (h0 : 0 ≤ i) (hi : i < (n : Int)) : W.cell? ⟨g, i.toNat, none⟩ = some (.int .u8 (rdOf 0 xs i)) ∧ W.frozen? ⟨g, i.toNat, none⟩ = false := by
  obtain ⟨g', cap', cells, fr, h1, h2, h3, h4, h5⟩ := h
  injection h1 with e1 e2 e3
  injection e1 with e1
  injection e1 with e1
  subst e1; subst e2; subst e3
  have hj : i.toNat < xs.length := by omega
  refine ⟨?_, ?_⟩
  · simp only [World.cell?, h3]
    have := h4 i.toNat hj
    simpa [rdOf] using this
  · simp [World.frozen?, h3] <;> omega
theorem RZ_putn {W : World} {base g n cap : Nat} {xs : List Int} (h : RZ W base (.slice (some ⟨g, 0, none⟩) n cap) xs) (i : Int) (x : Int) : RZ (W.setCell ⟨g, i.toNat, none⟩ (.int .u8 x)) base (.slice (some ⟨g, 0, none⟩) n cap) (xs.set i.toNat x) := by
  obtain ⟨g', cap', cells, fr, h1, h2, h3, h4, h5⟩ := h
  injection h1 with e1 e2 e3
  injection e1 with e1
  injection e1 with e1
  subst e1; subst e2; subst e3
  refine ⟨g, cap, cells.setIfInBounds i.toNat (.int .u8 x), fr, by rw [List.length_set], h2, by simp [World.setCell, Array.getElem?_modify, h3], fun j hj => ?_, by rw [List.length_set]; exact h5⟩
  rw [List.length_set] at hj
  have hc := h4 j hj
  have hs : j < cells.size := (Array.getElem?_eq_some_iff.1 hc).1
  by_cases e : i.toNat = j
  · subst e
    rw [Array.getElem?_setIfInBounds_self_of_lt hs, List.getD_eq_getElem?_getD, List.getElem?_set_self hj]
    rfl
  · rw [Array.getElem?_setIfInBounds_ne e, hc, List.getD_eq_getElem?_getD, List.getD_eq_getElem?_getD, List.getElem?_set_ne e]
theorem RZ_ne {W : World} {base g t : Nat} {v : Value} {xs : List Int} {cells : Array Value} (h : RZ W base v xs) (hb : W.heap[g]? = some (.cells cells t (0, 0))) (ht : 5 ≠ t) : some g ≠ v.ownBlock := by
  obtain ⟨g', cap, c', fr, rfl, h2, h3, h4⟩ := h
  intro e
  have e1 : g = g' := by simpa [Value.ownBlock] using e
  subst e1
  rw [h3] at hb
  injection hb with hb
  injection hb with _ hb
  exact ht hb
theorem R_offB {α : Type} {enc : α → Value} {h1 : ∀ x, (enc x).oneCell' = true} {e : Nat} {W : World} {base : Nat} {ok : Nat → Prop} {v : Value} {xs : List α} (h : (Kd.scalar enc h1).R e W base ok v xs) {g : Nat} {cells : Array Value} (hg : ∃ fr : Nat × Nat, W.heap[g]? = some (.cells cells 5 fr)) (ht : e ≠ 5) : (Kd.scalar enc h1).R e W base (fun k => ok k ∧ k ≠ g) v xs :=
  Kd.R_of_own (Kd.own_of_R h) (fun k hk => ⟨h.1 k hk, fun e_ => by
    obtain ⟨cs, hcs⟩ := Kd.R_typed h k hk
    obtain ⟨fr, hg⟩ := hg
    subst e_
    rw [hg] at hcs
    injection hcs with hcs
    injection hcs with _ hcs
    exact ht hcs.symm⟩)
theorem RZ_string {W : World} {base : Nat} {v : Value} {xs : List Int} (h : RZ W base v xs) : (convert 22 9 v).run Tryz.prog W = .ok (.string (strOfNums xs)) W := by
  obtain ⟨g, cap, cells, fr, rfl, h2, h3, h4, h5⟩ := h
  refine run_convert_bytes_arg (P := Tryz.prog) W 22 5 Tryz.underlying22 Tryz.underlying5 g 0 xs.length cap xs rfl (fun i hi => ?_) 9 Tryz.underlying9
  rw [Nat.zero_add]
  simp only [World.cell?, h3]
  exact h4 i hi
theorem mem_of_compact (l : List ByteArray) (y : ByteArray) (h : y ∈ unB (Lib.compact (sortB l))) : y ∈ l := by
  unfold unB at h
  obtain ⟨b, hb, rfl⟩ := List.mem_map.1 h
  unfold Lib.compact Lib.compactUpTo at hb
  obtain ⟨j, hj, rfl⟩ := List.mem_map.1 hb
  rw [List.mem_filter, List.mem_range] at hj
  rw [List.getElem!_toArray, getElem!_pos (sortB l) j hj.1]
  have hm : (sortB l)[j]'hj.1 ∈ sortB l := List.getElem_mem _
  generalize (sortB l)[j]'hj.1 = z at hm
  unfold sortB at hm
  rw [List.mem_mergeSort] at hm
  unfold bytesL at hm
  obtain ⟨x, hx, rfl⟩ := List.mem_map.1 hm
  exact hx

theorem split_length (s sep : ByteArray) (h1 : 1 ≤ sep.size) : (Go.Lib.splitB sep 0 (Go.Lib.countB s sep) s).length = Go.Lib.countB s sep + 1 := Go.Lib.splitB_all sep h1 0 _ s rfl
theorem split_small (s sep : ByteArray) (h1 : 1 ≤ sep.size) : Go.Lib.countB s sep ≤ s.size := by
  have hc := Go.Lib.countB_mul_le sep h1 s.size s (Nat.le_refl _)
  have hc1 : Go.Lib.countB s sep ≤ Go.Lib.countB s sep * sep.size := Nat.le_mul_of_pos_right _ h1
  omega

set_option maxHeartbeats 4000000 in
set_option maxRecDepth 100000 in
theorem habitWords_calls (w : World) : Calls Tryz.prog 43 #[] w fun e w' => e = .returned (.slice (some ⟨w.heap.size, 0, none⟩) 5 5) ∧ w' = w.alloc (.cells #[.string ⟨#[110, 111, 110, 101]⟩, .string ⟨#[115, 119, 97, 112]⟩, .string ⟨#[100, 114, 111, 112]⟩, .string ⟨#[100, 111, 117, 98, 108, 101]⟩, .string ⟨#[116, 117, 114, 110]⟩] 9) := by
  go_enter Tryz.func43, Tryz.ntmps43
  go_wp2
  go_ret
  exact ⟨rfl, rfl⟩
def kindName (a : Int) : ByteArray := if a = 0 then ⟨#[110, 111, 110, 101]⟩ else if a = 1 then ⟨#[115, 119, 97, 112]⟩ else if a = 2 then ⟨#[100, 114, 111, 112]⟩ else if a = 3 then ⟨#[100, 111, 117, 98, 108, 101]⟩ else ⟨#[116, 117, 114, 110]⟩
theorem kindName_size (a : Int) : (kindName a).size ≤ 6 := by
  unfold kindName
  repeat (split; · decide)
  decide
def putB (o : ByteArray) (b : Int) : ByteArray := if b = 0 then o else o ++ ((⟨#[32]⟩ : ByteArray) ++ strOfNums [b])
theorem habitWords_at (a : Int) (h0 : 0 ≤ a) (h5 : a < 5) (w : World) : Calls Tryz.prog 43 #[] w fun e w' => ∃ B, e = .returned (.slice (some ⟨B, 0, none⟩) 5 5) ∧ w'.cell? ⟨B, a.toNat, none⟩ = some (.string (kindName a)) ∧ Below w.heap.size w w' := by
  refine (habitWords_calls w).mono ?_
  rintro e w' ⟨rfl, rfl⟩
  refine ⟨w.heap.size, rfl, ?_, Below.alloc (Below.refl _ _) (Nat.le_refl _) _⟩
  have : a = 0 ∨ a = 1 ∨ a = 2 ∨ a = 3 ∨ a = 4 := by omega
  have hk := heap_alloc_new w (.cells #[.string ⟨#[110, 111, 110, 101]⟩, .string ⟨#[115, 119, 97, 112]⟩, .string ⟨#[100, 114, 111, 112]⟩, .string ⟨#[100, 111, 117, 98, 108, 101]⟩, .string ⟨#[116, 117, 114, 110]⟩] 9)
  rcases this with rfl | rfl | rfl | rfl | rfl <;> simp only [World.cell?, hk] <;> rfl
theorem conv_one (W : World) (b : Int) (B : Nat) (h : W.cell? ⟨B, 0, none⟩ = some (.int .u8 b)) : (convert 22 9 (.slice (some ⟨B, 0, none⟩) 1 1)).run Tryz.prog W = .ok (.string (strOfNums [b])) W :=
  run_convert_bytes_arg (P := Tryz.prog) W 22 5 Tryz.underlying22 Tryz.underlying5 B 0 1 1 [b] rfl (fun i hi => by simp at hi; subst hi; simpa using h) 9 Tryz.underlying9
set_option maxHeartbeats 8000000 in
set_option maxRecDepth 100000 in
theorem habitText_calls (a b c : Int) (w : World) (h0 : 0 ≤ a) (h5 : a < 5)
    (hv : ∀ W : World, Calls Tryz.prog 21 #[.agg #[.int .i8 a, .int .u8 b, .int .u8 c]] W fun e w' => e = .returned (.bool true) ∧ Below W.heap.size W w') :
    Calls Tryz.prog 17 #[.agg #[.int .i8 a, .int .u8 b, .int .u8 c]] w fun e w' => e = .returned (.string (putB (putB (kindName a) b) c)) ∧ Below w.heap.size w w' := by
  obtain ⟨res, hres⟩ : ∃ res, res = putB (putB (kindName a) b) c := ⟨_, rfl⟩
  rw [← hres]
  have hw := habitWords_at a h0 h5
  have hcv : ∀ (W : World) (b : Int) (B : Nat), W.heap.size = B → (convert 22 9 (.slice (some ⟨B, 0, none⟩) 1 1)).run Tryz.prog (W.alloc (.cells #[.int .u8 b] 5)) = .ok (.string (strOfNums [b])) (W.alloc (.cells #[.int .u8 b] 5)) := fun W b B hB => by subst hB; exact conv_one _ b _ (by simp only [World.cell?, heap_alloc_new]; rfl)
  have hs1 : ∀ b : Int, (strOfNums [b]).size = 1 := fun b => rfl
  have hnm := kindName_size a
  generalize kindName a = nm at *
  unfold putB at hres
  have hbx : (w.alloc (.cells #[.int .i8 a, .int .u8 b, .int .u8 c] 40)).cell? ⟨w.heap.size, 0, none⟩ = some (.int .i8 a) ∧ (w.alloc (.cells #[.int .i8 a, .int .u8 b, .int .u8 c] 40)).cell? ⟨w.heap.size, 1, none⟩ = some (.int .u8 b) ∧ (w.alloc (.cells #[.int .i8 a, .int .u8 b, .int .u8 c] 40)).cell? ⟨w.heap.size, 2, none⟩ = some (.int .u8 c) := by
    have hk := heap_alloc_new w (.cells #[.int .i8 a, .int .u8 b, .int .u8 c] 40)
    refine ⟨?_, ?_, ?_⟩ <;> simp only [World.cell?, hk] <;> rfl
  have hb0 : Below w.heap.size w (w.alloc (.cells #[.int .i8 a, .int .u8 b, .int .u8 c] 40)) := Below.alloc (Below.refl _ _) (Nat.le_refl _) _
  have hsz : w.heap.size < (w.alloc (.cells #[.int .i8 a, .int .u8 b, .int .u8 c] 40)).heap.size := by show w.heap.size < (w.heap.push _).size; rw [Array.size_push]; exact Nat.lt_succ_self _
  obtain ⟨hx0, hx1, hx2⟩ := hbx
  go_enter Tryz.func17, Tryz.ntmps17
  generalize hW0 : w.alloc (.cells #[.int .i8 a, .int .u8 b, .int .u8 c] 40) = W0 at *
  go_wp2_with (go_at_call 21; refine (hv _).mono ?_; rintro e W1 ⟨rfl, hB1⟩)
  replace hx0 := (hB1.cell (p := ⟨w.heap.size, 0, none⟩) hsz).trans hx0
  replace hx1 := (hB1.cell (p := ⟨w.heap.size, 1, none⟩) hsz).trans hx1
  replace hx2 := (hB1.cell (p := ⟨w.heap.size, 2, none⟩) hsz).trans hx2
  replace hb0 := hb0.trans (hB1.mono (by omega))
  replace hsz := Nat.lt_of_lt_of_le hsz hB1.size
  clear hB1 hW0
  by_cases hb : b = 0
  · by_cases hc : c = 0
    · rw [if_pos hb, if_pos hc] at hres
      go_region_with (go_at_call 43; refine (hw _).mono ?_; rintro e W2 ⟨B, rfl, hB2, hb2⟩; have hx0' := (hb2.cell (p := ⟨w.heap.size, 0, none⟩) hsz).trans hx0; have hx1' := (hb2.cell (p := ⟨w.heap.size, 1, none⟩) hsz).trans hx1; have hx2' := (hb2.cell (p := ⟨w.heap.size, 2, none⟩) hsz).trans hx2)
      all_goals (
        have hF := (hb0.drew).trans (hb2.mono (B' := w.heap.size) (Nat.le_of_lt hsz))
        clear hb0 hb2 hx0 hx1 hx2 hw hv hB2
        go_wp2
        refine wp_loop_rounds 3 ?_
        rw [rounds_succ]
        go_wp2
        rw [rounds_succ]
        go_wp2
        rw [rounds_succ]
        go_wp2
        go_ret
        exact ⟨by rw [hres]; simp only [hb, hc] <;> rfl, by repeat (first | exact hF | apply below_alloc)⟩)
    · rw [if_pos hb, if_neg hc] at hres
      go_region_with (go_at_call 43; refine (hw _).mono ?_; rintro e W2 ⟨B, rfl, hB2, hb2⟩; have hx0' := (hb2.cell (p := ⟨w.heap.size, 0, none⟩) hsz).trans hx0; have hx1' := (hb2.cell (p := ⟨w.heap.size, 1, none⟩) hsz).trans hx1; have hx2' := (hb2.cell (p := ⟨w.heap.size, 2, none⟩) hsz).trans hx2)
      all_goals (
        have hF := (hb0.drew).trans (hb2.mono (B' := w.heap.size) (Nat.le_of_lt hsz))
        clear hb0 hb2 hx0 hx1 hx2 hw hv hB2
        go_wp2
        refine wp_loop_rounds 3 ?_
        rw [rounds_succ]
        go_wp2
        rw [rounds_succ]
        go_wp2
        rw [rounds_succ]
        go_wp2
        go_ret
        exact ⟨by rw [hres]; simp only [hb, hc] <;> rfl, by repeat (first | exact hF | apply below_alloc)⟩)
  · by_cases hc : c = 0
    · rw [if_neg hb, if_pos hc] at hres
      go_region_with (go_at_call 43; refine (hw _).mono ?_; rintro e W2 ⟨B, rfl, hB2, hb2⟩; have hx0' := (hb2.cell (p := ⟨w.heap.size, 0, none⟩) hsz).trans hx0; have hx1' := (hb2.cell (p := ⟨w.heap.size, 1, none⟩) hsz).trans hx1; have hx2' := (hb2.cell (p := ⟨w.heap.size, 2, none⟩) hsz).trans hx2)
      all_goals (
        have hF := (hb0.drew).trans (hb2.mono (B' := w.heap.size) (Nat.le_of_lt hsz))
        clear hb0 hb2 hx0 hx1 hx2 hw hv hB2
        go_wp2
        refine wp_loop_rounds 3 ?_
        rw [rounds_succ]
        go_wp2
        rw [rounds_succ]
        go_wp2
        rw [rounds_succ]
        go_wp2
        go_ret
        exact ⟨by rw [hres]; simp only [hb, hc] <;> rfl, by repeat (first | exact hF | apply below_alloc)⟩)
    · rw [if_neg hb, if_neg hc] at hres
      go_region_with (go_at_call 43; refine (hw _).mono ?_; rintro e W2 ⟨B, rfl, hB2, hb2⟩; have hx0' := (hb2.cell (p := ⟨w.heap.size, 0, none⟩) hsz).trans hx0; have hx1' := (hb2.cell (p := ⟨w.heap.size, 1, none⟩) hsz).trans hx1; have hx2' := (hb2.cell (p := ⟨w.heap.size, 2, none⟩) hsz).trans hx2)
      all_goals (
        have hF := (hb0.drew).trans (hb2.mono (B' := w.heap.size) (Nat.le_of_lt hsz))
        clear hb0 hb2 hx0 hx1 hx2 hw hv hB2
        go_wp2
        refine wp_loop_rounds 3 ?_
        rw [rounds_succ]
        go_wp2
        rw [rounds_succ]
        go_wp2
        rw [rounds_succ]
        go_wp2
        go_ret
        exact ⟨by rw [hres]; simp only [hb, hc] <;> rfl, by repeat (first | exact hF | apply below_alloc)⟩)
set_option maxHeartbeats 4000000 in
set_option maxRecDepth 100000 in
theorem habitBad_calls (a b c : Int) (w : World)
    (hv : ∀ W : World, Calls Tryz.prog 21 #[.agg #[.int .i8 a, .int .u8 b, .int .u8 c]] W fun e w' => e = .returned (.bool false) ∧ Below W.heap.size W w') :
    Calls Tryz.prog 17 #[.agg #[.int .i8 a, .int .u8 b, .int .u8 c]] w fun e w' => e = .returned (.string ⟨#[]⟩) ∧ Below w.heap.size w w' := by
  have hb0 : Below w.heap.size w (w.alloc (.cells #[.int .i8 a, .int .u8 b, .int .u8 c] 40)) := Below.alloc (Below.refl _ _) (Nat.le_refl _) _
  have hsz : w.heap.size < (w.alloc (.cells #[.int .i8 a, .int .u8 b, .int .u8 c] 40)).heap.size := by show w.heap.size < (w.heap.push _).size; rw [Array.size_push]; exact Nat.lt_succ_self _
  go_enter Tryz.func17, Tryz.ntmps17
  go_wp2_with (go_at_call 21; refine (hv _).mono ?_; rintro e W1 ⟨rfl, hB1⟩)
  go_ret
  exact ⟨rfl, hb0.trans (hB1.mono (Nat.le_of_lt hsz))⟩

/-! ### a map of the words that were said -/
def roundIdx (said : List ByteArray) (x : ByteArray) : Option Nat := said.findIdx? (fun y => decide (y = x))
def roundF (F : ByteArray → Option ByteArray) : Nat → List ByteArray → ByteArray → Option (Int × Int)
  | 0, _, _ => none
  | d + 1, said, x => match roundIdx said x with | some j => some ((said.length : Int), (said.length : Int) - (j : Int)) | none => (F x).bind fun y => roundF F d (said ++ [x]) y
def keyL (x : ByteArray) : Lit := .string x.data.toList
theorem keyL_inj {x y : ByteArray} (h : keyL x = keyL y) : x = y := by
  unfold keyL at h
  injection h with h
  exact ByteArray.ext (Array.toList_inj.1 h)
def MetD (D : DataW Unit) (said : List ByteArray) : Prop := ∀ x : ByteArray, (roundIdx said x = none → ∀ zd, D.atKey (keyL x) zd = zd) ∧ ∀ j, roundIdx said x = some j → ∀ zd, D.atKey (keyL x) zd = .lit (.int .i64 (j : Int))
theorem MetD.nil : MetD (.map []) [] := fun x => ⟨fun _ _ => rfl, fun j h => by simp [roundIdx] at h⟩
theorem roundIdx_snoc (said : List ByteArray) (x y : ByteArray) (h : roundIdx said x = none) : roundIdx (said ++ [x]) y = if x = y then some said.length else roundIdx said y := by
  unfold roundIdx at *
  rw [List.findIdx?_append]
  by_cases e : x = y
  · subst e
    rw [if_pos rfl, h]
    simp
  · rw [if_neg e]
    cases hq : said.findIdx? (fun z => decide (z = y)) with
    | some j => rfl
    | none => simp [e]
theorem MetD.put {D : DataW Unit} {said : List ByteArray} (h : MetD D said) (hD : Maps.IsMap D) (x : ByteArray) (hx : roundIdx said x = none) : MetD (D.put (keyL x) (.lit (.int .i64 (said.length : Int)))) (said ++ [x]) := by
  intro y
  rw [roundIdx_snoc said x y hx]
  by_cases e : x = y
  · subst e
    rw [if_pos rfl]
    refine ⟨fun z => by simp at z, fun j hj zd => ?_⟩
    obtain rfl := Option.some.inj hj
    exact Maps.atKey_put_same hD (by simp [keyL, WideAt.IsKeyLit]) _ zd
  · rw [if_neg e]
    have hne : keyL y ≠ keyL x := fun z => e (keyL_inj z).symm
    exact ⟨fun q zd => by rw [Maps.atKey_put_other hne]; exact (h y).1 q zd, fun j hj zd => by rw [Maps.atKey_put_other hne]; exact (h y).2 j hj zd⟩
theorem met_look {P : Program} {k e t : TypeId} {w : World} {b n : Nat} {D : DataW Unit} (hown : w.ownsMap P k (plainElem P e) b n D) (ht : P.underlying t = some (.map k e)) (hk : P.underlying k = some .string) (he : P.underlying e = some (.int .i64)) (hz : (zeroValue e).run P w = .ok (.int .i64 0) w) (x : ByteArray) (hx : x.size ≤ maxLen) :
    ((∀ zd, D.atKey (keyL x) zd = zd) → (Instr.lookup t (.map (some b)) (.string x) true).run P w = .ok (.tuple #[.int .i64 0, .bool false]) w) ∧ ∀ c : Int, (∀ zd, D.atKey (keyL x) zd = .lit (.int .i64 c)) → (Instr.lookup t (.map (some b)) (.string x) true).run P w = .ok (.tuple #[.int .i64 c, .bool true]) w := by
  obtain ⟨es, clock, hb, F, hs, rfl⟩ := hown
  rcases Maps.fit_look true (Maps.string_keyed hk) ht hz hb F (WideMaps.keyOf_string_mk hk hx) with ⟨hrun, _, hat⟩ | ⟨e0, y, _, _, hrun, hRv, hat, _⟩
  · refine ⟨fun _ => hrun, fun c hc => ?_⟩
    have h1 := hc (.lit (.bool true))
    have h2 := hat (.lit (.bool true))
    unfold keyL at h1
    rw [h2] at h1
    injection h1 with h1
    cases h1
  · refine ⟨fun hn => ?_, fun c hc => ?_⟩
    · have h1 := hn (.lit (.bool true))
      have h2 := hn (.lit (.bool false))
      unfold keyL at h1 h2
      rw [hat] at h1 h2
      rw [h1] at h2
      injection h2 with h2
      injection h2 with h2
      cases h2
    · obtain ⟨a, ha, hy, _⟩ := plainElem_int_inv he hRv
      have h1 := hc (.lit (.bool true))
      unfold keyL at h1
      rw [hat, hy] at h1
      injection h1 with h1
      injection h1 with _ h1
      subst h1
      rw [hrun, ha]
      rfl
theorem own_map_below {P : Program} {k : TypeId} {R : Value → Option (DataW Unit × List MemPlace)} {w w1 : World} {b n : Nat} {D : DataW Unit} (h : w.ownsMap P k R b n D) (hB : Below w.heap.size w w1) : w1.ownsMap P k R b n D := by
  have hlt := h.lt
  obtain ⟨es, clock, hb, F, hs, hD⟩ := h
  exact ⟨es, clock, (hB.block b hlt).trans hb, F, hs, hD⟩
theorem round_zero (w : World) : (zeroValue 2).run Tryz.prog w = .ok (.int .i64 0) w := by kernel_rfl
set_option maxHeartbeats 8000000 in
set_option maxRecDepth 100000 in
theorem roundUntil_calls (A0 : Option Addr) (n0 c0 : Nat) (x0 : ByteArray) (w : World) (F : ByteArray → Option ByteArray) (d : Nat) (r1 r2 : Int) (hd : d ≤ 4611686018427387900) (hF : roundF F d [] x0 = some (r1, r2)) (hx0 : x0.size ≤ maxLen) (hsz : ∀ x y, F x = some y → y.size ≤ maxLen)
    (hchain : ∀ W A, Below w.heap.size w W → Kd.C Kd.string W A 1 [x0] → Calls Tryz.prog 32 #[.slice A0 n0 c0, .slice A 1 1] W fun e w' => e = .returned (.int .i64 0) ∧ Below W.heap.size W w')
    (hpass : ∀ W x y, Below w.heap.size w W → F x = some y → Calls Tryz.prog 33 #[.slice A0 n0 c0, .string x] W fun e w' => e = .returned (.string y) ∧ Below W.heap.size W w') :
    Calls Tryz.prog 26 #[.slice A0 n0 c0, .string x0] w fun e w' => e = .returned (.tuple #[.int .i64 r1, .int .i64 r2, .int .i64 0]) ∧ Below w.heap.size w w' := by
  have hBa : Below w.heap.size w (w.alloc (.cells #[.string x0] 9)) := Below.alloc (Below.refl _ _) (Nat.le_refl _) _
  have hrow : Kd.C Kd.string (w.alloc (.cells #[.string x0] 9)) (some ⟨w.heap.size, 0, none⟩) 1 [x0] := by
    have hO : Kd.R Kd.string 9 (w.alloc (.cells #[.string x0] 9)) w.heap.size (fun _ => True) (.slice (some ⟨w.heap.size, 0, none⟩) 1 1) [x0] := Kd.R_of_own (own_lit_of (enc := Value.string) w w.heap.size 9 [x0] (Nat.le_refl _) (by simp)) (fun _ _ => trivial)
    exact (Kd.R_reads' hO).2.2
  have hch := hchain _ _ hBa hrow
  clear hchain hrow
  go_enter Tryz.func26, Tryz.ntmps26
  go_wp2_with (go_at_call 32; refine hch.mono ?_; rintro e w1 ⟨rfl, hB1⟩)
  rw [show (Instr.makeMap 77 none).run Tryz.prog w1 = .ok (.map (some w1.heap.size)) (w1.alloc (.map #[] 0)) from rfl]
  go_wp2
  have hO : (w1.alloc (.map #[] 0)).ownsMap Tryz.prog 9 (plainElem (H := Unit) Tryz.prog 2) w1.heap.size 0 (.map []) := World.ownsMap_made _ _ _ _
  have hBw : Below w.heap.size w w1 := hBa.trans (hB1.mono hBa.size)
  have hB2 : Below w.heap.size w (w1.alloc (.map #[] 0)) := Below.alloc hBw hBw.size _
  obtain ⟨b, hb⟩ : ∃ b, b = w1.heap.size := ⟨_, rfl⟩
  have hbw : w.heap.size ≤ b := by rw [hb]; exact hBw.size
  rw [← hb] at hO ⊢
  generalize w1.alloc (.map #[] 0) = W2 at hO hB2 ⊢
  clear hB1 hBa hch hBw hb
  go_loopg [1, 9] d (fun k s1 s9 wr => ∃ (f : Nat) (said : List ByteArray) (x : ByteArray) (D : DataW Unit), s1 = .string x ∧ s9 = .int .i64 (said.length : Int) ∧ f ≤ k ∧ f + said.length ≤ d ∧ roundF F f said x = some (r1, r2) ∧ x.size ≤ maxLen ∧ MetD D said ∧ wr.ownsMap Tryz.prog 9 (plainElem (H := Unit) Tryz.prog 2) b said.length D ∧ Below w.heap.size w wr)
  case atStart => exact ⟨d, [], x0, .map [], rfl, rfl, Nat.le_refl _, Nat.le_refl _, hF, hx0, MetD.nil, hO, hB2⟩
  case round =>
    obtain ⟨f, said, x, D, rfl, rfl, hfk, hfd, hV, hx, hM, hown, hB⟩ := hrel
    cases f with
    | zero => exact absurd hV (by simp [roundF])
    | succ f =>
      have hlk := met_look hown Tryz.underlying77 Tryz.underlying9 Tryz.underlying2 (round_zero _) x hx
      cases hq : roundIdx said x with
      | some j =>
        have hV' : some ((said.length : Int), (said.length : Int) - (j : Int)) = some (r1, r2) := by
          have h2 := hV
          unfold roundF at h2
          rw [hq] at h2
          exact h2
        obtain ⟨rfl, rfl⟩ := Prod.mk.inj (Option.some.inj hV')
        have hrun := hlk.2 _ ((hM x).2 j hq)
        have hjl : j < said.length := by
          unfold roundIdx at hq
          exact (List.findIdx?_eq_some_iff_findIdx_eq.1 hq).1
        have hws : wrap64 ((said.length : Int) - (j : Int)) = (said.length : Int) - (j : Int) := by simp only [wrap64]; omega
        go_wp2
        go_ret3
        exact ⟨rfl, hB⟩
      | none =>
        have hV' : ((F x).bind fun y => roundF F f (said ++ [x]) y) = some (r1, r2) := by
          have h2 := hV
          unfold roundF at h2
          rw [hq] at h2
          exact h2
        obtain ⟨y, hy, hV2⟩ := Option.bind_eq_some_iff.1 hV'
        have hrun := hlk.1 ((hM x).1 hq)
        have hM2 := hM.put hown.isMap x hq
        have hwi : wrap64 ((said.length : Int) + 1) = (said.length : Int) + 1 := by simp only [wrap64]; omega
        have hwf : (Lit.int .i64 (said.length : Int)).wf = true := by simp [Lit.wf, IntKind.min, IntKind.max, IntKind.bits, IntKind.signed]; omega
        clear hV hV' hlk hM
        go_wp2_with (first | (at_mapUpdate; refine wpList_mapUpdate_own _ rfl _ _ _ 77 rfl 9 2 (Maps.string_keyed Tryz.underlying9) Tryz.underlying77 _ b said.length D rfl hown (by unfold maxLen; omega) _ _ (keyL x) rfl rfl (WideMaps.keyOf_string_mk Tryz.underlying9 hx) (.lit (.int .i64 (said.length : Int))) [] (plainElem_int Tryz.underlying2 hwf) ?_; intro w2 hown2 hg2; have hB2 := hB.grown hg2 hB.size (fun k hk => by have := Option.some.inj hk; omega)) | (go_at_call 33; refine (hpass _ x y hB2 hy).mono ?_; rintro e w3 ⟨rfl, hB3⟩; have hown3 := own_map_below hown2 hB3))
        go_roundg f
        case measure => omega
        case rel => exact ⟨f, said ++ [x], y, _, rfl, by simp, Nat.le_refl _, by rw [List.length_append]; simp only [List.length_singleton]; omega, hV2, hsz x y hy, hM2, by rw [List.length_append]; exact hown3, hB2.trans (hB3.mono hB2.size)⟩
theorem roundF_mono {F F' : ByteArray → Option ByteArray} (h : ∀ x y, F x = some y → F' x = some y) : ∀ (d d' : Nat), d ≤ d' → ∀ (said : List ByteArray) (x : ByteArray) (r : Int × Int), roundF F d said x = some r → roundF F' d' said x = some r := by
  intro d
  induction d with
  | zero => intro d' _ said x r hr; exact absurd hr (by simp [roundF])
  | succ d ih =>
    intro d' hd said x r hr
    obtain ⟨d', rfl⟩ : ∃ m, d' = m + 1 := ⟨d' - 1, by omega⟩
    unfold roundF at hr ⊢
    cases hq : roundIdx said x with
    | some j => rw [hq] at hr; exact hr
    | none =>
      rw [hq] at hr
      obtain ⟨y, hy, h2⟩ := Option.bind_eq_some_iff.1 hr
      show ((F' x).bind fun y => roundF F' d' (said ++ [x]) y) = some r
      rw [h x y hy, Option.bind_some]
      exact ih d' (by omega) _ _ _ h2
set_option maxHeartbeats 8000000 in
set_option maxRecDepth 100000 in
theorem roundUntil_err (A0 : Option Addr) (n0 c0 : Nat) (x0 : ByteArray) (w : World) (t : Int) (ht : t ≠ 0)
    (hchain : ∀ W A, Below w.heap.size w W → Kd.C Kd.string W A 1 [x0] → Calls Tryz.prog 32 #[.slice A0 n0 c0, .slice A 1 1] W fun e w' => e = .returned (.int .i64 t) ∧ Below W.heap.size W w') :
    Calls Tryz.prog 26 #[.slice A0 n0 c0, .string x0] w fun e w' => e = .returned (.tuple #[.int .i64 0, .int .i64 0, .int .i64 t]) ∧ Below w.heap.size w w' := by
  have hBa : Below w.heap.size w (w.alloc (.cells #[.string x0] 9)) := Below.alloc (Below.refl _ _) (Nat.le_refl _) _
  have hrow : Kd.C Kd.string (w.alloc (.cells #[.string x0] 9)) (some ⟨w.heap.size, 0, none⟩) 1 [x0] := by
    have hO : Kd.R Kd.string 9 (w.alloc (.cells #[.string x0] 9)) w.heap.size (fun _ => True) (.slice (some ⟨w.heap.size, 0, none⟩) 1 1) [x0] := Kd.R_of_own (own_lit_of (enc := Value.string) w w.heap.size 9 [x0] (Nat.le_refl _) (by simp)) (fun _ _ => trivial)
    exact (Kd.R_reads' hO).2.2
  have hch := hchain _ _ hBa hrow
  have ht1 : (t != 0) = true := bne_iff_ne.mpr ht
  clear hchain hrow
  go_enter Tryz.func26, Tryz.ntmps26
  go_wp2_with (go_at_call 32; refine hch.mono ?_; rintro e w1 ⟨rfl, hB1⟩)
  go_ret3
  exact ⟨rfl, hBa.trans (hB1.mono hBa.size)⟩

end Go.Proofs.YtobickehjnogjaaGreatDoor.H
