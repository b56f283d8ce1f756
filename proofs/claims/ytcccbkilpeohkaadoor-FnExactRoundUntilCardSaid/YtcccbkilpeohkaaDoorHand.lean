-- Mine: walks of functions that the print does not reach.
import Derived.Test.YtcccbkilpeohkaaDoorProg
import Derived.Test.YtcccbkilpeohkaaDoorShelf
import Derived.Test.YtcccbkilpeohkaaDoorWWords
import Derived.Test.YtcccbkilpeohkaaDoorWLast
import Derived.Test.YtcccbkilpeohkaaDoorWMore
import Derived.Sort.WalkB12
import Derived.Lib.SlicesMore
import Derived.Lib.OwnBridge
import Derived.WalkKit
import Derived.Deep.LoopGhost
import Derived.Deep.RegionLaw
import Derived.Lib.LazyBuf
import Derived.Laws.IdiomCopy
import Derived.Shelf.GgSortFunc.RowK
import Derived.Lib.ConvBytes
import Derived.Laws.BytesArg
import Derived.Tactics
import Derived.KernelRfl
import Derived.BigQuiet
import Derived.WalkSpells
import Derived.Lib.SliceRun
import Derived.StillTailTactics
import Derived.Maps.OwnOps
import Derived.Maps.OwnSet
import Derived.Maps.Views
import Derived.Maps.Keyed
import Derived.StringKeys
namespace Go.Proofs.YtcccbkilpeohkaaDoor.H
open Go.RowKit Go.Sort Go.Proofs.YtcccbkilpeohkaaDoorW.PrintWords Go.Proofs.YtcccbkilpeohkaaDoorW.PrintLast
set_option linter.unusedVariables false
set_option linter.unusedSimpArgs false
def enc8 : Int → Value := fun x => Value.int .u8 x
theorem enc8_eq (x : Int) : enc8 x = .int .u8 x := rfl
set_option maxHeartbeats 4000000 in
set_option maxRecDepth 100000 in
theorem rev_bytes (blk cap : Nat) (d : Array Int) (w : World) (hH : Holds enc8 w blk 0 d) (hsz : d.size ≤ 9223372036854775807) :
    Calls Tryd.prog 41 #[.slice (some ⟨blk, 0, none⟩) d.size cap] w fun e w' => e = .returned (.tuple #[]) ∧ ∃ n, w' = putRow enc8 (Sort.ahead w n) blk 0 d.reverse := by
  go_enter Tryd.func41, Tryd.ntmps41
  go_wp2
  go_loopg [2, 3] d.size (fun k s2 s3 wr => ∃ (i jn : Nat) (jz : Int) (dk : Array Int) (n : Nat), s2 = .int .i64 i ∧ s3 = .int .i64 jz ∧ ((i : Int) < jz → jz = jn ∧ jn < d.size) ∧ (¬ (i : Int) < jz → ¬ i < jn) ∧ jn - i ≤ k ∧
    dk.size = d.size ∧ wr = putRow enc8 (Sort.ahead w n) blk 0 dk ∧ reverseLoop i jn dk = reverseLoop 0 (d.size - 1) d)
  case atStart => exact ⟨0, d.size - 1, (d.size : Int) - 1, d, 0, rfl, rfl, fun h => ⟨by omega, by omega⟩, fun h => by omega, by omega, rfl, (putRow_self enc8 w blk 0 d hH).symm, rfl⟩
  case round =>
    obtain ⟨i, jn, jz, dk, n, rfl, rfl, h1, h2, hk, hds, hwr, heq⟩ := hrel
    by_cases hlt : (i : Int) < jz
    · obtain ⟨rfl, hjn⟩ := h1 hlt
      have hij : i < jn := by omega
      have hHk : Holds enc8 wr blk 0 dk := by rw [hwr]; exact holds_putRow enc8 _ blk 0 d dk (holds_ahead enc8 w n blk 0 d hH) hds
      obtain ⟨ci, fi⟩ := hHk i (by omega)
      obtain ⟨cj, fj⟩ := hHk jn (by omega)
      rw [enc8_eq, Nat.zero_add] at ci cj
      rw [Nat.zero_add] at fi fj
      have A : Aside (wr = putRow enc8 (Sort.ahead w n) blk 0 dk) := hwr
      clear hwr hHk hH h1 h2
      go_wp2_with fail
      go_region
      go_wp2
      go_roundg (jn - 1 - (i + 1))
      case measure => omega
      case rel =>
        rw [reverseLoop, if_pos hij] at heq
        exact ⟨i + 1, jn - 1, (jn : Int) - 1, swp dk i jn, n + 1, by simp, rfl, fun h => ⟨by omega, by omega⟩, fun h => by omega, Nat.le_refl _, by rw [size_swp]; exact hds,
          by
            have e_ := swap_world enc8 (i := i) (j := jn) (by omega) (by omega) A.out (x := .int .u8 dk[jn]!) (y := .int .u8 dk[i]!) rfl rfl
            rw [Nat.zero_add, Nat.zero_add] at e_
            first | exact e_ | (rw [← e_]; simp [getElem!_pos, show jn < dk.size by omega, show i < dk.size by omega]), heq⟩
    · have hnot := h2 hlt
      go_wp2
      go_end0
      refine ⟨rfl, n, ?_⟩
      rw [reverseLoop, if_neg hnot] at heq
      rw [← Lib.reverseLoop_reverse, ← heq]
theorem bytesOf_get (s : ByteArray) (j : Nat) (h : j < s.size) : (bytesOf s)[j]'(by rw [bytesOf_length]; exact h) = ((s.data.toList.getD j 0).toNat : Int) := by
  have h2 : j < s.data.toList.length := by rw [data_length]; exact h
  simp only [bytesOf, List.getElem_map]
  rw [List.getD_eq_getElem?_getD, List.getElem?_eq_getElem h2]
  rfl
theorem holds_bytes (w : World) (s : ByteArray) : Holds enc8 (Lib.bytesWorld w 5 s) w.heap.size 0 (bytesOf s).toArray := by
  intro j hj
  have hj' : j < s.size := by rw [List.size_toArray, bytesOf_length] at hj; exact hj
  rw [Nat.zero_add]
  refine ⟨?_, ?_⟩
  · rw [Lib.bytesWorld_cell w 5 s j hj', enc8_eq]
    have h1 : j < (bytesOf s).length := by rw [bytesOf_length]; exact hj'
    rw [List.getElem!_toArray, getElem!_pos (bytesOf s) j h1, bytesOf_get s j hj']
  · simp [World.frozen?, Lib.bytesWorld_at_new, Lib.bytesCells]
    intro h
    have : s.data.size = s.size := rfl
    omega
theorem holds_cells (w : World) (B : Nat) (l : List Int) (h : Holds enc8 w B 0 l.toArray) : ∀ i, i < l.length → w.cell? ⟨B, 0 + i, none⟩ = some (.int .u8 (l.getD i 0)) := by
  intro i hi
  have := (h i (by simpa using hi)).1
  rw [this, enc8_eq, List.getD_eq_getElem?_getD, List.getElem?_eq_getElem hi]
  simp [getElem!_pos, hi]
set_option maxHeartbeats 4000000 in
set_option maxRecDepth 100000 in
theorem turned_calls (s : ByteArray) (w : World) (hs : s.size ≤ 9223372036854775807) :
    Calls Tryd.prog 38 #[.string s] w fun e w' => e = .returned (.string (strOfNums (bytesOf s).reverse)) ∧ Below w.heap.size w w' := by
  have hcv := Lib.run_convert_string_bytes (P := Tryd.prog) w 9 56 5 s Tryd.underlying9 Tryd.underlying56 Tryd.underlying5
  have hH := holds_bytes w s
  have hb := bytes_below (Below.refl w.heap.size w) (Nat.le_refl _) 5 s
  have hlen := bytesOf_length s
  generalize hW : Lib.bytesWorld w 5 s = W at hcv hH hb
  generalize hC : grownCap w s.size 0 5 = C at hcv
  generalize hL : bytesOf s = L at hH hlen ⊢
  have hcv2 : ∀ (W' : World), Holds enc8 W' w.heap.size 0 L.reverse.toArray → (convert 56 9 (.slice (some ⟨w.heap.size, 0, none⟩) s.size C)).run Tryd.prog W' = .ok (.string (strOfNums L.reverse)) W' := by
    intro W' h'
    exact run_convert_bytes_arg (P := Tryd.prog) W' 56 5 Tryd.underlying56 Tryd.underlying5 w.heap.size 0 s.size C L.reverse (by rw [List.length_reverse, hlen]) (fun i hi => holds_cells W' _ _ h' i (by rw [List.length_reverse, hlen]; exact hi)) 9 Tryd.underlying9
  have hrev := rev_bytes w.heap.size C L.toArray W hH (by simpa [hlen] using hs)
  rw [show L.toArray.size = s.size by simpa using hlen, show L.toArray.reverse = L.reverse.toArray by simp] at hrev
  go_enter Tryd.func38, Tryd.ntmps38
  go_wp2_with (first | (go_at_call 41; refine hrev.mono ?_; rintro e w' ⟨rfl, n, hw⟩; have hH2 : Holds enc8 w' w.heap.size 0 L.reverse.toArray := (by rw [hw]; exact holds_putRow enc8 _ _ 0 L.toArray _ (holds_ahead enc8 W n _ 0 _ hH) (by simp)); have hb2 : Below w.heap.size w w' := (by rw [hw]; exact Go.Lib.below_putRow hb (Nat.le_refl _)); have hcv3 := hcv2 w' hH2; clear hw hH2))
  go_ret
  exact ⟨rfl, hb2⟩
def swap1 (a b x : Int) : Int := if x = a then b else x
def swapped (a b : Int) (L : List Int) (i : Nat) : List Int := (L.take i).map (swap1 a b) ++ L.drop i
theorem swapped_length (a b : Int) (L : List Int) (i : Nat) : (swapped a b L i).length = L.length := by simp [swapped]; omega
theorem swapped_get (a b : Int) (L : List Int) (i : Nat) (h : i < L.length) : (swapped a b L i)[i]'(by rw [swapped_length]; exact h) = L[i] := by
  simp only [swapped]
  rw [List.getElem_append_right (by rw [List.length_map, List.length_take]; omega)]
  simp [Nat.min_eq_left (Nat.le_of_lt h)]
theorem swapped_set (a b : Int) (L : List Int) (i : Nat) (h : i < L.length) : (swapped a b L i).set i (swap1 a b L[i]) = swapped a b L (i + 1) := by
  unfold swapped
  rw [List.set_append_right _ _ (by simp; omega), List.take_add_one, List.getElem?_eq_getElem h]
  have e : i - ((L.take i).map (swap1 a b)).length = 0 := by simp; omega
  rw [e, List.drop_eq_getElem_cons h, List.map_append, List.append_assoc]
  rfl
theorem swapped_keep (a b : Int) (L : List Int) (i : Nat) (h : i < L.length) (hne : L[i] ≠ a) : swapped a b L (i + 1) = swapped a b L i := by
  rw [← swapped_set a b L i h]
  have : swap1 a b L[i] = L[i] := by unfold swap1; rw [if_neg hne]
  rw [this, ← swapped_get a b L i h]
  exact List.set_getElem_self _
set_option maxHeartbeats 4000000 in
set_option maxRecDepth 100000 in
theorem l04Swap_calls (s : ByteArray) (x y : Int) (w : World) (hs : s.size ≤ 4611686018427387900) :
    Calls Tryd.prog 28 #[.string s, .int .u8 x, .int .u8 y] w fun e w' => e = .returned (.string (strOfNums ((bytesOf s).map (swap1 x y)))) ∧ Below w.heap.size w w' := by
  have hcv := Lib.run_convert_string_bytes (P := Tryd.prog) w 9 56 5 s Tryd.underlying9 Tryd.underlying56 Tryd.underlying5
  have hH := holds_bytes w s
  have hb := bytes_below (Below.refl w.heap.size w) (Nat.le_refl _) 5 s
  have hlen := bytesOf_length s
  generalize hW : Lib.bytesWorld w 5 s = W at hcv hH hb
  generalize hC : grownCap w s.size 0 5 = C at hcv
  generalize hL : bytesOf s = L at hH hlen ⊢
  have hcv2 : ∀ (W' : World), Holds enc8 W' w.heap.size 0 (L.map (swap1 x y)).toArray → (convert 56 9 (.slice (some ⟨w.heap.size, 0, none⟩) s.size C)).run Tryd.prog W' = .ok (.string (strOfNums (L.map (swap1 x y)))) W' := by
    intro W' h'
    exact run_convert_bytes_arg (P := Tryd.prog) W' 56 5 Tryd.underlying56 Tryd.underlying5 w.heap.size 0 s.size C (L.map (swap1 x y)) (by rw [List.length_map, hlen]) (fun i hi => holds_cells W' _ _ h' i (by rw [List.length_map, hlen]; exact hi)) 9 Tryd.underlying9
  have hB : Aside (Go.RowKit.Below w.heap.size w W) := hb
  clear hb hW hC
  go_enter Tryd.func28, Tryd.ntmps28
  go_wp2
  go_loopg [8] s.size (fun k s8 wr => ∃ i : Nat, s8 = .int .i64 i ∧ i + k = s.size ∧ wr = putRow enc8 W w.heap.size 0 (swapped x y L i).toArray)
  case atStart => exact ⟨0, rfl, by omega, by rw [show swapped x y L 0 = L by simp [swapped]]; exact (putRow_self enc8 W w.heap.size 0 L.toArray hH).symm⟩
  case round =>
    obtain ⟨i, rfl, hk, hwr⟩ := hrel
    have hHk : Holds enc8 wr w.heap.size 0 (swapped x y L i).toArray := by
      rw [hwr]; exact holds_putRow enc8 _ _ 0 L.toArray _ hH (by simp [swapped_length])
    by_cases hlt : (i : Int) < (s.size : Int)
    · have hi : i < L.length := by omega
      obtain ⟨ci, fi⟩ := hHk i (by simp [swapped_length]; omega)
      rw [enc8_eq, Nat.zero_add, List.getElem!_toArray, getElem!_pos (swapped x y L i) i (by rw [swapped_length]; exact hi), swapped_get x y L i hi] at ci
      rw [Nat.zero_add] at fi
      have A : Aside (wr = putRow enc8 W w.heap.size 0 (swapped x y L i).toArray) := hwr
      clear hwr hHk
      by_cases e : L[i] = x
      · have e1 : (L[i] == x) = true := beq_iff_eq.2 e
        go_wp2
        go_roundg (s.size - (i + 1))
        case measure => omega
        case rel =>
          refine ⟨i + 1, by simp, by omega, ?_⟩
          have h1 := putRow_set enc8 W w.heap.size 0 (swapped x y L i).toArray i y (by simp [swapped_length]; omega)
          rw [Nat.zero_add] at h1
          rw [A.out]
          refine Eq.trans h1 ?_
          rw [List.setIfInBounds_toArray, ← swapped_set x y L i hi]
          simp [swap1, e]
      · have e1 : (L[i] == x) = false := beq_eq_false_iff_ne.2 e
        go_wp2
        go_roundg (s.size - (i + 1))
        case measure => omega
        case rel =>
          refine ⟨i + 1, by simp, by omega, ?_⟩
          rw [swapped_keep x y L i hi e]
          exact A.out
    · have hn : i = s.size := by omega
      have hsw : swapped x y L i = L.map (swap1 x y) := by
        unfold swapped
        rw [List.take_of_length_le (by omega), List.drop_eq_nil_of_le (by omega), List.append_nil]
      rw [hsw] at hHk hwr
      have hcv3 := hcv2 wr hHk
      have hb2 : Below w.heap.size w wr := by
        rw [hwr]
        have := Go.Lib.below_putRow (enc := enc8) (q := 0) (g := w.heap.size) (d := (L.map (swap1 x y)).toArray) hB.out (Nat.le_refl _)
        simpa using this
      clear hHk hwr
      go_wp2
      go_ret
      exact ⟨rfl, hb2⟩

/-! ### a map of the words that were said -/
def roundIdx (said : List ByteArray) (x : ByteArray) : Option Nat := said.findIdx? (fun y => decide (y = x))
def roundF (F : ByteArray → Option ByteArray) : Nat → List ByteArray → ByteArray → Option (Int × Int)
  | 0, _, _ => none
  | d + 1, said, x => match roundIdx said x with | some j => some ((said.length : Int), (said.length : Int) - (j : Int)) | none => (F x).bind fun y => roundF F d (said ++ [x]) y
def keyL (x : ByteArray) : Lit := .string x.data.toList
theorem keyL_inj {x y : ByteArray} (h : keyL x = keyL y) : x = y := by
  unfold keyL at h
  injection h with h
  exact ByteArray.ext (Array.toList_inj.1 h)
def MetD (D : DataW Unit) (said : List ByteArray) : Prop := ∀ x : ByteArray, (roundIdx said x = none → ∀ zd, D.atKey (keyL x) zd = zd) ∧ ∀ j, roundIdx said x = some j → ∀ zd, D.atKey (keyL x) zd = .lit (.int .i64 (j : Int))
theorem MetD.nil : MetD (.map []) [] := fun x => ⟨fun _ _ => rfl, fun j h => by simp [roundIdx] at h⟩
theorem roundIdx_snoc (said : List ByteArray) (x y : ByteArray) (h : roundIdx said x = none) : roundIdx (said ++ [x]) y = if x = y then some said.length else roundIdx said y := by
  unfold roundIdx at *
  rw [List.findIdx?_append]
  by_cases e : x = y
  · subst e
    rw [if_pos rfl, h]
    simp
  · rw [if_neg e]
    cases hq : said.findIdx? (fun z => decide (z = y)) with
    | some j => rfl
    | none => simp [e]
theorem MetD.put {D : DataW Unit} {said : List ByteArray} (h : MetD D said) (hD : Maps.IsMap D) (x : ByteArray) (hx : roundIdx said x = none) : MetD (D.put (keyL x) (.lit (.int .i64 (said.length : Int)))) (said ++ [x]) := by
  intro y
  rw [roundIdx_snoc said x y hx]
  by_cases e : x = y
  · subst e
    rw [if_pos rfl]
    refine ⟨fun z => by simp at z, fun j hj zd => ?_⟩
    obtain rfl := Option.some.inj hj
    exact Maps.atKey_put_same hD (by simp [keyL, WideAt.IsKeyLit]) _ zd
  · rw [if_neg e]
    have hne : keyL y ≠ keyL x := fun z => e (keyL_inj z).symm
    exact ⟨fun q zd => by rw [Maps.atKey_put_other hne]; exact (h y).1 q zd, fun j hj zd => by rw [Maps.atKey_put_other hne]; exact (h y).2 j hj zd⟩
theorem met_look {P : Program} {k e t : TypeId} {w : World} {b n : Nat} {D : DataW Unit} (hown : w.ownsMap P k (plainElem P e) b n D) (ht : P.underlying t = some (.map k e)) (hk : P.underlying k = some .string) (he : P.underlying e = some (.int .i64)) (hz : (zeroValue e).run P w = .ok (.int .i64 0) w) (x : ByteArray) (hx : x.size ≤ maxLen) :
    ((∀ zd, D.atKey (keyL x) zd = zd) → (Instr.lookup t (.map (some b)) (.string x) true).run P w = .ok (.tuple #[.int .i64 0, .bool false]) w) ∧ ∀ c : Int, (∀ zd, D.atKey (keyL x) zd = .lit (.int .i64 c)) → (Instr.lookup t (.map (some b)) (.string x) true).run P w = .ok (.tuple #[.int .i64 c, .bool true]) w := by
  obtain ⟨es, clock, hb, F, hs, rfl⟩ := hown
  rcases Maps.fit_look true (Maps.string_keyed hk) ht hz hb F (WideMaps.keyOf_string_mk hk hx) with ⟨hrun, _, hat⟩ | ⟨e0, y, _, _, hrun, hRv, hat, _⟩
  · refine ⟨fun _ => hrun, fun c hc => ?_⟩
    have h1 := hc (.lit (.bool true))
    have h2 := hat (.lit (.bool true))
    unfold keyL at h1
    rw [h2] at h1
    injection h1 with h1
    cases h1
  · refine ⟨fun hn => ?_, fun c hc => ?_⟩
    · have h1 := hn (.lit (.bool true))
      have h2 := hn (.lit (.bool false))
      unfold keyL at h1 h2
      rw [hat] at h1 h2
      rw [h1] at h2
      injection h2 with h2
      injection h2 with h2
      cases h2
    · obtain ⟨a, ha, hy, _⟩ := plainElem_int_inv he hRv
      have h1 := hc (.lit (.bool true))
      unfold keyL at h1
      rw [hat, hy] at h1
      injection h1 with h1
      injection h1 with _ h1
      subst h1
      rw [hrun, ha]
      rfl
theorem own_map_below {P : Program} {k : TypeId} {R : Value → Option (DataW Unit × List MemPlace)} {w w1 : World} {b n : Nat} {D : DataW Unit} (h : w.ownsMap P k R b n D) (hB : Below w.heap.size w w1) : w1.ownsMap P k R b n D := by
  have hlt := h.lt
  obtain ⟨es, clock, hb, F, hs, hD⟩ := h
  exact ⟨es, clock, (hB.block b hlt).trans hb, F, hs, hD⟩
theorem round_zero (w : World) : (zeroValue 2).run Tryd.prog w = .ok (.int .i64 0) w := by kernel_rfl
set_option maxHeartbeats 8000000 in
set_option maxRecDepth 100000 in
theorem roundUntil_calls (A0 : Option Addr) (n0 c0 : Nat) (x0 : ByteArray) (w : World) (F : ByteArray → Option ByteArray) (d : Nat) (r1 r2 : Int) (hd : d ≤ 4611686018427387900) (hF : roundF F d [] x0 = some (r1, r2)) (hx0 : x0.size ≤ maxLen) (hsz : ∀ x y, F x = some y → y.size ≤ maxLen)
    (hchain : ∀ W A, Below w.heap.size w W → Kd.C Kd.string W A 1 [x0] → Calls Tryd.prog 12 #[.slice A0 n0 c0, .slice A 1 1] W fun e w' => e = .returned (.int .i64 0) ∧ Below W.heap.size W w')
    (hpass : ∀ W x y, Below w.heap.size w W → F x = some y → Calls Tryd.prog 13 #[.slice A0 n0 c0, .string x] W fun e w' => e = .returned (.string y) ∧ Below W.heap.size W w') :
    Calls Tryd.prog 7 #[.slice A0 n0 c0, .string x0] w fun e w' => e = .returned (.tuple #[.int .i64 r1, .int .i64 r2, .int .i64 0]) ∧ Below w.heap.size w w' := by
  have hBa : Below w.heap.size w (w.alloc (.cells #[.string x0] 9)) := Below.alloc (Below.refl _ _) (Nat.le_refl _) _
  have hrow : Kd.C Kd.string (w.alloc (.cells #[.string x0] 9)) (some ⟨w.heap.size, 0, none⟩) 1 [x0] := by
    have hO : Kd.R Kd.string 9 (w.alloc (.cells #[.string x0] 9)) w.heap.size (fun _ => True) (.slice (some ⟨w.heap.size, 0, none⟩) 1 1) [x0] := Kd.R_of_own (own_lit_of (enc := Value.string) w w.heap.size 9 [x0] (Nat.le_refl _) (by simp)) (fun _ _ => trivial)
    exact (Kd.R_reads' hO).2.2
  have hch := hchain _ _ hBa hrow
  clear hchain hrow
  go_enter Tryd.func7, Tryd.ntmps7
  go_wp2_with (go_at_call 12; refine hch.mono ?_; rintro e w1 ⟨rfl, hB1⟩)
  rw [show (Instr.makeMap 39 none).run Tryd.prog w1 = .ok (.map (some w1.heap.size)) (w1.alloc (.map #[] 0)) from rfl]
  go_wp2
  have hO : (w1.alloc (.map #[] 0)).ownsMap Tryd.prog 9 (plainElem (H := Unit) Tryd.prog 2) w1.heap.size 0 (.map []) := World.ownsMap_made _ _ _ _
  have hBw : Below w.heap.size w w1 := hBa.trans (hB1.mono hBa.size)
  have hB2 : Below w.heap.size w (w1.alloc (.map #[] 0)) := Below.alloc hBw hBw.size _
  obtain ⟨b, hb⟩ : ∃ b, b = w1.heap.size := ⟨_, rfl⟩
  have hbw : w.heap.size ≤ b := by rw [hb]; exact hBw.size
  rw [← hb] at hO ⊢
  generalize w1.alloc (.map #[] 0) = W2 at hO hB2 ⊢
  clear hB1 hBa hch hBw hb
  go_loopg [1, 9] d (fun k s1 s9 wr => ∃ (f : Nat) (said : List ByteArray) (x : ByteArray) (D : DataW Unit), s1 = .string x ∧ s9 = .int .i64 (said.length : Int) ∧ f ≤ k ∧ f + said.length ≤ d ∧ roundF F f said x = some (r1, r2) ∧ x.size ≤ maxLen ∧ MetD D said ∧ wr.ownsMap Tryd.prog 9 (plainElem (H := Unit) Tryd.prog 2) b said.length D ∧ Below w.heap.size w wr)
  case atStart => exact ⟨d, [], x0, .map [], rfl, rfl, Nat.le_refl _, Nat.le_refl _, hF, hx0, MetD.nil, hO, hB2⟩
  case round =>
    obtain ⟨f, said, x, D, rfl, rfl, hfk, hfd, hV, hx, hM, hown, hB⟩ := hrel
    cases f with
    | zero => exact absurd hV (by simp [roundF])
    | succ f =>
      have hlk := met_look hown Tryd.underlying39 Tryd.underlying9 Tryd.underlying2 (round_zero _) x hx
      cases hq : roundIdx said x with
      | some j =>
        have hV' : some ((said.length : Int), (said.length : Int) - (j : Int)) = some (r1, r2) := by
          have h2 := hV
          unfold roundF at h2
          rw [hq] at h2
          exact h2
        obtain ⟨rfl, rfl⟩ := Prod.mk.inj (Option.some.inj hV')
        have hrun := hlk.2 _ ((hM x).2 j hq)
        have hjl : j < said.length := by
          unfold roundIdx at hq
          exact (List.findIdx?_eq_some_iff_findIdx_eq.1 hq).1
        have hws : wrap64 ((said.length : Int) - (j : Int)) = (said.length : Int) - (j : Int) := by simp only [wrap64]; omega
        go_wp2
        go_ret3
        exact ⟨rfl, hB⟩
      | none =>
        have hV' : ((F x).bind fun y => roundF F f (said ++ [x]) y) = some (r1, r2) := by
          have h2 := hV
          unfold roundF at h2
          rw [hq] at h2
          exact h2
        obtain ⟨y, hy, hV2⟩ := Option.bind_eq_some_iff.1 hV'
        have hrun := hlk.1 ((hM x).1 hq)
        have hM2 := hM.put hown.isMap x hq
        have hwi : wrap64 ((said.length : Int) + 1) = (said.length : Int) + 1 := by simp only [wrap64]; omega
        have hwf : (Lit.int .i64 (said.length : Int)).wf = true := by simp [Lit.wf, IntKind.min, IntKind.max, IntKind.bits, IntKind.signed]; omega
        clear hV hV' hlk hM
        go_wp2_with (first | (at_mapUpdate; refine wpList_mapUpdate_own _ rfl _ _ _ 39 rfl 9 2 (Maps.string_keyed Tryd.underlying9) Tryd.underlying39 _ b said.length D rfl hown (by unfold maxLen; omega) _ _ (keyL x) rfl rfl (WideMaps.keyOf_string_mk Tryd.underlying9 hx) (.lit (.int .i64 (said.length : Int))) [] (plainElem_int Tryd.underlying2 hwf) ?_; intro w2 hown2 hg2; have hB2 := hB.grown hg2 hB.size (fun k hk => by have := Option.some.inj hk; omega)) | (go_at_call 13; refine (hpass _ x y hB2 hy).mono ?_; rintro e w3 ⟨rfl, hB3⟩; have hown3 := own_map_below hown2 hB3))
        go_roundg f
        case measure => omega
        case rel => exact ⟨f, said ++ [x], y, _, rfl, by simp, Nat.le_refl _, by rw [List.length_append]; simp only [List.length_singleton]; omega, hV2, hsz x y hy, hM2, by rw [List.length_append]; exact hown3, hB2.trans (hB3.mono hB2.size)⟩
theorem roundF_mono {F F' : ByteArray → Option ByteArray} (h : ∀ x y, F x = some y → F' x = some y) : ∀ (d d' : Nat), d ≤ d' → ∀ (said : List ByteArray) (x : ByteArray) (r : Int × Int), roundF F d said x = some r → roundF F' d' said x = some r := by
  intro d
  induction d with
  | zero => intro d' _ said x r hr; exact absurd hr (by simp [roundF])
  | succ d ih =>
    intro d' hd said x r hr
    obtain ⟨d', rfl⟩ : ∃ m, d' = m + 1 := ⟨d' - 1, by omega⟩
    unfold roundF at hr ⊢
    cases hq : roundIdx said x with
    | some j => rw [hq] at hr; exact hr
    | none =>
      rw [hq] at hr
      obtain ⟨y, hy, h2⟩ := Option.bind_eq_some_iff.1 hr
      show ((F' x).bind fun y => roundF F' d' (said ++ [x]) y) = some r
      rw [h x y hy, Option.bind_some]
      exact ih d' (by omega) _ _ _ h2
set_option maxHeartbeats 8000000 in
set_option maxRecDepth 100000 in
theorem roundUntil_err (A0 : Option Addr) (n0 c0 : Nat) (x0 : ByteArray) (w : World) (t : Int) (ht : t ≠ 0)
    (hchain : ∀ W A, Below w.heap.size w W → Kd.C Kd.string W A 1 [x0] → Calls Tryd.prog 12 #[.slice A0 n0 c0, .slice A 1 1] W fun e w' => e = .returned (.int .i64 t) ∧ Below W.heap.size W w') :
    Calls Tryd.prog 7 #[.slice A0 n0 c0, .string x0] w fun e w' => e = .returned (.tuple #[.int .i64 0, .int .i64 0, .int .i64 t]) ∧ Below w.heap.size w w' := by
  have hBa : Below w.heap.size w (w.alloc (.cells #[.string x0] 9)) := Below.alloc (Below.refl _ _) (Nat.le_refl _) _
  have hrow : Kd.C Kd.string (w.alloc (.cells #[.string x0] 9)) (some ⟨w.heap.size, 0, none⟩) 1 [x0] := by
    have hO : Kd.R Kd.string 9 (w.alloc (.cells #[.string x0] 9)) w.heap.size (fun _ => True) (.slice (some ⟨w.heap.size, 0, none⟩) 1 1) [x0] := Kd.R_of_own (own_lit_of (enc := Value.string) w w.heap.size 9 [x0] (Nat.le_refl _) (by simp)) (fun _ _ => trivial)
    exact (Kd.R_reads' hO).2.2
  have hch := hchain _ _ hBa hrow
  have ht1 : (t != 0) = true := bne_iff_ne.mpr ht
  clear hchain hrow
  go_enter Tryd.func7, Tryd.ntmps7
  go_wp2_with (go_at_call 12; refine hch.mono ?_; rintro e w1 ⟨rfl, hB1⟩)
  go_ret3
  exact ⟨rfl, hBa.trans (hB1.mono hBa.size)⟩

end Go.Proofs.YtcccbkilpeohkaaDoor.H
