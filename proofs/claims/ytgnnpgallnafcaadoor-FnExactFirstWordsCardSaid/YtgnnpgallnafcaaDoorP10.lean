-- Printed by wip/print (my turned copy of the kit's print) out of the translation; Lean checks it.
import Derived.RangeFuncNested
import Derived.RangeFuncBound
import Derived.RangeFuncCalls
import Derived.RangeFuncLeaves
import Derived.RangeFuncBox
import Derived.Shelf.Abstract
import Derived.Shelf.RegionOpen
import Derived.OwnWalkIn
import Derived.TacticsInMore
import Derived.LoopNIn
import Derived.LoopIn
import Derived.Maps.AppendAt
import Derived.Test.YtgnnpgallnafcaaDoorP0
import Derived.Test.YtgnnpgallnafcaaDoorP6
import Derived.Test.YtgnnpgallnafcaaDoorP9
namespace Go.Proofs.YtgnnpgallnafcaaDoor.P
open Go.RowKit Go.Proofs.YtgnnpgallnafcaaDoorW.PrintWords Go.Proofs.YtgnnpgallnafcaaDoorW.PrintLast Go.Proofs.YtgnnpgallnafcaaDoorW.PrintMore
attribute [local go_sem] max2_int min2_int max_two min_two max_three min_three max_four min_four   -- for this text's walks alone
set_option linter.unusedVariables false
set_option linter.unusedSimpArgs false

/-! ### impl_FirstWords: function 14 -/
def impl_FirstWords.goodW (s : ByteArray) : Prop := 1 ≤ s.size ∧ s.size ≤ 12 ∧ ∀ j : Nat, j < s.size → 97 ≤ bt s (j : Int) ∧ bt s (j : Int) ≤ 122
def impl_FirstWords.T (k : Nat) (l0 : List S28) (m : Int) : Prop := l0.length ≤ 30 ∧ ∀ x ∈ l0, ∀ s, impl_FirstWords.goodW s → ∃ r, impl_Habit_pasts.f k x.f0 x.f1 x.f2 s m = some r ∧ r.length ≤ 5000 ∧ ∀ y ∈ r, impl_FirstWords.goodW y
def impl_FirstWords.cat (k : Nat) (m : Int) (x : S28) (now : List ByteArray) : List ByteArray := now.flatMap (fun s => (impl_Habit_pasts.f k x.f0 x.f1 x.f2 s m).getD [])
def impl_FirstWords.step (k : Nat) (m : Int) (x : S28) (now : List ByteArray) : List ByteArray := Go.Proofs.YtgnnpgallnafcaaDoor.H.unB (Lib.compact (Go.Proofs.YtgnnpgallnafcaaDoor.H.sortB (impl_FirstWords.cat k m x now)))
def impl_FirstWords.fold (k : Nat) (m : Int) : List S28 → List ByteArray → List ByteArray × Int
  | [], now => (now, 0)
  | x :: r, now => if 300 < (impl_FirstWords.step k m x now).length then ([], 3) else impl_FirstWords.fold k m r (impl_FirstWords.step k m x now)
open Classical in
noncomputable def impl_FirstWords.f (k : Nat) (l0 : List S28) (a1 : ByteArray) (a977_0 : Int) : Option (List ByteArray × Int) := (impl_chainCode.f k l0 [a1]).bind fun c => (if c = 0 then (if impl_FirstWords.goodW a1 ∧ impl_FirstWords.T k l0 a977_0 then some (impl_FirstWords.fold k a977_0 l0.reverse [a1]) else none) else some ([], c))
theorem impl_FirstWords.cat_eq {k : Nat} {m : Int} {l0 : List S28} (hT : impl_FirstWords.T k l0 m) {x : S28} (hx : x ∈ l0) : ∀ now : List ByteArray, (∀ s ∈ now, impl_FirstWords.goodW s) → impl_FirstWords.cat (k + 1) m x now = impl_FirstWords.cat k m x now
  | [], _ => rfl
  | s :: r, h => by
    obtain ⟨q, h1, _, _⟩ := hT.2 x hx s (h s List.mem_cons_self)
    have ih := impl_FirstWords.cat_eq hT hx r (fun y hy => h y (List.mem_cons_of_mem _ hy))
    unfold impl_FirstWords.cat at ih ⊢
    rw [List.flatMap_cons, List.flatMap_cons, ih, h1, impl_Habit_pasts.mono _ _ _ _ _ k q h1]
theorem impl_FirstWords.cat_good {k : Nat} {m : Int} {l0 : List S28} (hT : impl_FirstWords.T k l0 m) {x : S28} (hx : x ∈ l0) (now : List ByteArray) (h : ∀ s ∈ now, impl_FirstWords.goodW s) : ∀ y ∈ impl_FirstWords.cat k m x now, impl_FirstWords.goodW y := by
  intro y hy
  unfold impl_FirstWords.cat at hy
  rw [List.mem_flatMap] at hy
  obtain ⟨s, hs, hy⟩ := hy
  obtain ⟨q, h1, _, h3⟩ := hT.2 x hx s (h s hs)
  rw [h1] at hy
  exact h3 y hy
theorem impl_FirstWords.step_good {k : Nat} {m : Int} {l0 : List S28} (hT : impl_FirstWords.T k l0 m) {x : S28} (hx : x ∈ l0) (now : List ByteArray) (h : ∀ s ∈ now, impl_FirstWords.goodW s) : ∀ y ∈ impl_FirstWords.step k m x now, impl_FirstWords.goodW y :=
  fun y hy => impl_FirstWords.cat_good hT hx now h y (Go.Proofs.YtgnnpgallnafcaaDoor.H.mem_of_compact _ y hy)
theorem impl_FirstWords.fold_eq {k : Nat} {m : Int} {l0 : List S28} (hT : impl_FirstWords.T k l0 m) : ∀ (xs : List S28) (now : List ByteArray), (∀ x ∈ xs, x ∈ l0) → (∀ s ∈ now, impl_FirstWords.goodW s) → impl_FirstWords.fold (k + 1) m xs now = impl_FirstWords.fold k m xs now
  | [], _, _, _ => rfl
  | x :: r, now, hx, h => by
    have hx0 := hx x List.mem_cons_self
    have e : impl_FirstWords.step (k + 1) m x now = impl_FirstWords.step k m x now := by unfold impl_FirstWords.step; rw [impl_FirstWords.cat_eq hT hx0 now h]
    unfold impl_FirstWords.fold
    rw [e]
    split
    · rfl
    · exact impl_FirstWords.fold_eq hT r _ (fun y hy => hx y (List.mem_cons_of_mem _ hy)) (impl_FirstWords.step_good hT hx0 now h)
theorem impl_FirstWords.mono : ∀ a0 a1 a2 k, LeO (impl_FirstWords.f k a0 a1 a2) (impl_FirstWords.f (k + 1) a0 a1 a2) := by
  intro l0 a1 m k
  unfold impl_FirstWords.f
  refine LeO.bind (impl_chainCode.mono _ _ _) (fun c => ?_)
  refine LeO.ite ?_ (LeO.refl _)
  intro r hr
  by_cases h : impl_FirstWords.goodW a1 ∧ impl_FirstWords.T k l0 m
  · rw [if_pos h] at hr
    have h2 : impl_FirstWords.T (k + 1) l0 m := ⟨h.2.1, fun x hx s hs => by
      obtain ⟨q, h1, h3⟩ := h.2.2 x hx s hs
      exact ⟨q, impl_Habit_pasts.mono _ _ _ _ _ k q h1, h3⟩⟩
    rw [if_pos ⟨h.1, h2⟩, impl_FirstWords.fold_eq h.2 _ _ (fun x hx => List.mem_reverse.1 hx) (fun s hs => by rw [List.mem_singleton] at hs; rw [hs]; exact h.1)]
    exact hr
  · rw [if_neg h] at hr; cases hr
attribute [local go_sem] Oper.semAt_some
/-! ### slices.Backward at habits: its iterator -/
abbrev FwA (l0 : List S28) : Type := { p : Int × S28 // p.2 ∈ l0 }
def fwEnc {l0 : List S28} (p : FwA l0) : Array Value := #[.int .i64 p.1.1, .agg #[.int .i8 p.1.2.f0, .int .u8 p.1.2.f1, .int .u8 p.1.2.f2]]
def fwV {l0 : List S28} (pre : List (FwA l0)) : List S28 := pre.map (fun p => p.1.2)
theorem fwV_snoc {l0 : List S28} (pre : List (FwA l0)) (p : FwA l0) : fwV (pre ++ [p]) = fwV pre ++ [p.1.2] := by simp [fwV]
theorem fw_next (l0 : List S28) (i : Nat) (h : i < l0.length) : l0.reverse.take (l0.length - i) = l0.reverse.take (l0.length - (i + 1)) ++ [rd_T28 l0 (i : Int)] := by
  have e : l0.length - i = (l0.length - (i + 1)) + 1 := by omega
  rw [e, List.take_succ_eq_append_getElem (by rw [List.length_reverse]; omega), List.getElem_reverse]
  congr 2
  unfold rd_T28
  simp only [Int.toNat_natCast]
  have hidx : l0.length - 1 - (l0.length - (i + 1)) = i := by omega
  rw [List.getD_eq_getElem?_getD, List.getElem?_eq_getElem h]
  simp only [hidx]
  rfl
/-- What a round keeps: what lay ahead of the call, and the box of the slice. -/
def FwK (n₀ Bs : Nat) (W W' : World) : Prop := Below n₀ W W' ∧ W'.heap[Bs]? = W.heap[Bs]?
theorem FwK.refl (n₀ Bs : Nat) (W : World) : FwK n₀ Bs W W := ⟨Below.refl _ _, rfl⟩
theorem FwK.trans {n₀ Bs : Nat} {A B C : World} (h : FwK n₀ Bs A B) (k : FwK n₀ Bs B C) : FwK n₀ Bs A C := ⟨h.1.trans k.1, k.2.trans h.2⟩
set_option maxRecDepth 100000 in
set_option maxHeartbeats 4000000 in
theorem fwIter_in (F : Fence) (n : Nat) (hF : F.fn 44) (hro : F.round = none) (hn : 1 ≤ n) (l Bs n₀ : Nat) (A0 : Option Addr) (c0 : Nat) (l0 : List S28) (hsz : l0.length ≤ 9223372036854775807) (w0 : World) (hn0 : w0.heap.size ≤ n₀) (hC : Kd.C k28 w0 A0 l0.length l0)
    (J Jx : List (FwA l0) → World → Prop)
    (hY : ∀ pre x W, J pre W → pre.length < l0.length → YieldAt F (n - 1) Tryd.prog l (fwEnc x) W fun e W' =>
      (e = .returned (.bool true) ∧ J (pre ++ [x]) W' ∧ FwK n₀ Bs W W') ∨ (e = .returned (.bool false) ∧ Jx (pre ++ [x]) W'))
    (W : World) (hW : Below w0.heap.size w0 W) (hBs : Boxed W Bs 36 (.slice A0 l0.length c0)) (h0 : J [] W) :
    CallsIn F n Tryd.prog 44 #[.func (.yield l) #[] #[], .pointer (some ⟨Bs, 0, none⟩)] W fun e W' => (∃ v, e = .returned v) ∧
      ((∃ ys, fwV ys = l0.reverse ∧ J ys W') ∨ (∃ pre, (fwV pre <+: l0.reverse) ∧ Jx pre W')) := by
  refine callsIn_of_wp Tryd.func44 rfl hF ?_ hro
  have hbs0 := hBs.cell
  simp only [Tryd.ntmps44, List.size_toArray, List.length_cons, List.length_nil, Nat.reduceAdd, Nat.reduceSub, Array.replicate_succ, Array.replicate_zero, List.push_toArray, List.append_toArray, List.nil_append, List.cons_append]
  gi_wp2
  gi_loopw [3] (fun i wr => ∃ (k : Nat) (pre : List (FwA l0)), k ≤ l0.length ∧ i = .int .i64 ((k : Int) - 1) ∧ fwV pre = l0.reverse.take (l0.length - k) ∧ J pre wr ∧ FwK n₀ Bs W wr)
    (fun i _ => (intOf i + 1).toNat)
  case atStart => exact ⟨l0.length, [], Nat.le_refl _, rfl, by simp [fwV], h0, FwK.refl _ _ _⟩
  case round =>
    obtain ⟨k, pre, hk, rfl, hv, hJs, hnx⟩ := hrel
    have hbs : wr.cell? ⟨Bs, 0, none⟩ = some (.slice A0 l0.length c0) := Boxed.cell (hnx.2.trans hBs)
    cases k with
    | zero =>
      gi_wp2
      go_end0
      exact ⟨⟨_, rfl⟩, .inl ⟨pre, by rw [hv, Nat.sub_zero]; exact List.take_of_length_le (by simp), hJs⟩⟩
    | succ i =>
      have hil : i < l0.length := by omega
      have hi1 : (((i + 1 : Nat) : Int) - 1) = (i : Int) := by omega
      rw [hi1]
      obtain ⟨ad, e, hx0, hx1, hx2⟩ := at_T28 hC (i : Int) (by omega) (by omega)
      subst e
      simp only [Int.toNat_natCast] at hx0 hx1 hx2
      have hb3 : Below w0.heap.size w0 wr := hW.trans (hnx.1.mono hn0)
      replace hx0 := (hb3.cell (World.block_lt_of_cell? w0 _ hx0)).trans hx0
      replace hx1 := (hb3.cell (World.block_lt_of_cell? w0 _ hx1)).trans hx1
      replace hx2 := (hb3.cell (World.block_lt_of_cell? w0 _ hx2)).trans hx2
      have hmem : rd_T28 l0 (i : Int) ∈ l0 := by
        have := fw_next l0 i hil
        have hm : rd_T28 l0 (i : Int) ∈ l0.reverse.take (l0.length - i) := by rw [this]; simp
        exact List.mem_reverse.1 (List.mem_of_mem_take hm)
      have hpl : pre.length = l0.length - (i + 1) := by
        have := congrArg List.length hv
        simpa [fwV] using this
      obtain ⟨fn, tmps, assign, body, hy, hR⟩ := hY pre ⟨((i : Int), rd_T28 l0 (i : Int)), hmem⟩ wr hJs (by omega)
      dsimp only [fwEnc] at hy
      have hnx2 := fw_next l0 i hil
      generalize rd_T28 l0 (i : Int) = x at *
      clear hC
      gi_wp2
      refine hR.mono ?_
      rintro e W3 (⟨rfl, hJ3, hk3⟩ | ⟨rfl, hJx3⟩)
      · gi_wp2
        go_roundw
        case rel => exact ⟨i, _, by omega, by simp, by rw [fwV_snoc, hv, hnx2], hJ3, hnx.trans hk3⟩
        case measure => simp [intOf]
      · gi_wp2
        refine bodyPost_ret (results_none rfl _ _ _) rfl ?_
        exact ⟨⟨_, rfl⟩, .inr ⟨_, by rw [fwV_snoc, hv, ← hnx2]; exact List.take_prefix _ _, hJx3⟩⟩
theorem fw_stops (F : Fence) (n : Nat) (hF : F.fn 44) (hro : F.round = none) (hn : 1 ≤ n) (Bs n₀ : Nat) (A0 : Option Addr) (c0 : Nat) (l0 : List S28) (hsz : l0.length ≤ 9223372036854775807) (w0 : World) (hn0 : w0.heap.size ≤ n₀) (hC : Kd.C k28 w0 A0 l0.length l0) (w : World) (hw : Below w0.heap.size w0 w) (hBs : Boxed w Bs 36 (.slice A0 l0.length c0)) :
    SeqStopsK F n Tryd.prog 44 #[.pointer (some ⟨Bs, 0, none⟩)] (fwEnc (l0 := l0)) (FwK n₀ Bs) (fun ys => fwV ys = l0.reverse) (fun pre => fwV pre <+: l0.reverse) l0.length w := fun l J Jx W hW _ _ hY h0 =>
  fwIter_in F n hF hro hn l Bs n₀ A0 c0 l0 hsz w0 hn0 hC J Jx hY W (hw.trans (hW.mono hw.size)) ((hW.block Bs hBs.lt).trans hBs) h0
theorem fwBack_calls (A0 : Option Addr) (c0 n : Nat) (w : World) : Calls Tryd.prog 25 #[.slice A0 n c0] w fun e w' => e = .returned (.func (.func 44) #[] #[.pointer (some ⟨w.heap.size, 0, none⟩)]) ∧ w' = w.alloc (.cells #[.slice A0 n c0] 36) := by
  go_enter Tryd.func25, Tryd.ntmps25
  go_wp2
  go_ret
  exact ⟨rfl, rfl⟩
theorem own_block {B : Nat} {A A' : World} {row : Option Nat} (hg : A.grownBy A' row) (hr : ∀ r, row = some r → B ≤ r ∧ ∃ o : Obj, A.heap[r]? = some o ∧ o.isCells = false) {b : Nat} {cs : Array Value} {t : TypeId} {fr : Nat × Nat} (h : A.heap[b]? = some (.cells cs t fr)) : A'.heap[b]? = some (.cells cs t fr) :=
  (hg.block b (Array.getElem?_eq_some_iff.1 h).1 (fun e => by obtain ⟨_, o, ho, hc⟩ := hr b e.symm; rw [h] at ho; cases ho; cases hc)).trans h
/-- Between two rounds: the words so far, in their box. -/
def fwI (k : Nat) (m : Int) (l0 : List S28) (a1 : ByteArray) (n0 b7 : Nat) (w : World) (pre : List (FwA l0)) (W : World) : Prop :=
  ∃ (now : List ByteArray) (g cap : Nat), (∀ rest, impl_FirstWords.fold k m (fwV pre ++ rest) [a1] = impl_FirstWords.fold k m rest now) ∧ (∀ s ∈ now, impl_FirstWords.goodW s) ∧ now.length ≤ 300 ∧ Boxed W b7 25 (.slice (some ⟨g, 0, none⟩) now.length cap) ∧ n0 ≤ g ∧ H.RowS W g cap now ∧ Boxed W n0 25 (.slice none 0 0) ∧ Boxed W (n0 + 1) 2 (.int .i64 0) ∧ Below n0 w W ∧ b7 + 1 < W.heap.size
/-- A round has left: they are too many. -/
def fwX (k : Nat) (m : Int) (l0 : List S28) (a1 : ByteArray) (n0 : Nat) (w : World) (c : Code) (pre : List (FwA l0)) (W : World) : Prop :=
  c = .ret ∧ (∀ rest, impl_FirstWords.fold k m (fwV pre ++ rest) [a1] = ([], 3)) ∧ Boxed W n0 25 (.slice none 0 0) ∧ Boxed W (n0 + 1) 2 (.int .i64 3) ∧ Below n0 w W
theorem fwI_own {k : Nat} {m : Int} {l0 : List S28} {a1 : ByteArray} {n0 b7 B : Nat} {w : World} (hn : n0 ≤ w.heap.size) (hB : n0 ≤ B) : OwnFrom B (fwI k m l0 a1 n0 b7 w) := by
  intro pre A A' row hs hg hr
  obtain ⟨now, g, cap, h1, h2, h3, h4, h5, ⟨cur, e1, e2⟩, h7, h8, h9, h10⟩ := hs
  exact ⟨now, g, cap, h1, h2, h3, own_block hg hr h4, h5, ⟨cur, own_block hg hr e1, e2⟩, own_block hg hr h7, own_block hg hr h8, ownFrom_below (β := Unit) hn hB () A A' row h9 hg hr, Nat.lt_of_lt_of_le h10 hg.size⟩
theorem fwX_own {k : Nat} {m : Int} {l0 : List S28} {a1 : ByteArray} {n0 B : Nat} {w : World} (hn : n0 ≤ w.heap.size) (hB : n0 ≤ B) (c : Code) : OwnFrom B (fwX k m l0 a1 n0 w c) := by
  intro pre A A' row hs hg hr
  obtain ⟨h1, h2, h3, h4, h5⟩ := hs
  exact ⟨h1, h2, own_block hg hr h3, own_block hg hr h4, ownFrom_below (β := Unit) hn hB () A A' row h5 hg hr⟩
theorem keepsFrom_below {B : Nat} {W W' : World} (h : Below W.heap.size W W') : KeepsFrom B W W' := ⟨h.size, fun j o _ hj _ => (h.block j (Array.getElem?_eq_some_iff.1 hj).1).trans hj⟩
theorem FwK.below {n₀ Bs : Nat} {W W' : World} (h : Below W.heap.size W W') (hn : n₀ ≤ W.heap.size) (hB : Bs < W.heap.size) : FwK n₀ Bs W W' := ⟨h.mono hn, h.block Bs hB⟩
theorem own_ge {W : World} {base e size n : Nat} {v : Value} {cs : List Value} (h : W.ownsRow base e size v n cs) : ∀ j, v.ownBlock = some j → base ≤ j := by
  intro j hj
  rcases h.2 with ⟨e0, _⟩ | ⟨g, cap, cur, e0, hb, _⟩
  · rw [e0] at hj; simp [Value.ownBlock] at hj
  · rw [e0] at hj
    have : g = j := by simpa [Value.ownBlock] using hj
    omega
theorem cat_len {k : Nat} {m : Int} {l0 : List S28} (hT : impl_FirstWords.T k l0 m) {x : S28} (hx : x ∈ l0) : ∀ now : List ByteArray, (∀ s ∈ now, impl_FirstWords.goodW s) → (impl_FirstWords.cat k m x now).length ≤ now.length * 5000
  | [], _ => by simp [impl_FirstWords.cat]
  | s :: r, h => by
    obtain ⟨q, h1, h2, _⟩ := hT.2 x hx s (h s List.mem_cons_self)
    have ih := cat_len hT hx r (fun y hy => h y (List.mem_cons_of_mem _ hy))
    unfold impl_FirstWords.cat at ih ⊢
    rw [List.flatMap_cons, List.length_append, h1, List.length_cons, Nat.succ_mul]
    simp only [Option.getD_some]
    omega
theorem cat_next {k : Nat} {m : Int} {x : S28} {now r : List ByteArray} (j : Nat) (hj : j < now.length) (h : impl_Habit_pasts.f k x.f0 x.f1 x.f2 now[j] m = some r) : impl_FirstWords.cat k m x (now.take (j + 1)) = impl_FirstWords.cat k m x (now.take j) ++ r := by
  rw [List.take_succ_eq_append_getElem hj]
  unfold impl_FirstWords.cat
  rw [List.flatMap_append, List.flatMap_cons, List.flatMap_nil, h, List.append_nil]
  rfl
theorem own_keep {W W' : World} {base e size n : Nat} {v : Value} {cs : List Value} (h : W.ownsRow base e size v n cs) (hb : Below W.heap.size W W') : W'.ownsRow base e size v n cs := by
  refine ⟨h.1, ?_⟩
  rcases h.2 with h1 | ⟨g, cap, cur, e0, hb0, hg, hrest⟩
  · exact .inl h1
  · exact .inr ⟨g, cap, cur, e0, hb0, (hb.block g (Array.getElem?_eq_some_iff.1 hg).1).trans hg, hrest⟩
theorem rowS_cells {W : World} {g cap : Nat} {d : List ByteArray} (h : H.RowS W g cap d) : ∀ j u, (d.map Value.string)[j]? = some u → W.cell? ((⟨g, 0, none⟩ : Addr).add j) = some u := by
  intro j u hu
  have hj : j < d.length := by have := (List.getElem?_eq_some_iff.1 hu).1; simpa using this
  rw [List.getElem?_map, List.getElem?_eq_getElem hj] at hu
  have := h.cell j hj
  rw [show ((⟨g, 0, none⟩ : Addr).add j) = ⟨g, j, none⟩ by rw [Addr.add_lit, Nat.zero_add]]
  rw [this]
  exact hu
theorem one_strings (d : List ByteArray) : ∀ u ∈ d.map Value.string, u.oneCell' = true := by
  intro u hu
  obtain ⟨s, _, rfl⟩ := List.mem_map.1 hu
  rfl
theorem rowS_far {W : World} {g cap b : Nat} {d : List ByteArray} (h : H.RowS W g cap d) (hne : g ≠ b) (u : Value) : H.RowS (W.setCell ⟨b, 0, none⟩ u) g cap d := by
  obtain ⟨cur, h1, h2⟩ := h
  exact ⟨cur, (Below.heap_setCell W ⟨b, 0, none⟩ u g hne).trans h1, h2⟩
theorem rowS_put {W : World} {g cap D : Nat} {d : List ByteArray} {o : Obj} (h : H.RowS W g cap d) (hD : W.heap[D]? = some o) (ho : o.isCells = false) (o' : Obj) : H.RowS (W.putObj D o') g cap d := by
  obtain ⟨cur, h1, h2⟩ := h
  refine ⟨cur, (World.putObj_heap_other (fun e => ?_)).trans h1, h2⟩
  subst e
  rw [hD] at h1
  cases h1
  cases ho
theorem boxed_put {W : World} {B D : Nat} {t : TypeId} {v : Value} {o : Obj} (h : Boxed W B t v) (hD : W.heap[D]? = some o) (ho : o.isCells = false) (o' : Obj) : Boxed (W.putObj D o') B t v := by
  refine Eq.trans (World.putObj_heap_other (fun e => ?_)) h
  subst e
  rw [show W.heap[_]? = _ from h] at hD
  cases hD
  cases ho
theorem fw_lit (W : World) (s : ByteArray) : H.RowS (W.alloc (.cells #[.string s] 9)) W.heap.size 1 [s] :=
  ⟨#[.string s], heap_alloc_new W _, rfl, Nat.le_refl _, by decide, rfl⟩
set_option maxHeartbeats 8000000 in
set_option maxRecDepth 1000000 in
theorem impl_FirstWords.calls (k : Nat) (A0 : Option Addr) (c0 : Nat) (l0 : List S28) (a1 : ByteArray) (a977_0 : Int) (r1 : List ByteArray) (r2 : Int) (w : World) (hr0 : Kd.C k28 w A0 l0.length l0) (hc0 : l0.length ≤ c0) (hx977 : w.heap[0]? = some (.cells #[.int .i64 a977_0] 3 (0, 0))) (h : impl_FirstWords.f k l0 a1 a977_0 = some (r1, r2)) :
    Calls Tryd.prog 14 #[.slice A0 l0.length c0, .string a1] w fun e w' => ∃ v0_ : Value, e = .returned (.tuple #[v0_, .int .i64 r2]) ∧ Kd.R Kd.string 9 w' w.heap.size (fun _ => True) v0_ r1 ∧ Below w.heap.size w w' := by
  unfold impl_FirstWords.f at h
  obtain ⟨c, hcc0, h⟩ := Option.bind_eq_some_iff.mp h
  have hBa : Below w.heap.size w (w.alloc (.cells #[.slice none 0 0] 25)) := (Below.refl _ _).alloc (Nat.le_refl _) _
  have hBb : Below w.heap.size w ((w.alloc (.cells #[.slice none 0 0] 25)).alloc (.cells #[.int .i64 0] 2)) := hBa.alloc (by simp) _
  have hB1 : Below w.heap.size w (((w.alloc (.cells #[.slice none 0 0] 25)).alloc (.cells #[.int .i64 0] 2)).alloc (.cells #[.string a1] 9)) := hBb.alloc (by simp; omega) _
  have b4 := ((Boxed.new w 25 (.slice none 0 0)).alloc (.cells #[.int .i64 0] 2)).alloc (.cells #[.string a1] 9)
  have b5 := (Boxed.new (w.alloc (.cells #[.slice none 0 0] 25)) 2 (.int .i64 0)).alloc (.cells #[.string a1] 9)
  rw [World.size_alloc] at b5
  have hl1 := fw_lit ((w.alloc (.cells #[.slice none 0 0] 25)).alloc (.cells #[.int .i64 0] 2)) a1
  have hs2 : ((w.alloc (.cells #[.slice none 0 0] 25)).alloc (.cells #[.int .i64 0] 2)).heap.size = w.heap.size + 2 := by simp
  rw [hs2] at hl1
  obtain ⟨A1, c1, e1, hle1, hC1⟩ := Kd.R_reads (H.R_of_rowS hl1 (Nat.zero_le _))
  injection e1 with e2 _ e3
  subst e2; subst e3
  have hcc := impl_chainCode.calls k A0 c0 l0 (some ⟨w.heap.size + 2, 0, none⟩) 1 [a1] c _ (Kd.C_below hr0 hB1) hc0 hC1 hle1 hcc0
  clear hl1 hle1 hC1 hcc0
  have X0 : Aside (Kd.C k28 w A0 l0.length l0 ∧ w.heap[0]? = some (.cells #[.int .i64 a977_0] 3 (0, 0))) := ⟨hr0, hx977⟩
  clear hr0 hx977 hBa hBb
  have XB : Aside (Below w.heap.size w _ ∧ Boxed _ w.heap.size 25 (.slice none 0 0) ∧ Boxed _ (w.heap.size + 1) 2 (.int .i64 0)) := ⟨hB1, b4, b5⟩
  have hs3 : (((w.alloc (.cells #[.slice none 0 0] 25)).alloc (.cells #[.int .i64 0] 2)).alloc (.cells #[.string a1] 9)).heap.size = w.heap.size + 3 := by simp
  clear hB1 b4 b5 hs2
  refine (callsIn_wide (n := 3)).1 ?_
  refine callsIn_of_wp_marks (F := Fence.wide) Tryd.func14 rfl trivial ?_
  refine wpIn_wide.2 ?_
  simp only [Tryd.ntmps14, List.size_toArray, List.length_cons, List.length_nil, Nat.reduceAdd, Nat.reduceSub, Array.replicate_succ, Array.replicate_zero, List.push_toArray, List.append_toArray, List.nil_append, List.cons_append]
  have hH : Aside _ := h
  clear h
  go_wp2_with (first
    | (go_at_call 24; refine hcc.mono ?_; rintro e w1 ⟨rfl, hb1⟩; have B1 : Aside (Below w.heap.size w w1) := XB.out.1.trans (hb1.mono XB.out.1.size); have c4 : Boxed w1 w.heap.size 25 (.slice none 0 0) := (hb1.block _ (by rw [hs3]; omega)).trans XB.out.2.1; have c5 : Boxed w1 (w.heap.size + 1) 2 (.int .i64 0) := (hb1.block _ (by rw [hs3]; omega)).trans XB.out.2.2; have c4c := c4.cell; have c4f := c4.frozen; have c5c := c5.cell; have c5f := c5.frozen)
    | (go_at_call 25; refine (fwBack_calls A0 c0 l0.length _).mono ?_; rintro e w2 ⟨rfl, rfl⟩))
  · rename_i hc
    have hc0' : ¬ c = 0 := by simpa using hc
    have h2 := hH.out
    rw [if_neg hc0'] at h2
    have h3 := Option.some.inj h2
    obtain ⟨rfl, rfl⟩ := Prod.mk.inj h3
    refine ⟨.tuple #[.slice none 0 0, .int .i64 c], ?_, _, rfl, Kd.R_nil _ _ _ _ _, ?_⟩
    · simp [results, Tryd.f14, go_sem, c4c, c5c, World.cell?_setCell_same']
    · exact (B1.out.setCell (p := ⟨w.heap.size, 0, none⟩) (Nat.le_refl _) _).setCell (p := ⟨w.heap.size + 1, 0, none⟩) (by simp) _
  · rename_i hc Qx hKx
    have hc0' : c = 0 := by simpa using hc
    have h2 := hH.out
    rw [if_pos hc0'] at h2
    subst hc0'
    by_cases hT : impl_FirstWords.goodW a1 ∧ impl_FirstWords.T k l0 a977_0
    · rw [if_pos hT] at h2
      have h3 := Option.some.inj h2
      have hs1 := B1.out.size
      have f7 := ((Boxed.new (w1.alloc (.cells #[.string a1] 9)) 25 (.slice (some ⟨w1.heap.size, 0, none⟩) 1 1)).alloc (.cells #[.slice A0 l0.length c0] 36))
      rw [World.size_alloc] at f7
      have fs := Boxed.new ((w1.alloc (.cells #[.string a1] 9)).alloc (.cells #[.slice (some ⟨w1.heap.size, 0, none⟩) 1 1] 25)) 36 (.slice A0 l0.length c0)
      simp only [World.size_alloc] at fs
      have f4 := ((c4.alloc (.cells #[.string a1] 9)).alloc (.cells #[.slice (some ⟨w1.heap.size, 0, none⟩) 1 1] 25)).alloc (.cells #[.slice A0 l0.length c0] 36)
      have f5 := ((c5.alloc (.cells #[.string a1] 9)).alloc (.cells #[.slice (some ⟨w1.heap.size, 0, none⟩) 1 1] 25)).alloc (.cells #[.slice A0 l0.length c0] 36)
      have hb2 : Below (w1.alloc (.cells #[.string a1] 9)).heap.size (w1.alloc (.cells #[.string a1] 9)) (((w1.alloc (.cells #[.string a1] 9)).alloc (.cells #[.slice (some ⟨w1.heap.size, 0, none⟩) 1 1] 25)).alloc (.cells #[.slice A0 l0.length c0] 36)) := ((Below.refl _ _).alloc (Nat.le_refl _) _).alloc (by simp) _
      have fr := (fw_lit w1 a1).below hb2
      have B2 : Below w.heap.size w (((w1.alloc (.cells #[.string a1] 9)).alloc (.cells #[.slice (some ⟨w1.heap.size, 0, none⟩) 1 1] 25)).alloc (.cells #[.slice A0 l0.length c0] 36)) := ((B1.out.alloc hs1 _).alloc (by simp; omega) _).alloc (by simp; omega) _
      have hs4 : (((w1.alloc (.cells #[.string a1] 9)).alloc (.cells #[.slice (some ⟨w1.heap.size, 0, none⟩) 1 1] 25)).alloc (.cells #[.slice A0 l0.length c0] 36)).heap.size = w1.heap.size + 3 := by simp
      have hgs : w.heap.size + 3 ≤ w1.heap.size := by rw [← hs3]; exact hb1.size
      clear hb2 c4 c5 c4c c4f c5c c5f B1 hb1 hs1 hs3 XB hcc hH hc h2
      generalize (((w1.alloc (.cells #[.string a1] 9)).alloc (.cells #[.slice (some ⟨w1.heap.size, 0, none⟩) 1 1] 25)).alloc (.cells #[.slice A0 l0.length c0] 36)) = W2 at *
      generalize w1.heap.size = g0 at *
      have hn1 : w.heap.size ≠ g0 + 1 := by omega
      have hn2 : w.heap.size + 1 ≠ g0 + 1 := by omega
      have hn3 : g0 + 1 ≠ w.heap.size := by omega
      have hn4 : g0 + 1 ≠ w.heap.size + 1 := by omega
      have hn5 : w.heap.size ≠ w.heap.size + 1 := by omega
      have hn6 : w.heap.size + 1 ≠ w.heap.size := by omega
      refine (wpIn_wide (n := 3)).1 ?_
      refine wpIn_rangeFunc_ownH (F := Fence.wide) rfl (by decide) (gf := 44) (lb := #[.pointer (some ⟨g0 + 1 + 1, 0, none⟩)]) rfl trivial (enters_of Tryd.func44 (by kernel_rfl) rfl)
        (fw_stops Fence.wide 2 trivial rfl (by decide) (g0 + 1 + 1) w.heap.size A0 c0 l0 (by have := hT.2.1; omega) w (Nat.le_refl _) X0.out.1 W2 B2 fs) FwK.trans ?hKb (Below.refl _ _) (fun _ => rfl)
        (fwI k a977_0 l0 a1 w.heap.size (g0 + 1) w) (fwX k a977_0 l0 a1 w.heap.size w) (fwI_own (Nat.le_refl _) (by rw [hs4]; omega)) (fwX_own (Nat.le_refl _) (by rw [hs4]; omega))
        ⟨[a1], g0, 1, fun _ => rfl, fun s hs => by rw [List.mem_singleton] at hs; rw [hs]; exact hT.1, by simp, f7, by omega, fr, f4, f5, B2, by rw [hs4]; omega⟩
        (fun x a' W => ∃ Bx, g0 + 1 + 1 < Bx ∧ W.heap[Bx]? = some (.cells #[.int .i8 x.1.2.f0, .int .u8 x.1.2.f1, .int .u8 x.1.2.f2] 28 (0, 0)) ∧ a' = { tmps := #[.slice A0 l0.length c0, .string a1, undef, undef, .pointer (some ⟨w.heap.size, 0, none⟩), .pointer (some ⟨w.heap.size + 1, 0, none⟩), .int .i64 0, .pointer (some ⟨g0 + 1, 0, none⟩), undef, .pointer (some ⟨Bx, 0, none⟩), undef, undef, undef, .slice A0 l0.length c0, .string a1, .slice (some ⟨w.heap.size + 1 + 1, 0, none⟩) 1 1, .int .i64 0, .int .i64 0, .bool false, undef, .string a1, .slice (some ⟨g0, 0, none⟩) 1 1, .slice A0 l0.length c0, .func (.func 44) #[] #[.pointer (some ⟨g0 + 1 + 1, 0, none⟩)], .int .i64 x.1.1, .agg #[.int .i8 x.1.2.f0, .int .u8 x.1.2.f1, .int .u8 x.1.2.f2], undef, undef, undef, undef, undef, undef, undef, undef, undef, undef, undef, undef, undef, undef, undef, undef, undef, undef, undef, undef, undef], defers := [] })
        ?hAx ?assign ?body ?done ?stop
      case hKb =>
        intro W l o o' hl hh hc1 hc2
        refine ⟨belowK_b (w := w) (Nat.le_refl _) W l o o' (by omega) hh hc1 hc2, ?_⟩
        exact World.putObj_heap_other (by omega)
      case hAx =>
        intro x a' _ A A' row hs hg hr
        obtain ⟨Bx, q1, q2, q3⟩ := hs
        exact ⟨Bx, q1, own_block hg hr q2, q3⟩
      case assign =>
        intro l pre x W K hI hK
        dsimp only [fwEnc]
        gi_wp2
        have hb : Below W.heap.size W (W.alloc (.cells #[.int .i8 x.1.2.f0, .int .u8 x.1.2.f1, .int .u8 x.1.2.f2] 28)) := (Below.refl _ _).alloc (Nat.le_refl _) _
        have hI2 := hI
        obtain ⟨_, _, _, _, _, _, _, _, _, _, _, z9, z10⟩ := hI2
        exact hK _ _ (keepsFrom_below hb) (FwK.below hb z9.size z10) (OwnFrom.alloc (fwI_own (Nat.le_refl _) (Nat.le_refl _)) _ hI) ⟨W.heap.size, by omega, heap_alloc_new W _, rfl⟩
      case body =>
        rintro l pre x a' W hl _ ⟨now, g, cap, h1, h2, h3, h4, h5, h6, h7, h8, h9, h10⟩ ⟨Bx, q1, q2, rfl⟩ hlt
        have hbox := (h4.alloc (.cells #[] 9)).cell
        obtain ⟨i0, hi, hz0, hz1, hz2⟩ := info_parts info9
        have hxm := x.2
        have hgW := h6.lt
        have hg0 : W.heap[0]? = some (.cells #[.int .i64 a977_0] 3 (0, 0)) := (h9.block 0 (Array.getElem?_eq_some_iff.1 X0.out.2).1).trans X0.out.2
        have h0l := (Array.getElem?_eq_some_iff.1 hg0).1
        have hBl := (Array.getElem?_eq_some_iff.1 q2).1
        gi_wp2
        gi_loopw [10, 29] (fun v i wr => ∃ j : Nat, j ≤ now.length ∧ i = .int .i64 j ∧ wr.ownsRow W.heap.size 9 1 v (impl_FirstWords.cat k a977_0 x.1.2 (now.take j)).length ((impl_FirstWords.cat k a977_0 x.1.2 (now.take j)).map Value.string) ∧ v ≠ .slice none 0 0 ∧ Below W.heap.size W wr) (fun _ i _ => now.length - (intOf i).toNat)
        case atStart =>
          refine ⟨0, Nat.zero_le _, rfl, ?_, by simp, (Below.refl _ _).alloc (Nat.le_refl _) _⟩
          exact (H.RowS.own (g := W.heap.size) (cap := 0) (d := []) ⟨#[], heap_alloc_new W _, rfl, Nat.le_refl _, by decide, rfl⟩ (Nat.le_refl _))
        case round =>
          obtain ⟨j, hj, rfl, hown, hne, hbw⟩ := hrel
          by_cases hlt2 : j < now.length
          · have hcs := (h6.below hbw).cell j hlt2
            have qx := (hbw.block Bx hBl).trans q2
            have qx0 : wr.cell? ⟨Bx, 0, none⟩ = some (.int .i8 x.1.2.f0) := by simp only [World.cell?, qx]; rfl
            have qx1 : wr.cell? ⟨Bx, 1, none⟩ = some (.int .u8 x.1.2.f1) := by simp only [World.cell?, qx]; rfl
            have qx2 : wr.cell? ⟨Bx, 2, none⟩ = some (.int .u8 x.1.2.f2) := by simp only [World.cell?, qx]; rfl
            obtain ⟨r, e1, e2, e3⟩ := hT.2.2 x.1.2 hxm now[j] (h2 _ (List.getElem_mem hlt2))
            have hp := impl_Habit_pasts.calls2 k x.1.2.f0 x.1.2.f1 x.1.2.f2 now[j] a977_0 r wr ((hbw.block 0 h0l).trans hg0) e1
            have hcn := cat_next j hlt2 e1
            have hcl := cat_len hT.2 hxm (now.take j) (fun s hs => h2 s (List.mem_of_mem_take hs))
            have htl : (now.take j).length = j := by rw [List.length_take]; omega
            rw [htl] at hcl
            have hcl2 : j * 5000 ≤ 300 * 5000 := Nat.mul_le_mul_right _ (by omega)
            generalize impl_FirstWords.cat k a977_0 x.1.2 (now.take j) = acc at *
            generalize now[j] = s at *
            have hbs : W.heap.size ≤ wr.heap.size := hbw.size
            gi_wp2_with (first
              | (refine ⟨trivial, ?_⟩; gi_at_call 21; refine (CallsIn.inRound l (callsIn_wide.2 hp)).mono ?_; rintro e w3 ⟨g2, cap2, rfl, hg2, hr2, hb3⟩; have hown3 := own_keep hown hb3; have hb3' := hbw.trans (hb3.mono hbs))
              | (gi_at_builtin; refine wpListIn_append_own _ rfl _ _ 25 rfl W.heap.size 9 i0 (.string ⟨#[]⟩) 1 16 Tryd.underlying25 hi hz0 hz1 hz2 rfl (by decide) _ _ _ rfl hown3 ⟨g2, 0, none⟩ r.length cap2 (r.map Value.string) rfl (by simp) (rowS_cells hr2) (one_strings r) (by simp only [maxLen]; omega) (by omega) (Nat.le_trans hbs hb3.size) ?_; intro v' w4 hown4 hgrow hnil; have hb4 := hb3'.grown hgrow (Nat.le_trans hbs hb3.size) (own_ge hown3)))
            go_roundw
            case rel => exact ⟨j + 1, by omega, by simp, by rw [hcn]; simpa using hown4, fun e_ => hne (hnil.1 e_).1, hb4⟩
            case measure => simp [intOf]; omega
          · obtain rfl : j = now.length := by omega
            rw [List.take_length] at hown
            rcases hown.2 with ⟨e0, _⟩ | ⟨gn, cn, cur, hv, hgn, hgc, hrest⟩
            · exact absurd e0 hne
            subst hv
            have hrn := (H.RowS.of_own hown).2.2
            clear hgc hrest
            have hcl := cat_len hT.2 hxm now h2
            have hcl2 : now.length * 5000 ≤ 300 * 5000 := Nat.mul_le_mul_right _ h3
            have hso := H.sort_row hbw hgn hrn (by omega)
            have hgood := impl_FirstWords.step_good hT.2 hxm now h2
            have hfold : ∀ rest, impl_FirstWords.fold k a977_0 (fwV (pre ++ [x]) ++ rest) [a1] = if 300 < (impl_FirstWords.step k a977_0 x.1.2 now).length then ([], 3) else impl_FirstWords.fold k a977_0 rest (impl_FirstWords.step k a977_0 x.1.2 now) := by
              intro rest
              rw [fwV_snoc, List.append_assoc, h1]
              rfl
            gi_wp2_with (first
              | (refine ⟨trivial, ?_⟩; gi_at_call 26; refine (CallsIn.inRound l (callsIn_wide.2 hso)).mono ?_; rintro e w5 ⟨rfl, hb5, hr5⟩; have hco := H.compact_row hb5 hgn hr5; rw [H.sortB_length] at hco)
              | (refine ⟨trivial, ?_⟩; gi_at_call 27; refine (CallsIn.inRound l (callsIn_wide.2 hco)).mono ?_; rintro e w6 ⟨rfl, hb6, hr6⟩; have hx7 : Boxed w6 (g0 + 1) 25 (.slice (some ⟨g, 0, none⟩) now.length cap) := (hb6.block _ h4.lt).trans h4; have hx7c := hx7.cell; have hx7f := hx7.frozen; have hx4 : Boxed w6 w.heap.size 25 (.slice none 0 0) := (hb6.block _ h7.lt).trans h7; have hx4c := hx4.cell; have hx4f := hx4.frozen; have hx5 : Boxed w6 (w.heap.size + 1) 2 (.int .i64 0) := (hb6.block _ h8.lt).trans h8; have hx5c := hx5.cell; have hx5f := hx5.frozen))
            · rename_i hcmp
              have hgt : 300 < (impl_FirstWords.step k a977_0 x.1.2 now).length := by
                unfold impl_FirstWords.step
                omega
              refine ⟨((keepsFrom_below hb6).trans ((KeepsOthers.setCell _ _ _).from _)).trans (((KeepsOthers.setCell _ _ _).from _).trans ((KeepsOthers.setCell _ _ _).from _)), rfl, fun rest => by rw [hfold rest, if_pos hgt], ((hx4.other hn1 _).set _).other hn5 _, ((hx5.other hn2 _).other hn6 _).set _, ?_⟩
              exact (((h9.trans (hb6.mono h9.size)).setCell (p := ⟨g0 + 1, 0, none⟩) (show w.heap.size ≤ g0 + 1 by omega) _).setCell (p := ⟨w.heap.size, 0, none⟩) (Nat.le_refl _) _).setCell (p := ⟨w.heap.size + 1, 0, none⟩) (by simp) _
            · rename_i hcmp
              have hle : ¬ 300 < (impl_FirstWords.step k a977_0 x.1.2 now).length := by
                unfold impl_FirstWords.step
                omega
              have hb7 : Below w.heap.size W w6 := hb6.mono h9.size
              refine ⟨(keepsFrom_below hb6).trans ((KeepsOthers.setCell _ _ _).from _), ⟨hb7.setCell (p := ⟨g0 + 1, 0, none⟩) (show w.heap.size ≤ g0 + 1 by omega) _, ?_⟩, impl_FirstWords.step k a977_0 x.1.2 now, gn, cn, fun rest => by rw [hfold rest, if_neg hle], hgood, by omega, hx7.set _, by have := h9.size; omega, rowS_far hr6 (by omega) _, hx4.other hn1 _, hx5.other hn2 _, (h9.trans hb7).setCell (p := ⟨g0 + 1, 0, none⟩) (show w.heap.size ≤ g0 + 1 by omega) _, ?_⟩
              · exact (Below.heap_setCell w6 ⟨g0 + 1, 0, none⟩ _ (g0 + 1 + 1) (by simp)).trans (hb6.block _ h10)
              · have := hb6.size
                simp
                omega
      case done =>
        rintro D xs W hD hS ⟨now, g, cap, h1, h2, h3', h4, h5, h6, h7, h8, h9, h10⟩ hK
        have hbox := h4.cell
        have h7c := h7.cell
        have h7f := h7.frozen
        have h8c := h8.cell
        have h8f := h8.frozen
        have hfin := h1 []
        rw [hS, List.append_nil, h3] at hfin
        obtain ⟨e1, e2⟩ := Prod.mk.inj hfin
        subst e1; subst e2
        simp only [Exit.inBlock, Exit.then]
        refine hKx _ _ ?_
        go_wp2
        have hk0 := (KeepsOthers.setCell W ⟨w.heap.size, 0, none⟩ (.slice (some ⟨g, 0, none⟩) r1.length cap)).same D _ hK rfl
        have hk1 := (KeepsOthers.setCell _ ⟨w.heap.size + 1, 0, none⟩ (.int .i64 0)).same D _ hk0 rfl
        refine ⟨by simp, .inl ⟨_, _, rfl, run_takeDeferred hk1, ?_⟩⟩
        have hx4' := (boxed_put (((h7.set (.slice (some ⟨g, 0, none⟩) r1.length cap)).other hn5 (.int .i64 0))) hk1 rfl (.deferred none)).cell
        have hx5' := (boxed_put ((h8.other hn6 (.slice (some ⟨g, 0, none⟩) r1.length cap)).set (.int .i64 0)) hk1 rfl (.deferred none)).cell
        have hg4 : g ≠ w.heap.size := by
          intro e
          obtain ⟨cur, e1, _⟩ := h6
          rw [e, show W.heap[w.heap.size]? = _ from h7] at e1
          cases e1
        have hg5 : g ≠ w.heap.size + 1 := by
          intro e
          obtain ⟨cur, e1, _⟩ := h6
          rw [e, show W.heap[w.heap.size + 1]? = _ from h8] at e1
          cases e1
        refine ⟨.tuple #[.slice (some ⟨g, 0, none⟩) r1.length cap, .int .i64 0], ?_, _, rfl, H.R_of_rowS (rowS_put (rowS_far (rowS_far h6 hg4 _) hg5 _) hk1 rfl _) h5, ?_⟩
        · simp [results, Tryd.f14, go_sem, hx4', hx5']
        · exact ((h9.setCell (p := ⟨w.heap.size, 0, none⟩) (Nat.le_refl _) _).setCell (p := ⟨w.heap.size + 1, 0, none⟩) (by simp) _).trans (belowK_b (w := w) (Nat.le_refl _) _ D _ _ (by omega) hk1 rfl rfl)
      case stop =>
        rintro D c' pre W hD ⟨tl, hpre⟩ ⟨rfl, hf, hx4, hx5, hB⟩ hK
        have hfin := hf tl
        rw [hpre, h3] at hfin
        obtain ⟨e1, e2⟩ := Prod.mk.inj hfin
        subst e1; subst e2
        gi_wp2
        refine ⟨by simp, .inl ⟨_, _, rfl, run_takeDeferred hK, ?_⟩⟩
        have hx4' := (boxed_put hx4 hK rfl (.deferred none)).cell
        have hx5' := (boxed_put hx5 hK rfl (.deferred none)).cell
        refine ⟨.tuple #[.slice none 0 0, .int .i64 3], ?_, _, rfl, Kd.R_nil _ _ _ _ _, hB.trans (belowK_b (w := w) (Nat.le_refl _) W D _ _ (by omega) hK rfl rfl)⟩
        simp [results, Tryd.f14, go_sem, hx4', hx5']
    · rw [if_neg hT] at h2; cases h2

/-! ### laws_eqHabit: function 28 -/
def laws_eqHabit.f (a0_0 : Int) (a0_1 : Int) (a0_2 : Int) (a1_0 : Int) (a1_1 : Int) (a1_2 : Int) : Option (Bool) := if a0_0 = a1_0 then (if a0_1 = a1_1 then (if a0_2 = a1_2 then (some true) else (some false)) else (some false)) else (some false)
set_option maxHeartbeats 8000000 in
set_option maxRecDepth 100000 in
theorem laws_eqHabit.calls (a0_0 : Int) (a0_1 : Int) (a0_2 : Int) (a1_0 : Int) (a1_1 : Int) (a1_2 : Int) (r : Bool) (w : World) (h : laws_eqHabit.f a0_0 a0_1 a0_2 a1_0 a1_1 a1_2 = some r) :
    Calls Tryd.prog 28 #[.agg #[.int .i8 a0_0, .int .u8 a0_1, .int .u8 a0_2], .agg #[.int .i8 a1_0, .int .u8 a1_1, .int .u8 a1_2]] w fun e w' => e = .returned (.bool r) ∧ Below w.heap.size w w' := by
 have hu28 := Tryd.underlying28
 have HB := ak (Below.refl w.heap.size w)
 have H : (if a0_0 = a1_0 then (if a0_1 = a1_1 then (if a0_2 = a1_2 then (some true) else (some false)) else (some false)) else (some false)) = some r := h
 clear h
 by_cases c3 : a0_0 = a1_0
 {
 rw [if_pos c3] at H
 have c3b0 : (a0_0 == a1_0) = true := beq_iff_eq.mpr c3
 have c3b1 : (a0_0 != a1_0) = false := bne_eq_false_iff_eq.mpr c3
 clear c3
 by_cases c4 : a0_1 = a1_1
 {
 rw [if_pos c4] at H
 have c4b0 : (a0_1 == a1_1) = true := beq_iff_eq.mpr c4
 have c4b1 : (a0_1 != a1_1) = false := bne_eq_false_iff_eq.mpr c4
 clear c4
 by_cases c5 : a0_2 = a1_2
 {
 rw [if_pos c5] at H
 have c5b0 : (a0_2 == a1_2) = true := beq_iff_eq.mpr c5
 have c5b1 : (a0_2 != a1_2) = false := bne_eq_false_iff_eq.mpr c5
 clear c5
 obtain rfl := Option.some.inj H
 go_enter Tryd.func28, Tryd.ntmps28
 go_wp2_with (first | ((with_reducible refine gate_dst (N := 2) rfl ?_); refine box_event ?hg (N := 2) ?hd (cs := #[.int .i8 a0_0, .int .u8 a0_1, .int .u8 a0_2]) (t := 28) ?hr ?_; (case hd => rfl); (case hg => rfl); (case hr => first | (go_simp; done) | (go_simp; rfl)); intro gb334 hg w6 hbox hb; have n0_ := ak (below_step (zB HB.out) hb); have n1_ := ak (hbox); have n2_ := ak ((by rw [hg]; exact (below_size (zB HB.out)) : w.heap.size ≤ gb334)); have n3_ := ak ((by rw [hg]; exact (below_size (zB HB.out)) : w.heap.size ≤ gb334)); clear HB; have HB := n0_; have BK334 := n1_; have GW334 := n2_; have GE334 := n3_; clear n0_ n1_ n2_ n3_; clear hb hbox hg) | ((with_reducible refine gate_dst (N := 3) rfl ?_); refine box_event ?hg (N := 3) ?hd (cs := #[.int .i8 a1_0, .int .u8 a1_1, .int .u8 a1_2]) (t := 28) ?hr ?_; (case hd => rfl); (case hg => rfl); (case hr => first | (go_simp; done) | (go_simp; rfl)); intro gb335 hg w7 hbox hb; have n0_ := ak (blk_below (g := gb334) (o := .cells #[.int .i8 a0_0, .int .u8 a0_1, .int .u8 a0_2] 28 (0, 0)) (zK BK334.out) hb); have n1_ := ak (below_step (zBG HB.out GE334.out) hb); have n2_ := ak (hbox); have n3_ := ak ((by rw [hg]; exact (below_size (zBG HB.out GE334.out)) : w.heap.size ≤ gb335)); have n4_ := ak ((by rw [hg]; exact (below_size (zBG HB.out GE334.out)) : w.heap.size ≤ gb335)); have n5_ := ak ((by rw [hg]; exact Nat.ne_of_lt (blk_lt (g := gb334) (o := .cells #[.int .i8 a0_0, .int .u8 a0_1, .int .u8 a0_2] 28 (0, 0)) (zK BK334.out)) : gb334 ≠ gb335)); have n6_ := ak ((by rw [hg]; exact Nat.ne_of_gt (blk_lt (g := gb334) (o := .cells #[.int .i8 a0_0, .int .u8 a0_1, .int .u8 a0_2] 28 (0, 0)) (zK BK334.out)) : gb335 ≠ gb334)); clear BK334 HB; have BK334 := n0_; have HB := n1_; have BK335 := n2_; have GW335 := n3_; have GE335 := n4_; have NB334_335 := n5_; have NB335_334 := n6_; clear n0_ n1_ n2_ n3_ n4_ n5_ n6_; clear hb hbox hg; have hnb8 := NB334_335.out; have hnc8 := NB335_334.out; have hcz9_0 : w7.cell? ⟨gb334, 0, none⟩ = some (.int .i8 a0_0) := (blk_cell BK334.out 0).trans rfl; have hcz9_1 : w7.cell? ⟨gb334, 1, none⟩ = some (.int .u8 a0_1) := (blk_cell BK334.out 1).trans rfl; have hcz9_2 : w7.cell? ⟨gb334, 2, none⟩ = some (.int .u8 a0_2) := (blk_cell BK334.out 2).trans rfl; have hfz9_0 := blk_frozen BK334.out 0; have hfz9_1 := blk_frozen BK334.out 1; have hfz9_2 := blk_frozen BK334.out 2; have hcz10_0 : w7.cell? ⟨gb335, 0, none⟩ = some (.int .i8 a1_0) := (blk_cell BK335.out 0).trans rfl; have hcz10_1 : w7.cell? ⟨gb335, 1, none⟩ = some (.int .u8 a1_1) := (blk_cell BK335.out 1).trans rfl; have hcz10_2 : w7.cell? ⟨gb335, 2, none⟩ = some (.int .u8 a1_2) := (blk_cell BK335.out 2).trans rfl; have hfz10_0 := blk_frozen BK335.out 0; have hfz10_1 := blk_frozen BK335.out 1; have hfz10_2 := blk_frozen BK335.out 2))
 go_ret
 exact ⟨by first | rfl | (simp [errW_none, errW_some] <;> rfl) | (simp [*, errW_none, errW_some] <;> rfl), by repeat (first | (with_reducible first | exact HB.out | apply below_alloc | apply pw_below_drewN | apply below_drew1 | refine below_set ?_ GE334.out | refine below_set ?_ GE335.out) | exact HB.out)⟩
 }
 {
 rw [if_neg c5] at H
 have c5b0 : (a0_2 == a1_2) = false := beq_eq_false_iff_ne.mpr c5
 have c5b1 : (a0_2 != a1_2) = true := bne_iff_ne.mpr c5
 obtain rfl := Option.some.inj H
 go_enter Tryd.func28, Tryd.ntmps28
 go_wp2_with (first | ((with_reducible refine gate_dst (N := 2) rfl ?_); refine box_event ?hg (N := 2) ?hd (cs := #[.int .i8 a0_0, .int .u8 a0_1, .int .u8 a0_2]) (t := 28) ?hr ?_; (case hd => rfl); (case hg => rfl); (case hr => first | (go_simp; done) | (go_simp; rfl)); intro gb334 hg w11 hbox hb; have n0_ := ak (below_step (zB HB.out) hb); have n1_ := ak (hbox); have n2_ := ak ((by rw [hg]; exact (below_size (zB HB.out)) : w.heap.size ≤ gb334)); have n3_ := ak ((by rw [hg]; exact (below_size (zB HB.out)) : w.heap.size ≤ gb334)); clear HB; have HB := n0_; have BK334 := n1_; have GW334 := n2_; have GE334 := n3_; clear n0_ n1_ n2_ n3_; clear hb hbox hg) | ((with_reducible refine gate_dst (N := 3) rfl ?_); refine box_event ?hg (N := 3) ?hd (cs := #[.int .i8 a1_0, .int .u8 a1_1, .int .u8 a1_2]) (t := 28) ?hr ?_; (case hd => rfl); (case hg => rfl); (case hr => first | (go_simp; done) | (go_simp; rfl)); intro gb335 hg w12 hbox hb; have n0_ := ak (blk_below (g := gb334) (o := .cells #[.int .i8 a0_0, .int .u8 a0_1, .int .u8 a0_2] 28 (0, 0)) (zK BK334.out) hb); have n1_ := ak (below_step (zBG HB.out GE334.out) hb); have n2_ := ak (hbox); have n3_ := ak ((by rw [hg]; exact (below_size (zBG HB.out GE334.out)) : w.heap.size ≤ gb335)); have n4_ := ak ((by rw [hg]; exact (below_size (zBG HB.out GE334.out)) : w.heap.size ≤ gb335)); have n5_ := ak ((by rw [hg]; exact Nat.ne_of_lt (blk_lt (g := gb334) (o := .cells #[.int .i8 a0_0, .int .u8 a0_1, .int .u8 a0_2] 28 (0, 0)) (zK BK334.out)) : gb334 ≠ gb335)); have n6_ := ak ((by rw [hg]; exact Nat.ne_of_gt (blk_lt (g := gb334) (o := .cells #[.int .i8 a0_0, .int .u8 a0_1, .int .u8 a0_2] 28 (0, 0)) (zK BK334.out)) : gb335 ≠ gb334)); clear BK334 HB; have BK334 := n0_; have HB := n1_; have BK335 := n2_; have GW335 := n3_; have GE335 := n4_; have NB334_335 := n5_; have NB335_334 := n6_; clear n0_ n1_ n2_ n3_ n4_ n5_ n6_; clear hb hbox hg; have hnb13 := NB334_335.out; have hnc13 := NB335_334.out; have hcz14_0 : w12.cell? ⟨gb334, 0, none⟩ = some (.int .i8 a0_0) := (blk_cell BK334.out 0).trans rfl; have hcz14_1 : w12.cell? ⟨gb334, 1, none⟩ = some (.int .u8 a0_1) := (blk_cell BK334.out 1).trans rfl; have hcz14_2 : w12.cell? ⟨gb334, 2, none⟩ = some (.int .u8 a0_2) := (blk_cell BK334.out 2).trans rfl; have hfz14_0 := blk_frozen BK334.out 0; have hfz14_1 := blk_frozen BK334.out 1; have hfz14_2 := blk_frozen BK334.out 2; have hcz15_0 : w12.cell? ⟨gb335, 0, none⟩ = some (.int .i8 a1_0) := (blk_cell BK335.out 0).trans rfl; have hcz15_1 : w12.cell? ⟨gb335, 1, none⟩ = some (.int .u8 a1_1) := (blk_cell BK335.out 1).trans rfl; have hcz15_2 : w12.cell? ⟨gb335, 2, none⟩ = some (.int .u8 a1_2) := (blk_cell BK335.out 2).trans rfl; have hfz15_0 := blk_frozen BK335.out 0; have hfz15_1 := blk_frozen BK335.out 1; have hfz15_2 := blk_frozen BK335.out 2))
 go_ret
 exact ⟨by first | rfl | (simp [errW_none, errW_some] <;> rfl) | (simp [*, errW_none, errW_some] <;> rfl), by repeat (first | (with_reducible first | exact HB.out | apply below_alloc | apply pw_below_drewN | apply below_drew1 | refine below_set ?_ GE334.out | refine below_set ?_ GE335.out) | exact HB.out)⟩
 }
 }
 {
 rw [if_neg c4] at H
 have c4b0 : (a0_1 == a1_1) = false := beq_eq_false_iff_ne.mpr c4
 have c4b1 : (a0_1 != a1_1) = true := bne_iff_ne.mpr c4
 obtain rfl := Option.some.inj H
 go_enter Tryd.func28, Tryd.ntmps28
 go_wp2_with (first | ((with_reducible refine gate_dst (N := 2) rfl ?_); refine box_event ?hg (N := 2) ?hd (cs := #[.int .i8 a0_0, .int .u8 a0_1, .int .u8 a0_2]) (t := 28) ?hr ?_; (case hd => rfl); (case hg => rfl); (case hr => first | (go_simp; done) | (go_simp; rfl)); intro gb334 hg w16 hbox hb; have n0_ := ak (below_step (zB HB.out) hb); have n1_ := ak (hbox); have n2_ := ak ((by rw [hg]; exact (below_size (zB HB.out)) : w.heap.size ≤ gb334)); have n3_ := ak ((by rw [hg]; exact (below_size (zB HB.out)) : w.heap.size ≤ gb334)); clear HB; have HB := n0_; have BK334 := n1_; have GW334 := n2_; have GE334 := n3_; clear n0_ n1_ n2_ n3_; clear hb hbox hg) | ((with_reducible refine gate_dst (N := 3) rfl ?_); refine box_event ?hg (N := 3) ?hd (cs := #[.int .i8 a1_0, .int .u8 a1_1, .int .u8 a1_2]) (t := 28) ?hr ?_; (case hd => rfl); (case hg => rfl); (case hr => first | (go_simp; done) | (go_simp; rfl)); intro gb335 hg w17 hbox hb; have n0_ := ak (blk_below (g := gb334) (o := .cells #[.int .i8 a0_0, .int .u8 a0_1, .int .u8 a0_2] 28 (0, 0)) (zK BK334.out) hb); have n1_ := ak (below_step (zBG HB.out GE334.out) hb); have n2_ := ak (hbox); have n3_ := ak ((by rw [hg]; exact (below_size (zBG HB.out GE334.out)) : w.heap.size ≤ gb335)); have n4_ := ak ((by rw [hg]; exact (below_size (zBG HB.out GE334.out)) : w.heap.size ≤ gb335)); have n5_ := ak ((by rw [hg]; exact Nat.ne_of_lt (blk_lt (g := gb334) (o := .cells #[.int .i8 a0_0, .int .u8 a0_1, .int .u8 a0_2] 28 (0, 0)) (zK BK334.out)) : gb334 ≠ gb335)); have n6_ := ak ((by rw [hg]; exact Nat.ne_of_gt (blk_lt (g := gb334) (o := .cells #[.int .i8 a0_0, .int .u8 a0_1, .int .u8 a0_2] 28 (0, 0)) (zK BK334.out)) : gb335 ≠ gb334)); clear BK334 HB; have BK334 := n0_; have HB := n1_; have BK335 := n2_; have GW335 := n3_; have GE335 := n4_; have NB334_335 := n5_; have NB335_334 := n6_; clear n0_ n1_ n2_ n3_ n4_ n5_ n6_; clear hb hbox hg; have hnb18 := NB334_335.out; have hnc18 := NB335_334.out; have hcz19_0 : w17.cell? ⟨gb334, 0, none⟩ = some (.int .i8 a0_0) := (blk_cell BK334.out 0).trans rfl; have hcz19_1 : w17.cell? ⟨gb334, 1, none⟩ = some (.int .u8 a0_1) := (blk_cell BK334.out 1).trans rfl; have hcz19_2 : w17.cell? ⟨gb334, 2, none⟩ = some (.int .u8 a0_2) := (blk_cell BK334.out 2).trans rfl; have hfz19_0 := blk_frozen BK334.out 0; have hfz19_1 := blk_frozen BK334.out 1; have hfz19_2 := blk_frozen BK334.out 2; have hcz20_0 : w17.cell? ⟨gb335, 0, none⟩ = some (.int .i8 a1_0) := (blk_cell BK335.out 0).trans rfl; have hcz20_1 : w17.cell? ⟨gb335, 1, none⟩ = some (.int .u8 a1_1) := (blk_cell BK335.out 1).trans rfl; have hcz20_2 : w17.cell? ⟨gb335, 2, none⟩ = some (.int .u8 a1_2) := (blk_cell BK335.out 2).trans rfl; have hfz20_0 := blk_frozen BK335.out 0; have hfz20_1 := blk_frozen BK335.out 1; have hfz20_2 := blk_frozen BK335.out 2))
 go_ret
 exact ⟨by first | rfl | (simp [errW_none, errW_some] <;> rfl) | (simp [*, errW_none, errW_some] <;> rfl), by repeat (first | (with_reducible first | exact HB.out | apply below_alloc | apply pw_below_drewN | apply below_drew1 | refine below_set ?_ GE334.out | refine below_set ?_ GE335.out) | exact HB.out)⟩
 }
 }
 {
 rw [if_neg c3] at H
 have c3b0 : (a0_0 == a1_0) = false := beq_eq_false_iff_ne.mpr c3
 have c3b1 : (a0_0 != a1_0) = true := bne_iff_ne.mpr c3
 obtain rfl := Option.some.inj H
 go_enter Tryd.func28, Tryd.ntmps28
 go_wp2_with (first | ((with_reducible refine gate_dst (N := 2) rfl ?_); refine box_event ?hg (N := 2) ?hd (cs := #[.int .i8 a0_0, .int .u8 a0_1, .int .u8 a0_2]) (t := 28) ?hr ?_; (case hd => rfl); (case hg => rfl); (case hr => first | (go_simp; done) | (go_simp; rfl)); intro gb334 hg w21 hbox hb; have n0_ := ak (below_step (zB HB.out) hb); have n1_ := ak (hbox); have n2_ := ak ((by rw [hg]; exact (below_size (zB HB.out)) : w.heap.size ≤ gb334)); have n3_ := ak ((by rw [hg]; exact (below_size (zB HB.out)) : w.heap.size ≤ gb334)); clear HB; have HB := n0_; have BK334 := n1_; have GW334 := n2_; have GE334 := n3_; clear n0_ n1_ n2_ n3_; clear hb hbox hg) | ((with_reducible refine gate_dst (N := 3) rfl ?_); refine box_event ?hg (N := 3) ?hd (cs := #[.int .i8 a1_0, .int .u8 a1_1, .int .u8 a1_2]) (t := 28) ?hr ?_; (case hd => rfl); (case hg => rfl); (case hr => first | (go_simp; done) | (go_simp; rfl)); intro gb335 hg w22 hbox hb; have n0_ := ak (blk_below (g := gb334) (o := .cells #[.int .i8 a0_0, .int .u8 a0_1, .int .u8 a0_2] 28 (0, 0)) (zK BK334.out) hb); have n1_ := ak (below_step (zBG HB.out GE334.out) hb); have n2_ := ak (hbox); have n3_ := ak ((by rw [hg]; exact (below_size (zBG HB.out GE334.out)) : w.heap.size ≤ gb335)); have n4_ := ak ((by rw [hg]; exact (below_size (zBG HB.out GE334.out)) : w.heap.size ≤ gb335)); have n5_ := ak ((by rw [hg]; exact Nat.ne_of_lt (blk_lt (g := gb334) (o := .cells #[.int .i8 a0_0, .int .u8 a0_1, .int .u8 a0_2] 28 (0, 0)) (zK BK334.out)) : gb334 ≠ gb335)); have n6_ := ak ((by rw [hg]; exact Nat.ne_of_gt (blk_lt (g := gb334) (o := .cells #[.int .i8 a0_0, .int .u8 a0_1, .int .u8 a0_2] 28 (0, 0)) (zK BK334.out)) : gb335 ≠ gb334)); clear BK334 HB; have BK334 := n0_; have HB := n1_; have BK335 := n2_; have GW335 := n3_; have GE335 := n4_; have NB334_335 := n5_; have NB335_334 := n6_; clear n0_ n1_ n2_ n3_ n4_ n5_ n6_; clear hb hbox hg; have hnb23 := NB334_335.out; have hnc23 := NB335_334.out; have hcz24_0 : w22.cell? ⟨gb334, 0, none⟩ = some (.int .i8 a0_0) := (blk_cell BK334.out 0).trans rfl; have hcz24_1 : w22.cell? ⟨gb334, 1, none⟩ = some (.int .u8 a0_1) := (blk_cell BK334.out 1).trans rfl; have hcz24_2 : w22.cell? ⟨gb334, 2, none⟩ = some (.int .u8 a0_2) := (blk_cell BK334.out 2).trans rfl; have hfz24_0 := blk_frozen BK334.out 0; have hfz24_1 := blk_frozen BK334.out 1; have hfz24_2 := blk_frozen BK334.out 2; have hcz25_0 : w22.cell? ⟨gb335, 0, none⟩ = some (.int .i8 a1_0) := (blk_cell BK335.out 0).trans rfl; have hcz25_1 : w22.cell? ⟨gb335, 1, none⟩ = some (.int .u8 a1_1) := (blk_cell BK335.out 1).trans rfl; have hcz25_2 : w22.cell? ⟨gb335, 2, none⟩ = some (.int .u8 a1_2) := (blk_cell BK335.out 2).trans rfl; have hfz25_0 := blk_frozen BK335.out 0; have hfz25_1 := blk_frozen BK335.out 1; have hfz25_2 := blk_frozen BK335.out 2))
 go_ret
 exact ⟨by first | rfl | (simp [errW_none, errW_some] <;> rfl) | (simp [*, errW_none, errW_some] <;> rfl), by repeat (first | (with_reducible first | exact HB.out | apply below_alloc | apply pw_below_drewN | apply below_drew1 | refine below_set ?_ GE334.out | refine below_set ?_ GE335.out) | exact HB.out)⟩
 }
/-! ### laws_eqHabitS: function 15 -/
def laws_eqHabitS.l0 : Nat → List (S28) → List (S28) → Int → Option (Bool)
  | 0, _, _, _ => none
  | k + 1, x0, x1, x5 => if x5 < (x0.length : Int) then (if 0 ≤ x5 then (if x5 < (x1.length : Int) then ((laws_eqHabit.f ((rd_T28 x0 x5).f0) ((rd_T28 x0 x5).f1) ((rd_T28 x0 x5).f2) ((rd_T28 x1 x5).f0) ((rd_T28 x1 x5).f1) ((rd_T28 x1 x5).f2)).bind fun t338 => (if t338 = true then (laws_eqHabitS.l0 k x0 x1 (wrap64 (x5 + 1))) else (some false))) else (none)) else (none)) else (some true)
def laws_eqHabitS.f (k : Nat) (l0 : List (S28)) (l1 : List (S28)) : Option (Bool) := if (l0.length : Int) = (l1.length : Int) then (laws_eqHabitS.l0 k l0 l1 0) else (some false)
theorem laws_eqHabitS.mono_l : ∀ k, (∀ y0 y1 y2, LeO (laws_eqHabitS.l0 k y0 y1 y2) (laws_eqHabitS.l0 (k + 1) y0 y1 y2))
  | 0 => fun _ _ _ r h => by simp [laws_eqHabitS.l0] at h
  | k + 1 => by
    have ih0 := laws_eqHabitS.mono_l k
    · intro y0 y1 y2
      unfold laws_eqHabitS.l0
      repeat' first
      | (with_reducible exact ih0 _ _ _)
      | (with_reducible exact LeO.refl _)
      | (with_reducible exact LeO.none _)
      | (with_reducible refine LeO.ite ?_ ?_)
      | (with_reducible refine LeO.bind ?_ (fun _ => ?_))
      | exact ih0 _ _ _
      | exact LeO.none _
      | refine LeO.ite ?_ ?_
      | refine LeO.bind ?_ (fun _ => ?_)
theorem laws_eqHabitS.mono : ∀ a0 a1 k, LeO (laws_eqHabitS.f k a0 a1) (laws_eqHabitS.f (k + 1) a0 a1) := by
  intro a0 a1 k
  have ih0 := laws_eqHabitS.mono_l k
  unfold laws_eqHabitS.f
  repeat' first
      | (with_reducible exact ih0 _ _ _)
      | (with_reducible exact LeO.refl _)
      | (with_reducible exact LeO.none _)
      | (with_reducible refine LeO.ite ?_ ?_)
      | (with_reducible refine LeO.bind ?_ (fun _ => ?_))
      | exact ih0 _ _ _
      | exact LeO.none _
      | refine LeO.ite ?_ ?_
      | refine LeO.bind ?_ (fun _ => ?_)
def laws_eqHabitS.T6 : Bool × List (List Nat × List Nat) := (true, [([], []), ([], []), ([0, 1], [0, 1]), ([2], [2]), ([], []), ([], []), ([4, 5], [4, 5]), ([6], [6]), ([3, 7], [3, 7]), ([8], [8])])
def laws_eqHabitS.B6 : List Nat := [0, 0, 3, 7, 0, 0, 48, 112, 255, 511]
theorem laws_eqHabitS.tab6 : rtab .any (opsOf Tryd.f15 6) = laws_eqHabitS.T6 := by kernel_rfl
theorem laws_eqHabitS.bits6 : waitsOk laws_eqHabitS.T6.2 laws_eqHabitS.B6 = true := by kernel_rfl
set_option maxHeartbeats 8000000 in
set_option maxRecDepth 100000 in
theorem laws_eqHabitS.calls (k : Nat) (A0 : Option Addr) (c0 : Nat) (l0 : List (S28)) (A1 : Option Addr) (c1 : Nat) (l1 : List (S28)) (r : Bool) (w : World) (hr0 : Kd.C k28 w A0 l0.length l0) (hc0 : l0.length ≤ c0) (hr1 : Kd.C k28 w A1 l1.length l1) (hc1 : l1.length ≤ c1) (h : laws_eqHabitS.f k l0 l1 = some r) :
    Calls Tryd.prog 15 #[.slice A0 l0.length c0, .slice A1 l1.length c1] w fun e w' => e = .returned (.bool r) ∧ Below w.heap.size w w' := by
 have hu28 := Tryd.underlying28
 have HR0 := ak hr0
 have HC0 := ak hc0
 clear hr0 hc0
 have HR1 := ak hr1
 have HC1 := ak hc1
 clear hr1 hc1
 have HB := ak (Below.refl w.heap.size w)
 have H : (if (l0.length : Int) = (l1.length : Int) then (laws_eqHabitS.l0 k l0 l1 0) else (some false)) = some r := h
 clear h
 by_cases c3 : (l0.length : Int) = (l1.length : Int)
 {
 rw [if_pos c3] at H
 have c3b0 : ((l0.length : Int) == (l1.length : Int)) = true := beq_iff_eq.mpr c3
 have c3b1 : ((l0.length : Int) != (l1.length : Int)) = false := bne_eq_false_iff_eq.mpr c3
 have c3b2 : (l0.length == l1.length) = true := by first | simpa using c3 | (simp at c3 ⊢; omega)
 clear c3
 have H' := ak H
 clear H
 go_enter Tryd.func15, Tryd.ntmps15
 go_wp2
 go_loopg [5] k (fun kq v5 w' => ∃ (x5_1 : Int), v5 = .int .i64 x5_1 ∧ Aside0 (laws_eqHabitS.l0 kq l0 l1 x5_1 = some r) ∧ Aside0 (kq ≤ k) ∧ Aside0 (Below w.heap.size w w'))
 case atStart => exact ⟨(0), (by first | rfl | (simp; done) | (simp [*]; done)), H', ⟨Nat.le_refl _⟩, ⟨by repeat (first | (with_reducible first | exact HB.out | apply below_alloc | apply pw_below_drewN | apply below_drew1) | exact HB.out)⟩⟩
 case round => (
 clear H'
 try clear c1
 try clear p2
 try clear c3
 try clear c3b0
 try clear c3b1
 try clear c3b2
 obtain ⟨x5_1, rfl, HA, HK1, HB⟩ := hrel
 cases gk with
 | zero => exact absurd HA.out (by simp [laws_eqHabitS.l0])
 | succ k1 => (
 have H := HA.out
 clear HA
 simp only [laws_eqHabitS.l0] at H
 by_cases c4 : x5_1 < (l0.length : Int)
 {
 rw [if_pos c4] at H
 have c4b0 : decide (x5_1 < (l0.length : Int)) = true := decide_eq_true c4
 clear c4
 by_cases c5 : 0 ≤ x5_1
 {
 rw [if_pos c5] at H
 have c5b0 : decide (0 ≤ x5_1) = true := decide_eq_true c5
 clear c5
 by_cases c6 : x5_1 < (l1.length : Int)
 {
 rw [if_pos c6] at H
 have c6b0 : decide (x5_1 < (l1.length : Int)) = true := decide_eq_true c6
 clear c6
 replace H := Option.bind_eq_some_iff.mp H
 obtain ⟨t338, A70, H⟩ := H
 replace H : (if t338 = true then (laws_eqHabitS.l0 k1 l0 l1 (wrap64 (x5_1 + 1))) else (some false)) = some r := H
 have A7 := ak A70
 clear A70
 by_cases c8 : t338 = true
 {
 subst c8
 have H1 : (laws_eqHabitS.l0 k1 l0 l1 (wrap64 (x5_1 + 1))) = some r := by rw [if_pos rfl] at H; exact H
 clear H
 have H := H1
 clear H1
 have H' := ak H
 clear H
 try go_wp2
 have n0_ := ak (below_drew1 HB.out)
 clear HB
 have HB := n0_
 clear n0_
 have p336 : 0 ≤ (x5_1 : Int) := of_decide_eq_true (by first | (with_reducible assumption) | assumption)
 have q336 : x5_1 < (l0.length : Int) := of_decide_eq_true (by first | (with_reducible assumption) | assumption)
 obtain ⟨ad336, e336, hx336_0, hx336_1, hx336_2⟩ := at_T28 HR0.out x5_1 p336 q336
 have hw336_2 := hx336_2
 have hw336_1 := hx336_1
 have hw336_0 := hx336_0
 cases e336
 replace hx336_0 := (HB.out.cell (World.block_lt_of_cell? w _ hx336_0)).trans hx336_0
 replace hx336_1 := (HB.out.cell (World.block_lt_of_cell? w _ hx336_1)).trans hx336_1
 replace hx336_2 := (HB.out.cell (World.block_lt_of_cell? w _ hx336_2)).trans hx336_2
 replace p336 := eq_true p336
 replace q336 := eq_true q336
 have p337 : 0 ≤ (x5_1 : Int) := of_decide_eq_true (by first | (with_reducible assumption) | assumption)
 have q337 : x5_1 < (l1.length : Int) := of_decide_eq_true (by first | (with_reducible assumption) | assumption)
 obtain ⟨ad337, e337, hx337_0, hx337_1, hx337_2⟩ := at_T28 HR1.out x5_1 p337 q337
 have hw337_2 := hx337_2
 have hw337_1 := hx337_1
 have hw337_0 := hx337_0
 cases e337
 replace hx337_0 := (HB.out.cell (World.block_lt_of_cell? w _ hx337_0)).trans hx337_0
 replace hx337_1 := (HB.out.cell (World.block_lt_of_cell? w _ hx337_1)).trans hx337_1
 replace hx337_2 := (HB.out.cell (World.block_lt_of_cell? w _ hx337_2)).trans hx337_2
 replace p337 := eq_true p337
 replace q337 := eq_true q337
 refine start_ (n := 10) (S := fun w' => w'.cell? (ad336.add ((x5_1).toNat * 3)) = some (.int .i8 ((rd_T28 l0 x5_1).f0)) ∧ w'.cell? ⟨(ad336.add ((x5_1).toNat * 3)).block, (ad336.add ((x5_1).toNat * 3)).off + 1, none⟩ = some (.int .u8 ((rd_T28 l0 x5_1).f1)) ∧ w'.cell? ⟨(ad336.add ((x5_1).toNat * 3)).block, (ad336.add ((x5_1).toNat * 3)).off + 2, none⟩ = some (.int .u8 ((rd_T28 l0 x5_1).f2)) ∧ w'.cell? (ad337.add ((x5_1).toNat * 3)) = some (.int .i8 ((rd_T28 l1 x5_1).f0)) ∧ w'.cell? ⟨(ad337.add ((x5_1).toNat * 3)).block, (ad337.add ((x5_1).toNat * 3)).off + 1, none⟩ = some (.int .u8 ((rd_T28 l1 x5_1).f1)) ∧ w'.cell? ⟨(ad337.add ((x5_1).toNat * 3)).block, (ad337.add ((x5_1).toNat * 3)).off + 2, none⟩ = some (.int .u8 ((rd_T28 l1 x5_1).f2))) (ds := []) #[false, false, false, false, false, false, false, false, false, false] (by kernel_rfl) rfl rfl ⟨((HB.out.cell (World.block_lt_of_cell? w _ hw336_0)).trans hw336_0), ((HB.out.cell (World.block_lt_of_cell? w _ hw336_1)).trans hw336_1), ((HB.out.cell (World.block_lt_of_cell? w _ hw336_2)).trans hw336_2), ((HB.out.cell (World.block_lt_of_cell? w _ hw337_0)).trans hw337_0), ((HB.out.cell (World.block_lt_of_cell? w _ hw337_1)).trans hw337_1), ((HB.out.cell (World.block_lt_of_cell? w _ hw337_2)).trans hw337_2)⟩ (fun hHeld => ?_); refine with_tabW laws_eqHabitS.tab6 laws_eqHabitS.bits6 (fun HT_ HW_ => ?_)
 generalize wr.drew = w9 at HB hx336_0 hx336_1 hx336_2 hx337_0 hx337_1 hx337_2 hHeld ⊢
 refine pure_ (i := 0) (N := some 17) (v := ?_) (a' := ?_) #[true, false, false, false, false, false, false, false, false, false] rfl rfl (any_of HT_.out (by kernel_rfl)) (fun _ _ _ h => h) (Or.inl ⟨by rfl, ?_⟩) ?_ ?_
 rotate_left
 {
 intro w'
 go_simp
 with_reducible rfl
 }
 rotate_left
 · simp only [Act.put, zs, zz, zk, i64_w, i32_w]; rfl
 refine pure_ (i := 1) (N := some 18) (v := ?_) (a' := ?_) #[true, true, false, false, false, false, false, false, false, false] rfl rfl (any_of HT_.out (by kernel_rfl)) (fun _ _ _ h => h) (Or.inl ⟨by rfl, ?_⟩) ?_ ?_
 rotate_left
 {
 intro w'
 go_simp
 with_reducible rfl
 }
 rotate_left
 · simp only [Act.put, zs, zz, zk, i64_w, i32_w]; rfl
 refine pure_ (i := 2) (N := some 19) (v := ?_) (a' := ?_) #[true, true, true, false, false, false, false, false, false, false] rfl rfl (any_of HT_.out (by kernel_rfl)) (fun _ _ _ h => h) (Or.inl ⟨by rfl, ?_⟩) ?_ ?_
 rotate_left
 {
 intro w'
 go_simp
 with_reducible rfl
 }
 rotate_left
 · simp only [Act.put, zs, zz, zk, i64_w, i32_w]; rfl
 refine pure_ (i := 4) (N := some 21) (v := ?_) (a' := ?_) #[true, true, true, false, true, false, false, false, false, false] rfl rfl (any_of HT_.out (by kernel_rfl)) (fun _ _ _ h => h) (Or.inl ⟨by rfl, ?_⟩) ?_ ?_
 rotate_left
 {
 intro w'
 go_simp
 with_reducible rfl
 }
 rotate_left
 · simp only [Act.put, zs, zz, zk, i64_w, i32_w]; rfl
 refine pure_ (i := 5) (N := some 22) (v := ?_) (a' := ?_) #[true, true, true, false, true, true, false, false, false, false] rfl rfl (any_of HT_.out (by kernel_rfl)) (fun _ _ _ h => h) (Or.inl ⟨by rfl, ?_⟩) ?_ ?_
 rotate_left
 {
 intro w'
 go_simp
 with_reducible rfl
 }
 rotate_left
 · simp only [Act.put, zs, zz, zk, i64_w, i32_w]; rfl
 refine pure_ (i := 6) (N := some 23) (v := ?_) (a' := ?_) #[true, true, true, false, true, true, true, false, false, false] rfl rfl (any_of HT_.out (by kernel_rfl)) (fun _ _ _ h => h) (Or.inl ⟨by rfl, ?_⟩) ?_ ?_
 rotate_left
 {
 intro w'
 go_simp
 with_reducible rfl
 }
 rotate_left
 · simp only [Act.put, zs, zz, zk, i64_w, i32_w]; rfl
 refine take_ (i := 3) (N := some 20) (v := ?_) (a' := ?_) #[true, true, true, true, true, true, true, false, false, false] rfl rfl (take_ofW HT_.out HW_.out (by kernel_rfl)) (fun _ _ _ h => h) (Or.inl ⟨by rfl, ?_⟩) hHeld ?_ ?_
 rotate_left
 {
 rintro w' ⟨s0, s1, s2, s3, s4, s5⟩
 go_simp
 with_reducible rfl
 }
 rotate_left
 · simp only [Act.put, zs, zz, zk, i64_w, i32_w]; rfl
 refine take_ (i := 7) (N := some 24) (v := ?_) (a' := ?_) #[true, true, true, true, true, true, true, true, false, false] rfl rfl (take_ofW HT_.out HW_.out (by kernel_rfl)) (fun _ _ _ h => h) (Or.inl ⟨by rfl, ?_⟩) hHeld ?_ ?_
 rotate_left
 {
 rintro w' ⟨s0, s1, s2, s3, s4, s5⟩
 go_simp
 with_reducible rfl
 }
 rotate_left
 · simp only [Act.put, zs, zz, zk, i64_w, i32_w]; rfl
 refine one_ (i := 8) (N := some 25) #[true, true, true, true, true, true, true, true, true, false] rfl rfl (one_of HT_.out (by kernel_rfl)) (by decide) (fun K hK => ?_)
 refine goes_ Tryd.func28 (by kernel_rfl) rfl #[.agg #[.int .i8 ((rd_T28 l0 x5_1).f0), .int .u8 ((rd_T28 l0 x5_1).f1), .int .u8 ((rd_T28 l0 x5_1).f2)], .agg #[.int .i8 ((rd_T28 l1 x5_1).f0), .int .u8 ((rd_T28 l1 x5_1).f1), .int .u8 ((rd_T28 l1 x5_1).f2)]] (by rfl) rfl rfl (by (try simp only [List.map_toArray, List.map_cons, List.map_nil]); first | done | rfl | (simp only [List.length_drop, List.length_take]; rfl)) ?_
 with_reducible refine (laws_eqHabit.calls ((rd_T28 l0 x5_1).f0) ((rd_T28 l0 x5_1).f1) ((rd_T28 l0 x5_1).f2) ((rd_T28 l1 x5_1).f0) ((rd_T28 l1 x5_1).f1) ((rd_T28 l1 x5_1).f2) true _ A7.out).mono ?_
 rintro e w10 ⟨rfl, hb⟩
 refine ⟨_, rfl, ?_⟩
 have n0_ := ak (below_step (zB HB.out) hb)
 clear HB
 have HB := n0_
 clear n0_
 (try clear hb)
 (try clear hb2)
 (try clear hk)
 (try clear hi)
 refine hK.out _ _ ⟨((HB.out.cell (World.block_lt_of_cell? w _ hw336_0)).trans hw336_0), ((HB.out.cell (World.block_lt_of_cell? w _ hw336_1)).trans hw336_1), ((HB.out.cell (World.block_lt_of_cell? w _ hw336_2)).trans hw336_2), ((HB.out.cell (World.block_lt_of_cell? w _ hw337_0)).trans hw337_0), ((HB.out.cell (World.block_lt_of_cell? w _ hw337_1)).trans hw337_1), ((HB.out.cell (World.block_lt_of_cell? w _ hw337_2)).trans hw337_2)⟩ (fun hHeld => ?_)
 clear hK K
 refine norm_ (a' := ?_) ?_ ?_
 rotate_left
 {
 show Act.put _ (some 25) _ = _
 simp only [Act.put, zs, zz, zk, i64_w, i32_w]
 rfl
 }
 refine pure_ (i := 9) (N := some 26) (v := ?_) (a' := ?_) #[true, true, true, true, true, true, true, true, true, true] rfl rfl (any_of HT_.out (by kernel_rfl)) (fun _ _ _ h => h) (Or.inl ⟨by rfl, ?_⟩) ?_ ?_
 rotate_left
 {
 intro w'
 go_simp
 with_reducible rfl
 }
 rotate_left
 · simp only [Act.put, zs, zz, zk, i64_w, i32_w]; rfl
 refine done_ (done_of HT_.out (by kernel_rfl)) ?_
 try go_wp2
 go_roundg k1
 case measure => have := HK1.out; omega
 case rel => exact ⟨(wrap64 (x5_1 + 1)), (by first | rfl | (simp; done) | (simp [*]; done)), H', ⟨by have := HK1.out; omega⟩, ⟨by repeat (first | (with_reducible first | exact HB.out | apply below_alloc | apply pw_below_drewN | apply below_drew1) | exact HB.out)⟩⟩
 }
 {
 replace c8 := Bool.eq_false_iff.mpr c8
 subst c8
 have H1 : (some false) = some r := by rw [if_neg (show ¬ (false = true) by decide)] at H; exact H
 clear H
 have H := H1
 clear H1
 obtain rfl := Option.some.inj H
 try go_wp2
 have n0_ := ak (below_drew1 HB.out)
 clear HB
 have HB := n0_
 clear n0_
 have p336 : 0 ≤ (x5_1 : Int) := of_decide_eq_true (by first | (with_reducible assumption) | assumption)
 have q336 : x5_1 < (l0.length : Int) := of_decide_eq_true (by first | (with_reducible assumption) | assumption)
 obtain ⟨ad336, e336, hx336_0, hx336_1, hx336_2⟩ := at_T28 HR0.out x5_1 p336 q336
 have hw336_2 := hx336_2
 have hw336_1 := hx336_1
 have hw336_0 := hx336_0
 cases e336
 replace hx336_0 := (HB.out.cell (World.block_lt_of_cell? w _ hx336_0)).trans hx336_0
 replace hx336_1 := (HB.out.cell (World.block_lt_of_cell? w _ hx336_1)).trans hx336_1
 replace hx336_2 := (HB.out.cell (World.block_lt_of_cell? w _ hx336_2)).trans hx336_2
 replace p336 := eq_true p336
 replace q336 := eq_true q336
 have p337 : 0 ≤ (x5_1 : Int) := of_decide_eq_true (by first | (with_reducible assumption) | assumption)
 have q337 : x5_1 < (l1.length : Int) := of_decide_eq_true (by first | (with_reducible assumption) | assumption)
 obtain ⟨ad337, e337, hx337_0, hx337_1, hx337_2⟩ := at_T28 HR1.out x5_1 p337 q337
 have hw337_2 := hx337_2
 have hw337_1 := hx337_1
 have hw337_0 := hx337_0
 cases e337
 replace hx337_0 := (HB.out.cell (World.block_lt_of_cell? w _ hx337_0)).trans hx337_0
 replace hx337_1 := (HB.out.cell (World.block_lt_of_cell? w _ hx337_1)).trans hx337_1
 replace hx337_2 := (HB.out.cell (World.block_lt_of_cell? w _ hx337_2)).trans hx337_2
 replace p337 := eq_true p337
 replace q337 := eq_true q337
 refine start_ (n := 10) (S := fun w' => w'.cell? (ad336.add ((x5_1).toNat * 3)) = some (.int .i8 ((rd_T28 l0 x5_1).f0)) ∧ w'.cell? ⟨(ad336.add ((x5_1).toNat * 3)).block, (ad336.add ((x5_1).toNat * 3)).off + 1, none⟩ = some (.int .u8 ((rd_T28 l0 x5_1).f1)) ∧ w'.cell? ⟨(ad336.add ((x5_1).toNat * 3)).block, (ad336.add ((x5_1).toNat * 3)).off + 2, none⟩ = some (.int .u8 ((rd_T28 l0 x5_1).f2)) ∧ w'.cell? (ad337.add ((x5_1).toNat * 3)) = some (.int .i8 ((rd_T28 l1 x5_1).f0)) ∧ w'.cell? ⟨(ad337.add ((x5_1).toNat * 3)).block, (ad337.add ((x5_1).toNat * 3)).off + 1, none⟩ = some (.int .u8 ((rd_T28 l1 x5_1).f1)) ∧ w'.cell? ⟨(ad337.add ((x5_1).toNat * 3)).block, (ad337.add ((x5_1).toNat * 3)).off + 2, none⟩ = some (.int .u8 ((rd_T28 l1 x5_1).f2))) (ds := []) #[false, false, false, false, false, false, false, false, false, false] (by kernel_rfl) rfl rfl ⟨((HB.out.cell (World.block_lt_of_cell? w _ hw336_0)).trans hw336_0), ((HB.out.cell (World.block_lt_of_cell? w _ hw336_1)).trans hw336_1), ((HB.out.cell (World.block_lt_of_cell? w _ hw336_2)).trans hw336_2), ((HB.out.cell (World.block_lt_of_cell? w _ hw337_0)).trans hw337_0), ((HB.out.cell (World.block_lt_of_cell? w _ hw337_1)).trans hw337_1), ((HB.out.cell (World.block_lt_of_cell? w _ hw337_2)).trans hw337_2)⟩ (fun hHeld => ?_); refine with_tabW laws_eqHabitS.tab6 laws_eqHabitS.bits6 (fun HT_ HW_ => ?_)
 generalize wr.drew = w11 at HB hx336_0 hx336_1 hx336_2 hx337_0 hx337_1 hx337_2 hHeld ⊢
 refine pure_ (i := 0) (N := some 17) (v := ?_) (a' := ?_) #[true, false, false, false, false, false, false, false, false, false] rfl rfl (any_of HT_.out (by kernel_rfl)) (fun _ _ _ h => h) (Or.inl ⟨by rfl, ?_⟩) ?_ ?_
 rotate_left
 {
 intro w'
 go_simp
 with_reducible rfl
 }
 rotate_left
 · simp only [Act.put, zs, zz, zk, i64_w, i32_w]; rfl
 refine pure_ (i := 1) (N := some 18) (v := ?_) (a' := ?_) #[true, true, false, false, false, false, false, false, false, false] rfl rfl (any_of HT_.out (by kernel_rfl)) (fun _ _ _ h => h) (Or.inl ⟨by rfl, ?_⟩) ?_ ?_
 rotate_left
 {
 intro w'
 go_simp
 with_reducible rfl
 }
 rotate_left
 · simp only [Act.put, zs, zz, zk, i64_w, i32_w]; rfl
 refine pure_ (i := 2) (N := some 19) (v := ?_) (a' := ?_) #[true, true, true, false, false, false, false, false, false, false] rfl rfl (any_of HT_.out (by kernel_rfl)) (fun _ _ _ h => h) (Or.inl ⟨by rfl, ?_⟩) ?_ ?_
 rotate_left
 {
 intro w'
 go_simp
 with_reducible rfl
 }
 rotate_left
 · simp only [Act.put, zs, zz, zk, i64_w, i32_w]; rfl
 refine pure_ (i := 4) (N := some 21) (v := ?_) (a' := ?_) #[true, true, true, false, true, false, false, false, false, false] rfl rfl (any_of HT_.out (by kernel_rfl)) (fun _ _ _ h => h) (Or.inl ⟨by rfl, ?_⟩) ?_ ?_
 rotate_left
 {
 intro w'
 go_simp
 with_reducible rfl
 }
 rotate_left
 · simp only [Act.put, zs, zz, zk, i64_w, i32_w]; rfl
 refine pure_ (i := 5) (N := some 22) (v := ?_) (a' := ?_) #[true, true, true, false, true, true, false, false, false, false] rfl rfl (any_of HT_.out (by kernel_rfl)) (fun _ _ _ h => h) (Or.inl ⟨by rfl, ?_⟩) ?_ ?_
 rotate_left
 {
 intro w'
 go_simp
 with_reducible rfl
 }
 rotate_left
 · simp only [Act.put, zs, zz, zk, i64_w, i32_w]; rfl
 refine pure_ (i := 6) (N := some 23) (v := ?_) (a' := ?_) #[true, true, true, false, true, true, true, false, false, false] rfl rfl (any_of HT_.out (by kernel_rfl)) (fun _ _ _ h => h) (Or.inl ⟨by rfl, ?_⟩) ?_ ?_
 rotate_left
 {
 intro w'
 go_simp
 with_reducible rfl
 }
 rotate_left
 · simp only [Act.put, zs, zz, zk, i64_w, i32_w]; rfl
 refine take_ (i := 3) (N := some 20) (v := ?_) (a' := ?_) #[true, true, true, true, true, true, true, false, false, false] rfl rfl (take_ofW HT_.out HW_.out (by kernel_rfl)) (fun _ _ _ h => h) (Or.inl ⟨by rfl, ?_⟩) hHeld ?_ ?_
 rotate_left
 {
 rintro w' ⟨s0, s1, s2, s3, s4, s5⟩
 go_simp
 with_reducible rfl
 }
 rotate_left
 · simp only [Act.put, zs, zz, zk, i64_w, i32_w]; rfl
 refine take_ (i := 7) (N := some 24) (v := ?_) (a' := ?_) #[true, true, true, true, true, true, true, true, false, false] rfl rfl (take_ofW HT_.out HW_.out (by kernel_rfl)) (fun _ _ _ h => h) (Or.inl ⟨by rfl, ?_⟩) hHeld ?_ ?_
 rotate_left
 {
 rintro w' ⟨s0, s1, s2, s3, s4, s5⟩
 go_simp
 with_reducible rfl
 }
 rotate_left
 · simp only [Act.put, zs, zz, zk, i64_w, i32_w]; rfl
 refine one_ (i := 8) (N := some 25) #[true, true, true, true, true, true, true, true, true, false] rfl rfl (one_of HT_.out (by kernel_rfl)) (by decide) (fun K hK => ?_)
 refine goes_ Tryd.func28 (by kernel_rfl) rfl #[.agg #[.int .i8 ((rd_T28 l0 x5_1).f0), .int .u8 ((rd_T28 l0 x5_1).f1), .int .u8 ((rd_T28 l0 x5_1).f2)], .agg #[.int .i8 ((rd_T28 l1 x5_1).f0), .int .u8 ((rd_T28 l1 x5_1).f1), .int .u8 ((rd_T28 l1 x5_1).f2)]] (by rfl) rfl rfl (by (try simp only [List.map_toArray, List.map_cons, List.map_nil]); first | done | rfl | (simp only [List.length_drop, List.length_take]; rfl)) ?_
 with_reducible refine (laws_eqHabit.calls ((rd_T28 l0 x5_1).f0) ((rd_T28 l0 x5_1).f1) ((rd_T28 l0 x5_1).f2) ((rd_T28 l1 x5_1).f0) ((rd_T28 l1 x5_1).f1) ((rd_T28 l1 x5_1).f2) false _ A7.out).mono ?_
 rintro e w12 ⟨rfl, hb⟩
 refine ⟨_, rfl, ?_⟩
 have n0_ := ak (below_step (zB HB.out) hb)
 clear HB
 have HB := n0_
 clear n0_
 (try clear hb)
 (try clear hb2)
 (try clear hk)
 (try clear hi)
 refine hK.out _ _ ⟨((HB.out.cell (World.block_lt_of_cell? w _ hw336_0)).trans hw336_0), ((HB.out.cell (World.block_lt_of_cell? w _ hw336_1)).trans hw336_1), ((HB.out.cell (World.block_lt_of_cell? w _ hw336_2)).trans hw336_2), ((HB.out.cell (World.block_lt_of_cell? w _ hw337_0)).trans hw337_0), ((HB.out.cell (World.block_lt_of_cell? w _ hw337_1)).trans hw337_1), ((HB.out.cell (World.block_lt_of_cell? w _ hw337_2)).trans hw337_2)⟩ (fun hHeld => ?_)
 clear hK K
 refine norm_ (a' := ?_) ?_ ?_
 rotate_left
 {
 show Act.put _ (some 25) _ = _
 simp only [Act.put, zs, zz, zk, i64_w, i32_w]
 rfl
 }
 refine pure_ (i := 9) (N := some 26) (v := ?_) (a' := ?_) #[true, true, true, true, true, true, true, true, true, true] rfl rfl (any_of HT_.out (by kernel_rfl)) (fun _ _ _ h => h) (Or.inl ⟨by rfl, ?_⟩) ?_ ?_
 rotate_left
 {
 intro w'
 go_simp
 with_reducible rfl
 }
 rotate_left
 · simp only [Act.put, zs, zz, zk, i64_w, i32_w]; rfl
 refine done_ (done_of HT_.out (by kernel_rfl)) ?_
 try go_wp2
 go_ret
 exact ⟨by first | rfl | (simp [errW_none, errW_some] <;> rfl) | (simp [*, errW_none, errW_some] <;> rfl), by repeat (first | (with_reducible first | exact HB.out | apply below_alloc | apply pw_below_drewN | apply below_drew1) | exact HB.out)⟩
 }
 }
 · rw [if_neg c6] at H; exact absurd H (by simp)
 }
 · rw [if_neg c5] at H; exact absurd H (by simp)
 }
 {
 rw [if_neg c4] at H
 have c4b0 : decide (x5_1 < (l0.length : Int)) = false := decide_eq_false c4
 clear c4
 obtain rfl := Option.some.inj H
 go_wp2
 go_ret
 exact ⟨by first | rfl | (simp [errW_none, errW_some] <;> rfl) | (simp [*, errW_none, errW_some] <;> rfl), by repeat (first | (with_reducible first | exact HB.out | apply below_alloc | apply pw_below_drewN | apply below_drew1) | exact HB.out)⟩
 }
 )
 )
 }
 {
 rw [if_neg c3] at H
 have c3b0 : ((l0.length : Int) == (l1.length : Int)) = false := beq_eq_false_iff_ne.mpr c3
 have c3b1 : ((l0.length : Int) != (l1.length : Int)) = true := bne_iff_ne.mpr c3
 have c3b2 : (l0.length == l1.length) = false := by first | simpa using c3 | (simp at c3 ⊢; omega)
 obtain rfl := Option.some.inj H
 go_enter Tryd.func15, Tryd.ntmps15
 go_wp2
 go_ret
 exact ⟨by first | rfl | (simp [errW_none, errW_some] <;> rfl) | (simp [*, errW_none, errW_some] <;> rfl), by repeat (first | (with_reducible first | exact HB.out | apply below_alloc | apply pw_below_drewN | apply below_drew1) | exact HB.out)⟩
 }
end Go.Proofs.YtgnnpgallnafcaaDoor.P
