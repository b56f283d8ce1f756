-- Mine: walks of functions that the print does not reach.
import Derived.Test.YtkdloidojmccgaaProg
import Derived.Test.YtkdloidojmccgaaWWords
import Derived.Test.YtkdloidojmccgaaWLast
import Derived.Test.YtkdloidojmccgaaWMore
import Derived.Sort.WalkB12
import Derived.Lib.SlicesMore
import Derived.Lib.OwnBridge
import Derived.WalkKit
import Derived.Deep.LoopGhost
import Derived.Deep.RegionLaw
import Derived.Lib.LazyBuf
import Derived.Laws.IdiomCopy
import Derived.Shelf.GgSortFunc.RowK
import Derived.Lib.ConvBytes
import Derived.Laws.BytesArg
import Derived.Tactics
import Derived.KernelRfl
import Derived.BigQuiet
import Derived.WalkSpells
import Derived.Lib.SliceRun
import Derived.StillTailTactics
namespace Go.Proofs.Ytkdloidojmccgaa.H
open Go.RowKit Go.Sort Go.Proofs.YtkdloidojmccgaaW.PrintWords Go.Proofs.YtkdloidojmccgaaW.PrintLast
set_option linter.unusedVariables false
set_option linter.unusedSimpArgs false
theorem vote_setCell_at (w : World) (g o : Nat) (v : Value) (e : TypeId) (cur : Array Value) (h : w.heap[g]? = some (.cells cur e (0, 0))) : (w.setCell ⟨g, o, none⟩ v).heap[g]? = some (.cells (cur.setIfInBounds o v) e (0, 0)) := by
  simp [World.setCell, Array.getElem?_modify, h]
/-- Block g holds 26 numbers f. -/
def CntAt (g : Nat) (f : Nat → Int) (w : World) : Prop := ∃ cur : Array Value, w.heap[g]? = some (.cells cur 48 (0, 0)) ∧ cur.size = 26 ∧ ∀ j, j < 26 → cur[j]? = some (.int .i64 (f j))
theorem CntAt.cell {g : Nat} {f : Nat → Int} {w : World} (h : CntAt g f w) (j : Nat) (hj : j < 26) : w.cell? ⟨g, j, none⟩ = some (.int .i64 (f j)) := by
  obtain ⟨cur, hg, hs, hc⟩ := h
  simp only [World.cell?, hg]
  exact hc j hj
theorem CntAt.fz {g : Nat} {f : Nat → Int} {w : World} (h : CntAt g f w) (j : Nat) : w.frozen? ⟨g, j, none⟩ = false := by
  obtain ⟨cur, hg, hs, hc⟩ := h
  simp [World.frozen?, hg]
theorem CntAt.put {g : Nat} {f f' : Nat → Int} {w : World} (h : CntAt g f w) (j : Nat) (v : Int) (hj : j < 26) (hv : f' j = v) (ho : ∀ i, i ≠ j → f' i = f i) : CntAt g f' (w.setCell ⟨g, j, none⟩ (.int .i64 v)) := by
  obtain ⟨cur, hg, hs, hc⟩ := h
  refine ⟨_, vote_setCell_at w g j _ _ cur hg, by simp [hs], fun i hi => ?_⟩
  rw [Array.getElem?_setIfInBounds]
  by_cases e : j = i
  · subst e
    rw [if_pos rfl, if_pos (by omega), hv]
  · rw [if_neg e, ho i (fun z => e z.symm)]
    exact hc i hi
theorem CntAt.of_heap {g : Nat} {f : Nat → Int} {w w' : World} (h : CntAt g f w) (e : w'.heap[g]? = w.heap[g]?) : CntAt g f w' := by
  obtain ⟨cur, hg, hs, hc⟩ := h
  exact ⟨cur, e.trans hg, hs, hc⟩
theorem CntAt.reads {g : Nat} {f : Nat → Int} {w : World} (h : CntAt g f w) : Kd.C (Kd.int .i64) w (some ⟨g, 0, none⟩) ((List.range 26).map f).length ((List.range 26).map f) := by
  refine ⟨rfl, by simp, fun _ => ⟨⟨g, 0, none⟩, rfl, fun j p hp => ?_⟩⟩
  have hj : j < 26 := by
    have := (List.getElem?_eq_some_iff.1 hp).1
    simpa using this
  refine ⟨[.int .i64 p], rfl, rfl, fun i u hu => ?_⟩
  rw [List.getElem?_map, List.getElem?_range hj] at hp
  have hp' : f j = p := by simpa using hp
  match i, hu with
  | 0, hu =>
    rw [add_plain]
    have e := h.cell j hj
    rw [hp'] at e
    have : u = .int .i64 p := by simpa using hu.symm
    rw [this]
    have hz : j * (Kd.int .i64).sz + 0 = j := by show j * 1 + 0 = j; omega
    rw [hz]
    exact e
  | i + 1, hu => simp at hu
def cntV (ws : List ByteArray) (i : Nat) (c : Nat) : Int := ((ws.countP (fun w => bt w (i : Int) == 97 + (c : Int)) : Nat) : Int)
theorem cntV_step (ws : List ByteArray) (i j c : Nat) (hj : j < ws.length) : cntV (ws.take (j + 1)) i c = cntV (ws.take j) i c + (if bt (rdOf ByteArray.empty ws (j : Int)) (i : Int) = 97 + (c : Int) then 1 else 0) := by
  unfold cntV
  have e : ws.take (j + 1) = ws.take j ++ [rdOf ByteArray.empty ws (j : Int)] := by
    rw [List.take_succ_eq_append_getElem hj]
    congr 2
    simp [rdOf, List.getD_eq_getElem?_getD, List.getElem?_eq_getElem hj]
  rw [e, List.countP_append]
  by_cases h : bt (rdOf ByteArray.empty ws (j : Int)) (i : Int) = 97 + (c : Int)
  · rw [if_pos h]; simp [h]
  · rw [if_neg h]; simp [h]
theorem cntV_nonneg (ws : List ByteArray) (i c : Nat) : 0 ≤ cntV ws i c := Int.natCast_nonneg _
theorem cntV_le (ws : List ByteArray) (i c : Nat) : cntV ws i c ≤ (ws.length : Int) := by
  unfold cntV
  exact Int.ofNat_le.2 List.countP_le_length
def votesL (ws : List ByteArray) (i : Nat) : List Int := (List.range 26).map (cntV ws i)
/-- Each word has a letter at place i. -/
def lettersAt (ws : List ByteArray) (i : Nat) : Prop := ∀ j, j < ws.length → i < (rdOf ByteArray.empty ws (j : Int)).size ∧ 97 ≤ bt (rdOf ByteArray.empty ws (j : Int)) (i : Int) ∧ bt (rdOf ByteArray.empty ws (j : Int)) (i : Int) ≤ 122
theorem setCell_self (w : World) (a : Addr) (v : Value) (h : w.cell? a = some v) (hs : a.spot = none) : w.setCell a v = w := by
  obtain ⟨b, o, s⟩ := a
  simp only at hs
  subst hs
  cases hq : w.heap[b]? with
  | none => simp [World.cell?, hq] at h
  | some ob =>
    cases ob with
    | cells cur e fr =>
      simp only [World.cell?, hq] at h
      have hlt : b < w.heap.size := (Array.getElem?_eq_some_iff.1 hq).1
      have hv : w.heap[b] = .cells cur e fr := (Array.getElem?_eq_some_iff.1 hq).2
      unfold World.setCell
      cases w with
      | mk heap tape drawn os output =>
        congr 1
        apply Array.ext
        · simp
        · intro k h1 h2
          simp only [Array.getElem_modify]
          split
          · rename_i hk
            subst hk
            simp only at hv
            rw [hv]
            simp only
            congr 1
            apply Array.ext
            · simp
            · intro j h3 h4
              simp only [Option.isSome_none, Bool.false_eq_true, if_false]
              rw [Array.getElem_setIfInBounds]
              split
              · rename_i hj
                subst hj
                have h' : cur[o]? = some v := h
                rw [Array.getElem?_eq_getElem h4] at h'
                exact (Option.some.inj h').symm
              · rfl
          · rfl
    | _ => simp [World.cell?, hq] at h
theorem setCells_self (b : Nat) : ∀ (vs : List Value) (o : Nat) (w : World), (∀ j (h : j < vs.length), w.cell? ⟨b, o + j, none⟩ = some vs[j]) → w.setCells b o vs = w
  | [], _, _, _ => rfl
  | v :: r, o, w, h => by
    have h0 := h 0 (by simp)
    rw [World.setCells, setCell_self w ⟨b, o, none⟩ v (by simpa using h0) rfl]
    refine setCells_self b r (o + 1) w (fun j hj => ?_)
    have := h (j + 1) (by simpa using hj)
    rw [show o + 1 + j = o + (j + 1) by omega]
    simpa using this
theorem run_storeVar_self {P : Program} (w : World) (t : TypeId) (b o : Nat) (vs : Array Value) (hs : (sizeOf t).run P w = .ok vs.size w) (h1 : ∀ u ∈ vs.toList, u.oneCell' = true) (hc : ∀ j (h : j < vs.toList.length), w.cell? ⟨b, o + j, none⟩ = some vs.toList[j]) (hf : ∀ j, j < vs.toList.length → w.frozen? ⟨b, o + j, none⟩ = false) :
    (storeVar t ⟨b, o, none⟩ (.agg vs)).run P w = .ok () w := by
  have hst := run_storeCells_cells (P := P) b o vs.toList 0 w (fun j hj => by rw [Nat.add_zero, hc j hj]; rfl) (fun j hj => by rw [Nat.add_zero]; exact hf j hj) h1
  rw [Nat.add_zero, setCells_self b vs.toList o w hc] at hst
  unfold storeVar
  simp [hs, Value.cells, hst]
section
variable {P : Program} {ops : Array Oper} {Q : Exit → Act → World → Prop} {o : Oper} {rest : List Oper} {a : Act} {w : World}
theorem gate_store {t : TypeId} {p v : Operand} (_ho : o.op = .store t p v) (h : wpList P ops Q (o :: rest) a w) : wpList P ops Q (o :: rest) a w := h
theorem store_self_ (hg : o.guard = none) (hd : o.dst = none) {t : TypeId} {p v : Operand} (hop : o.op = .store t p v) (ad : Addr) (u : Value) (hp : a.eval p = .pointer (some ad)) (hv : a.eval v = u) (hrun : (storeVar t ad u).run P w = .ok () w) (h : wpList P ops Q rest a w) : wpList P ops Q (o :: rest) a w := by
  refine wpList_plain hg fun K hK => ?_
  unfold Oper.wp
  have he : (execOp a.eval o).run P w = .ok .skip w := by
    unfold execOp
    simp [hop, hp, hv, Instr.storeAt, Instr.sureAddr, hrun]
  rw [he, Oper.upon_skip, hd]
  exact hK _ _ h
end
def voteF (mx ix : List Int → Option Int) (jx : List Int → Int → Option Int) (ws : List ByteArray) : Nat → Nat → List Int → Option (List Int)
  | 0, _, xs => some xs
  | d + 1, i, xs => (mx (votesL ws i)).bind fun m => (jx (votesL ws i) m).bind fun b => if 0 ≤ b ∧ b < 26 then voteF mx ix jx ws d (i + 1) (xs ++ [97 + b]) else none
set_option maxHeartbeats 8000000 in
set_option maxRecDepth 100000 in
theorem voteWord_calls (A0 : Option Addr) (c0 : Nat) (ws : List ByteArray) (w : World) (hr0 : Kd.C Kd.string w A0 ws.length ws) (hc0 : ws.length ≤ c0) (h1 : 1 ≤ ws.length) (n : Nat) (hn : n = (rdOf ByteArray.empty ws 0).size) (hn12 : n ≤ 1000) (hw : ws.length ≤ 100000)
    (hl : ∀ i, i < n → lettersAt ws i) (res : List Int) (mx ix : List Int → Option Int) (jx : List Int → Int → Option Int) (hF : voteF mx ix jx ws n 0 [] = some res)
    (hcode : ∀ W, Below w.heap.size w W → Calls Try.prog 29 #[.slice A0 ws.length c0, .int .i64 1] W fun e w' => e = .returned (.int .i64 0) ∧ Below w.heap.size w w')
    (hmax : ∀ W g v m, v.length = 26 → Kd.C (Kd.int .i64) W (some ⟨g, 0, none⟩) v.length v → mx v = some m → Calls Try.prog 31 #[.slice (some ⟨g, 0, none⟩) 26 26] W fun e w' => e = .returned (.int .i64 m) ∧ Below W.heap.size W w')
    (hidx : ∀ W g v m b, v.length = 26 → Kd.C (Kd.int .i64) W (some ⟨g, 0, none⟩) v.length v → jx v m = some b → Calls Try.prog 30 #[.slice (some ⟨g, 0, none⟩) 26 26, .int .i64 m] W fun e w' => e = .returned (.int .i64 b) ∧ Below W.heap.size W w') :
    Calls Try.prog 9 #[.slice A0 ws.length c0] w fun e w' => e = .returned (.tuple #[.string (strOfNums res), .int .i64 0]) ∧ Below w.heap.size w w' := by
  obtain ⟨ad, hA, hcells⟩ : ∃ ad, A0 = some ad ∧ ∀ (W : World), Below w.heap.size w W → ∀ j, j < ws.length → W.cell? (ad.add j) = some (.string (rdOf ByteArray.empty ws (j : Int))) := by
    obtain ⟨ad, e, _⟩ := Kd.at_string hr0 0 (by omega) (by omega)
    refine ⟨ad, e, fun W hB j hj => ?_⟩
    obtain ⟨ad', e', hx⟩ := Kd.at_string hr0 (j : Int) (by omega) (by omega)
    rw [e] at e'
    obtain rfl : ad = ad' := Option.some.inj e'
    rw [Int.toNat_natCast] at hx
    exact (hB.cell (World.block_lt_of_cell? w _ hx)).trans hx
  subst hA
  have hc := hcode w (Below.refl _ _)
  have hN : Hid (n = (rdOf ByteArray.empty ws 0).size) := hn
  clear hcode hr0 hn
  go_enter Try.func9, Try.ntmps9
  go_wp2_with (go_at_call 29; refine hc.mono ?_; rintro e w1 ⟨rfl, hB1⟩; have hB2 : Below w.heap.size w (w1.alloc (.cells #[] 5)) := Below.alloc hB1 hB1.size _; have hz0 := hcells _ hB2 0 (by omega); rw [Addr.add_zero'] at hz0)
  have hO : Kd.R (Kd.int .u8) 5 (w1.alloc (.cells #[] 5)) w.heap.size (fun _ => True) (.slice (some ⟨w1.heap.size, 0, none⟩) 0 0) [] := ⟨fun _ _ => trivial, OwnRow.lit (inner := []) w1 w.heap.size (Reps.none _ _) hB1.size (by decide)⟩
  rw [← hN.out]
  generalize w1.alloc (.cells #[] 5) = W2 at hO hB2 ⊢
  generalize Value.slice (some ⟨w1.heap.size, 0, none⟩) 0 0 = v5 at hO ⊢
  clear hz0 hB1 hc
  go_loopg [5, 21] n (fun k s5 s21 wr => ∃ (i : Nat) (xs : List Int), s21 = .int .i64 (i : Int) ∧ i ≤ n ∧ n - i ≤ k ∧ voteF mx ix jx ws (n - i) i xs = some res ∧ Kd.R (Kd.int .u8) 5 wr w.heap.size (fun _ => True) s5 xs ∧ Below w.heap.size w wr ∧ xs.length = i)
  case atStart => exact ⟨0, [], rfl, Nat.zero_le _, Nat.le_refl _, hF, hO, hB2, rfl⟩
  case round =>
    as_aux_lemma =>
    obtain ⟨i, xs, rfl, hin, hk, hV, hR, hB, hx⟩ := hrel
    by_cases hlt : i < n
    · as_aux_lemma =>
      have hnew := heap_alloc_new wr (.cells #[.int .i64 0, .int .i64 0, .int .i64 0, .int .i64 0, .int .i64 0, .int .i64 0, .int .i64 0, .int .i64 0, .int .i64 0, .int .i64 0, .int .i64 0, .int .i64 0, .int .i64 0, .int .i64 0, .int .i64 0, .int .i64 0, .int .i64 0, .int .i64 0, .int .i64 0, .int .i64 0, .int .i64 0, .int .i64 0, .int .i64 0, .int .i64 0, .int .i64 0, .int .i64 0] 48)
      have hst : (storeVar 48 ⟨wr.heap.size, 0, none⟩ (.agg #[.int .i64 0, .int .i64 0, .int .i64 0, .int .i64 0, .int .i64 0, .int .i64 0, .int .i64 0, .int .i64 0, .int .i64 0, .int .i64 0, .int .i64 0, .int .i64 0, .int .i64 0, .int .i64 0, .int .i64 0, .int .i64 0, .int .i64 0, .int .i64 0, .int .i64 0, .int .i64 0, .int .i64 0, .int .i64 0, .int .i64 0, .int .i64 0, .int .i64 0, .int .i64 0])).run Try.prog (wr.alloc (.cells #[.int .i64 0, .int .i64 0, .int .i64 0, .int .i64 0, .int .i64 0, .int .i64 0, .int .i64 0, .int .i64 0, .int .i64 0, .int .i64 0, .int .i64 0, .int .i64 0, .int .i64 0, .int .i64 0, .int .i64 0, .int .i64 0, .int .i64 0, .int .i64 0, .int .i64 0, .int .i64 0, .int .i64 0, .int .i64 0, .int .i64 0, .int .i64 0, .int .i64 0, .int .i64 0] 48)) = .ok () (wr.alloc (.cells #[.int .i64 0, .int .i64 0, .int .i64 0, .int .i64 0, .int .i64 0, .int .i64 0, .int .i64 0, .int .i64 0, .int .i64 0, .int .i64 0, .int .i64 0, .int .i64 0, .int .i64 0, .int .i64 0, .int .i64 0, .int .i64 0, .int .i64 0, .int .i64 0, .int .i64 0, .int .i64 0, .int .i64 0, .int .i64 0, .int .i64 0, .int .i64 0, .int .i64 0, .int .i64 0] 48)) :=
        run_storeVar_self _ _ _ _ _ (by exact Try.sizeOf48 _) (by decide) (fun j hj => by
          simp only [World.cell?, hnew, Nat.zero_add]
          show (#[.int .i64 0, .int .i64 0, .int .i64 0, .int .i64 0, .int .i64 0, .int .i64 0, .int .i64 0, .int .i64 0, .int .i64 0, .int .i64 0, .int .i64 0, .int .i64 0, .int .i64 0, .int .i64 0, .int .i64 0, .int .i64 0, .int .i64 0, .int .i64 0, .int .i64 0, .int .i64 0, .int .i64 0, .int .i64 0, .int .i64 0, .int .i64 0, .int .i64 0, .int .i64 0] : Array Value)[j]? = _
          rw [← Array.getElem?_toList]
          exact List.getElem?_eq_getElem hj) (fun j hj => by simp only [World.frozen?, hnew]; simp)
      go_wp2_with (first | ((with_reducible refine gate_store (t := 48) rfl ?_); refine store_self_ rfl rfl rfl ⟨wr.heap.size, 0, none⟩ (.agg #[.int .i64 0, .int .i64 0, .int .i64 0, .int .i64 0, .int .i64 0, .int .i64 0, .int .i64 0, .int .i64 0, .int .i64 0, .int .i64 0, .int .i64 0, .int .i64 0, .int .i64 0, .int .i64 0, .int .i64 0, .int .i64 0, .int .i64 0, .int .i64 0, .int .i64 0, .int .i64 0, .int .i64 0, .int .i64 0, .int .i64 0, .int .i64 0, .int .i64 0, .int .i64 0]) rfl rfl hst ?_))
      obtain ⟨W0, hW0⟩ : ∃ W0, W0 = wr.alloc (.cells #[.int .i64 0, .int .i64 0, .int .i64 0, .int .i64 0, .int .i64 0, .int .i64 0, .int .i64 0, .int .i64 0, .int .i64 0, .int .i64 0, .int .i64 0, .int .i64 0, .int .i64 0, .int .i64 0, .int .i64 0, .int .i64 0, .int .i64 0, .int .i64 0, .int .i64 0, .int .i64 0, .int .i64 0, .int .i64 0, .int .i64 0, .int .i64 0, .int .i64 0, .int .i64 0] 48) := ⟨_, rfl⟩
      obtain ⟨g, hg⟩ : ∃ g, g = wr.heap.size := ⟨_, rfl⟩
      have hC0 : CntAt g (cntV (ws.take 0) i) W0 := by
        rw [hW0, hg]
        refine ⟨_, hnew, rfl, fun j hj => ?_⟩
        show (Array.replicate 26 (Value.int .i64 0))[j]? = _
        rw [Array.getElem?_replicate, if_pos hj, List.take_zero]
        rfl
      have hBW0 : Below g wr W0 := by rw [hW0, hg]; exact Below.alloc (Below.refl _ _) (Nat.le_refl _) _
      rw [← hW0, ← hg]
      clear hst hnew hW0
      have hGG : Hid (g = wr.heap.size) := hg
      have hGle : w.heap.size ≤ g := by rw [hg]; exact hB.size
      clear hg
      go_loopg [27] ws.length (fun k s27 W => ∃ j : Nat, s27 = .int .i64 (j : Int) ∧ j ≤ ws.length ∧ ws.length - j ≤ k ∧ CntAt g (cntV (ws.take j) i) W ∧ Below g wr W)
      case atStart => exact ⟨0, rfl, Nat.zero_le _, Nat.le_refl _, hC0, hBW0⟩
      case round =>
        obtain ⟨j, rfl, hjn, hk2, hC, hBW⟩ := hrel
        by_cases hjl : j < ws.length
        · have hz := hcells wr (hB.trans (hBW.mono hGle)) j hjl
          obtain ⟨hi1, hi2, hi3⟩ := hl i hlt j hjl
          have hst := fun c => cntV_step ws i j c hjl
          have hiT : (i < (rdOf ByteArray.empty ws (j : Int)).size) = True := eq_true hi1
          obtain ⟨c, hc⟩ : ∃ c : Nat, bt (rdOf ByteArray.empty ws (j : Int)) (i : Int) = 97 + (c : Int) := ⟨(bt (rdOf ByteArray.empty ws (j : Int)) (i : Int) - 97).toNat, by omega⟩
          have hc26 : c < 26 := by omega
          have hx : ∀ (h : i < (rdOf ByteArray.empty ws (j : Int)).size), (rdOf ByteArray.empty ws (j : Int))[i].toNat = 97 + c := by
            intro h
            have h2 := bt_at (rdOf ByteArray.empty ws (j : Int)) (i : Int) (by rw [Int.toNat_natCast]; exact h)
            rw [hc] at h2
            simp only [Int.toNat_natCast] at h2
            omega
          have hcm : (c : Int) % 256 = (c : Int) := by omega
          have hcm2 : c % 256 = c := by omega
          have hc26T : ((c : Int) < 26) = True := eq_true (by omega)
          have hc26U : (c < 26) = True := eq_true hc26
          have hcell := hC.cell c hc26
          have hfz := hC.fz c
          have hwj : IntKind.i64.wrap ((j : Int) + 1) = ((j + 1 : Nat) : Int) := by simp [IntKind.wrap, IntKind.bits, IntKind.signed]; omega
          clear hiT hi1 hi2 hi3 hst
          have hiT : (i < (rdOf ByteArray.empty ws (j : Int)).size) = True := eq_true (hl i hlt j hjl).1
          go_wp2
          go_roundg (ws.length - (j + 1))
          case measure => omega
          case rel =>
            refine ⟨j + 1, by simp, by omega, Nat.le_refl _, ?_, ?_⟩
            · have h0 := cntV_nonneg (ws.take j) i c
              have h9 := cntV_le (ws.take j) i c
              have h8 : (ws.take j).length ≤ ws.length := by rw [List.length_take]; omega
              refine hC.put c _ hc26 ?_ ?_
              · rw [cntV_step ws i j c hjl, if_pos hc]
                simp only [wrap64]
                omega
              · intro k hk
                rw [cntV_step ws i j k hjl, if_neg (by omega), Int.add_zero]
            · exact hBW.setCell (Nat.le_refl _) _
        · obtain rfl : j = ws.length := by omega
          rw [List.take_length] at hC
          obtain ⟨d, hd⟩ : ∃ d, n - i = d + 1 := ⟨n - i - 1, by omega⟩
          rw [hd] at hV
          simp only [voteF] at hV
          obtain ⟨m, hm, hV⟩ := Option.bind_eq_some_iff.1 hV
          obtain ⟨b, hb, hV⟩ := Option.bind_eq_some_iff.1 hV
          by_cases hb26 : 0 ≤ b ∧ b < 26
          · rw [if_pos hb26] at hV
            have hR2 := Kd.R_below hR (hBW.mono (Nat.le_of_eq hGG.out.symm))
            have hB2' : Below w.heap.size w wr := hB.trans (hBW.mono hGle)
            have hM : ∀ W, Below wr.heap.size wr W → Calls Try.prog 31 #[.slice (some ⟨g, 0, none⟩) 26 26] W fun e w' => e = .returned (.int .i64 m) ∧ Below wr.heap.size wr w' := fun W q =>
              (hmax W g (votesL ws i) m (by simp [votesL]) (Kd.C_below hC.reads q) hm).mono fun e w' h => ⟨h.1, q.trans (h.2.mono q.size)⟩
            have hI : ∀ W, Below wr.heap.size wr W → Calls Try.prog 30 #[.slice (some ⟨g, 0, none⟩) 26 26, .int .i64 m] W fun e w' => e = .returned (.int .i64 b) ∧ Below wr.heap.size wr w' := fun W q =>
              (hidx W g (votesL ws i) m b (by simp [votesL]) (Kd.C_below hC.reads q) hb).mono fun e w' h => ⟨h.1, q.trans (h.2.mono q.size)⟩
            clear hB hBW hC hR hmax hidx
            go_wp2
            go_region_with (first | (go_at_call 31; refine (hM _ (by first | exact Below.refl _ _ | exact (Below.refl _ _).drew | exact below_drewN (Below.refl _ _) _)).mono ?_; rintro e w3 ⟨rfl, hB3⟩) | (go_at_call 30; refine (hI _ (by first | exact hB3 | exact hB3.drew | exact below_drewN hB3 _)).mono ?_; rintro e w4 ⟨rfl, hB4⟩))
            have hw1 : wrap64 (97 + b) = 97 + b := by simp only [wrap64]; omega
            have hw2 : (97 + b) % 256 = 97 + b := by omega
            have hwi : IntKind.i64.wrap ((i : Int) + 1) = ((i + 1 : Nat) : Int) := by simp [IntKind.wrap, IntKind.bits, IntKind.signed]; omega
            have hR4 := Kd.R_below hR2 hB4
            have hB5 : Below w.heap.size w w4 := hB2'.trans (hB4.mono hB2'.size)
            clear hR2 hB2' hB4 hB3 hM hI
            go_wp2_with (first | ((with_reducible refine gate_builtin (b := .append) (xs := #[.tmp 44, .tmp 48]) rfl ?_); at_builtin; refine Kd.R_append (Kd.int .u8) (w0 := w) w.heap.size rfl (.tmp 44) (.tmp 48) 35 5 (.int .u8 0) 1 rfl Try.underlying35 (show (Try.prog.info? 5).map (fun i => (i.zero, i.size, i.bytes)) = some (some (.int .u8 0), 1, 1) by kernel_rfl) rfl (by decide) (by omega) u5 xs (97 + b) [.int .u8 (97 + b)] (fun _ => True) (fun _ => False) rfl rfl rfl (fun _ hk => hk.elim) (fun _ _ => trivial) (by first | exact hR4 | (apply Kd.R_drew; exact hR4)) (by first | exact hB5 | exact hB5.drew) (by exact hB5.size) (by omega) ?_; intro v5' w5 ho5 hb5 hg5 hat5))
            go_roundg (n - (i + 1))
            case measure => have := hlt; omega
            case rel => exact ⟨i + 1, xs ++ [97 + b], by simp, by omega, Nat.le_refl _, by rw [show n - (i + 1) = d by omega]; exact hV, ho5, hb5, by rw [List.length_append, hx]; rfl⟩
          · rw [if_neg hb26] at hV
            exact absurd hV (by simp)
    · obtain rfl : i = n := by omega
      rw [Nat.sub_self] at hV
      obtain rfl : xs = res := Option.some.inj hV
      have hcv := own_string (P := Try.prog) Try.underlying35 Try.underlying5 Try.underlying9 (Kd.own_of_R hR)
      go_wp2
      go_ret2
      exact ⟨rfl, hB⟩
theorem voteF_mono {mx mx' ix ix' : List Int → Option Int} {jx jx' : List Int → Int → Option Int} (ws : List ByteArray) (h1 : ∀ v r, mx v = some r → mx' v = some r) (h2 : ∀ v m r, jx v m = some r → jx' v m = some r) : ∀ (d i : Nat) (xs r : List Int), voteF mx ix jx ws d i xs = some r → voteF mx' ix' jx' ws d i xs = some r := by
  intro d
  induction d with
  | zero => intro i xs r h; exact h
  | succ d ih =>
    intro i xs r h
    simp only [voteF] at h ⊢
    obtain ⟨m, hm, h⟩ := Option.bind_eq_some_iff.1 h
    obtain ⟨b, hb, h⟩ := Option.bind_eq_some_iff.1 h
    rw [h1 _ _ hm, Option.bind_some, h2 _ _ _ hb, Option.bind_some]
    by_cases c : 0 ≤ b ∧ b < 26
    · rw [if_pos c] at h ⊢
      exact ih _ _ _ h
    · rw [if_neg c] at h; exact absurd h (by simp)
/-- All words are as long as the first one, and of letters. -/
def voteOk (l : List ByteArray) : Bool := l.all (fun s => decide (s.size = (rdOf ByteArray.empty l 0).size) && (List.range s.size).all (fun i => decide (97 ≤ bt s (i : Int)) && decide (bt s (i : Int) ≤ 122)))
theorem voteOk_at {l : List ByteArray} (h : voteOk l = true) (i : Nat) (hi : i < (rdOf ByteArray.empty l 0).size) : lettersAt l i := by
  intro j hj
  have hm : rdOf ByteArray.empty l (j : Int) ∈ l := by
    simp only [rdOf, Int.toNat_natCast, List.getD_eq_getElem?_getD, List.getElem?_eq_getElem hj, Option.getD_some]
    exact List.getElem_mem hj
  have h2 := List.all_eq_true.1 h _ hm
  rw [Bool.and_eq_true, decide_eq_true_iff] at h2
  refine ⟨by rw [h2.1]; exact hi, ?_⟩
  have h3 := List.all_eq_true.1 h2.2 i (List.mem_range.2 (by rw [h2.1]; exact hi))
  rw [Bool.and_eq_true, decide_eq_true_iff, decide_eq_true_iff] at h3
  exact h3

theorem alloc_size_ (W : World) (o : Obj) : (W.alloc o).heap.size = W.heap.size + 1 := by rw [World.alloc]; simp only [Array.size_push]
theorem le_alloc_ {W : World} {n : Nat} {o : Obj} (h : n ≤ W.heap.size) : n ≤ (W.alloc o).heap.size := by rw [World.alloc]; simp only [Array.size_push]; omega
theorem apart_setCell_at (w : World) (g o : Nat) (v : Value) (e : TypeId) (cur : Array Value) (h : w.heap[g]? = some (.cells cur e (0, 0))) : (w.setCell ⟨g, o, none⟩ v).heap[g]? = some (.cells (cur.setIfInBounds o v) e (0, 0)) := by
  simp [World.setCell, Array.getElem?_modify, h]
theorem blkc_ {w : World} {g : Nat} {v : Value} {t : TypeId} (h : w.heap[g]? = some (.cells #[v] t (0, 0))) : w.cell? ⟨g, 0, none⟩ = some v := by simp [World.cell?, h]
theorem blkf_ {w : World} {g : Nat} {v : Value} {t : TypeId} (h : w.heap[g]? = some (.cells #[v] t (0, 0))) : w.frozen? ⟨g, 0, none⟩ = false := by simp [World.frozen?, h]
theorem step_append_R {P : Program} {ops : Array Oper} {o : Oper} {a : Act} {w : World} {K : Act → World → Prop} {Q : Exit → Act → World → Prop} {E : Prop} {α : Type} {enc : α → Value} {h1 : ∀ x, (enc x).oneCell' = true} {ok : Nat → Prop}
    (hgd : o.guard = none) (s x : Operand) (t e : TypeId) (z : Value) (bytes : Nat) (ho : o.op = .call { callee := .builtin .append, args := #[s, x], argTypes := #[t, t] })
    (ht : P.underlying t = some (.slice e)) (hinfo : (P.info? e).map (fun i => (i.zero, i.size, i.bytes)) = some (some z, 1, bytes)) (hz : z.cells.size = 1) (hb0 : 0 < bytes)
    (W : World) (base : Nat) (v : Value) (xs : List α) (p : α) (hs : a.eval s = v) (hx : a.eval x = .slice (some ⟨W.heap.size, 0, none⟩) 1 1)
    (HO : (Kd.scalar enc h1).R e W base ok v xs) (hw : w.heap = (W.alloc (.cells #[enc p] e)).heap) (hbase : base ≤ W.heap.size) (hl : (xs.length + 1) * bytes ≤ 140737488355328)
    (h : ∀ gb cap w1, (Kd.scalar enc h1).R e w1 base (fun _ => True) (.slice (some ⟨gb, 0, none⟩) (xs.length + 1) cap) (xs ++ [p]) → w.grownBy w1 v.ownBlock → (v.ownBlock = some gb ∨ gb = w.heap.size) → K (a.put o.dst (.slice (some ⟨gb, 0, none⟩) (xs.length + 1) cap)) w1) :
    if Region.wanted o (yielded ops a.tmps) = true then Oper.wp P o a w K Q else E := by
  obtain ⟨ie, hie, hz0, hz1, hz2⟩ := info_parts hinfo
  have hom := Kd.own_of_R HO
  have hlen : xs.length + 1 ≤ 140737488355328 := Nat.le_trans (Nat.le_mul_of_pos_right _ hb0) hl
  have hown : w.ownsRow base e 1 v xs.length (encs enc xs) := own_move hom (fun k hk => by
    rw [hw]
    exact Below.heap_alloc W _ k (own_lt hom k hk))
  have hnw := World.news_of_block (w := w) (B := W.heap.size) (cs := #[enc p]) (t := e) (fr := (0, 0)) (by rw [hw]; exact heap_alloc_new W _)
  refine step_append_lies w hgd s x t ho base e ie z 1 bytes ht hie hz0 hz1 hz2 hz (by omega) v xs.length (encs enc xs) hs hown ⟨W.heap.size, 0, none⟩ 1 1 [enc p] hx rfl hnw (fun u hu => by simp at hu; subst hu; exact h1 p) (by omega) (by simp only [maxLen]; omega) hl (by rw [hw, World.alloc]; simp only [Array.size_push]; omega) _ rfl ?_
  intro g cap w' h2 h3 h4 h5
  exact h g cap w' (Kd.R_of_own (by rw [List.length_append, encs_append]; exact h2) (fun _ _ => trivial)) h3 h4
def apNext (near : Bool) (tk : List ByteArray) (s : ByteArray) : List ByteArray := if near = true then tk else tk ++ [s]
set_option maxHeartbeats 4000000 in
set_option maxRecDepth 100000 in
/-- What is taken, or passed over, at one word. -/
theorem apart_one (w0 w : World) (A0 : Option Addr) (c0 : Nat) (ws : List ByteArray) (least : Int) (g bw bl : Nat) (v : Value) (tk : List ByteArray) (i : Nat) (near : Bool)
    (hB : Below w0.heap.size w0 w) (hg : w0.heap.size ≤ g) (hG : w.heap[g]? = some (.cells #[v] 22 (0, 0))) (hR : Kd.R Kd.string 9 w w0.heap.size (fun _ => True) v tk)
    (hbw : w0.heap[bw]? = some (.cells #[.slice A0 ws.length c0] 22 (0, 0)))
    (hr0 : Kd.C Kd.string w0 A0 ws.length ws) (hi : i < ws.length) (htk : tk.length ≤ 100000)
    (hcon : ∀ W A c b4, Below w0.heap.size w0 W → Kd.C Kd.string W A tk.length tk → tk.length ≤ c → W.heap[b4]? = some (.cells #[.int .i64 (i : Int)] 3 (0, 0)) → Calls Try.prog 39 #[.slice A tk.length c, .func (.func 40) #[] #[.pointer (some ⟨bw, 0, none⟩), .pointer (some ⟨b4, 0, none⟩), .pointer (some ⟨bl, 0, none⟩)]] W fun e w' => e = .returned (.bool near) ∧ ∃ n, w' = W.drewN n) :
    Calls Try.prog 38 #[.int .i64 (i : Int), .pointer (some ⟨g, 0, none⟩), .pointer (some ⟨bw, 0, none⟩), .pointer (some ⟨bl, 0, none⟩)] w fun e w' => e = .returned (.bool (!near)) ∧ Below w0.heap.size w0 w' ∧ ∃ v', w'.heap[g]? = some (.cells #[v'] 22 (0, 0)) ∧ Kd.R Kd.string 9 w' w0.heap.size (fun _ => True) v' (apNext near tk (rdOf ByteArray.empty ws (i : Int))) ∧ ∀ k, k < w.heap.size → k ≠ g → some k ≠ v.ownBlock → w'.heap[k]? = w.heap[k]? := by
  have hglt : g < w.heap.size := (Array.getElem?_eq_some_iff.1 hG).1
  have hbwlt : bw < w0.heap.size := (Array.getElem?_eq_some_iff.1 hbw).1
  obtain ⟨W1, hW1⟩ : ∃ W1, W1 = w.alloc (.cells #[.int .i64 (i : Int)] 3) := ⟨_, rfl⟩
  obtain ⟨b4, hb4⟩ : ∃ b4, b4 = w.heap.size := ⟨_, rfl⟩
  have hB1 : Below w0.heap.size w0 W1 := by rw [hW1]; exact Below.alloc hB hB.size _
  have hBw : Below w.heap.size w W1 := by rw [hW1]; exact Below.alloc (Below.refl _ _) (Nat.le_refl _) _
  have hR1 := Kd.R_below hR hBw
  have hG1 : W1.heap[g]? = some (.cells #[v] 22 (0, 0)) := (hBw.block g hglt).trans hG
  have hi1 : W1.heap[b4]? = some (.cells #[.int .i64 (i : Int)] 3 (0, 0)) := by rw [hW1, hb4]; exact heap_alloc_new w _
  have hcg : W1.cell? ⟨g, 0, none⟩ = some v := by simp [World.cell?, hG1]
  have hcw : W1.cell? ⟨bw, 0, none⟩ = some (.slice A0 ws.length c0) := by simp [World.cell?, hB1.block bw hbwlt, hbw]
  have hci : W1.cell? ⟨b4, 0, none⟩ = some (.int .i64 (i : Int)) := by simp [World.cell?, hi1]
  obtain ⟨Ao, co, rfl⟩ := Kd.R_slice hR1
  have hrd := Kd.R_reads' hR1
  have hc := hcon W1 Ao co b4 hB1 hrd.2.2 hrd.2.1 hi1
  obtain ⟨ad, rfl, hx⟩ := Kd.at_string hr0 (i : Int) (by omega) (by omega)
  rw [Int.toNat_natCast] at hx
  have hxw : W1.cell? (ad.add i) = some (.string (rdOf ByteArray.empty ws (i : Int))) := (hB1.cell (World.block_lt_of_cell? w0 _ hx)).trans hx
  have hfg : W1.frozen? ⟨g, 0, none⟩ = false := by simp [World.frozen?, hG1]
  subst hW1
  subst hb4
  clear hcon hx hr0
  cases near with
  | true =>
    go_enter Try.func38, Try.ntmps38
    go_wp2_with (go_at_call 39; refine hc.mono ?_; rintro e w1 ⟨rfl, m, rfl⟩)
    go_ret
    exact ⟨rfl, pw_below_drewN hB1 m, _, hG1, Kd.R_drewN hR1 m, fun k hk _ _ => hBw.block k hk⟩
  | false =>
    go_enter Try.func38, Try.ntmps38
    go_wp2_with (go_at_call 39; refine hc.mono ?_; rintro e w1 ⟨rfl, m, rfl⟩)
    have hBm := pw_below_drewN hB1 m
    have hRm := Kd.R_drewN hR1 m
    have hGm : ((w.alloc (.cells #[.int .i64 (i : Int)] 3)).drewN m).heap[g]? = some (.cells #[.slice Ao tk.length co] 22 (0, 0)) := hG1
    have hcgm : ((w.alloc (.cells #[.int .i64 (i : Int)] 3)).drewN m).cell? ⟨g, 0, none⟩ = some (.slice Ao tk.length co) := hcg
    have hcwm : ((w.alloc (.cells #[.int .i64 (i : Int)] 3)).drewN m).cell? ⟨bw, 0, none⟩ = some (.slice (some ad) ws.length c0) := hcw
    have hcim : ((w.alloc (.cells #[.int .i64 (i : Int)] 3)).drewN m).cell? ⟨w.heap.size, 0, none⟩ = some (.int .i64 (i : Int)) := hci
    have hxm : ((w.alloc (.cells #[.int .i64 (i : Int)] 3)).drewN m).cell? (ad.add i) = some (.string (rdOf ByteArray.empty ws (i : Int))) := hxw
    have hfm : ((w.alloc (.cells #[.int .i64 (i : Int)] 3)).drewN m).frozen? ⟨g, 0, none⟩ = false := hfg
    have hkm : ∀ k, k < w.heap.size → ((w.alloc (.cells #[.int .i64 (i : Int)] 3)).drewN m).heap[k]? = w.heap[k]? := fun k hk => hBw.block k hk
    have hsm : w.heap.size < ((w.alloc (.cells #[.int .i64 (i : Int)] 3)).drewN m).heap.size := by show w.heap.size < (w.alloc (.cells #[.int .i64 (i : Int)] 3)).heap.size; rw [World.alloc]; simp only [Array.size_push]; omega
    generalize (w.alloc (.cells #[.int .i64 (i : Int)] 3)).drewN m = W2 at hBm hRm hGm hcgm hcwm hcim hxm hfm hkm hsm ⊢
    clear hc hB1 hBw hR1 hG1 hcg hcw hci hxw hfg hi1 hrd
    have hgW : g < W2.heap.size := by omega
    obtain ⟨s, hs⟩ : ∃ s, s = rdOf ByteArray.empty ws (i : Int) := ⟨_, rfl⟩
    rw [← hs] at hxm
    have hsH : Hid (s = rdOf ByteArray.empty ws (i : Int)) := hs
    have hGa : (W2.alloc (.cells #[.string s] 9)).heap[g]? = some (.cells #[.slice Ao tk.length co] 22 (0, 0)) := (Below.heap_alloc W2 _ g hgW).trans hGm
    have hne := own_ne (Kd.own_of_R hRm) hGm (by decide)
    have hbound := own_base (Kd.own_of_R hRm)
    have hsz : (W2.alloc (.cells #[.string s] 9)).heap.size = W2.heap.size + 1 := by rw [World.alloc]; simp only [Array.size_push]
    clear hs hGm
    go_region_law (refine step_append_R rfl (.tmp 12) (.tmp 17) 22 9 (.string ⟨#[]⟩) 16 rfl Try.underlying22 (show (Try.prog.info? 9).map (fun i => (i.zero, i.size, i.bytes)) = some (some (.string ⟨#[]⟩), 1, 16) by kernel_rfl) rfl (by omega) W2 w0.heap.size (.slice Ao tk.length co) tk s (by simp [Act.eval, Act.put]) (by simp [Act.eval, Act.put]) hRm rfl hBm.size (by omega) ?_; intro gb cap w' ho' hg' hat'; have hgh : w'.heap[g]? = some (.cells #[.slice Ao tk.length co] 22 (0, 0)) := (hg'.block g (by show g < (W2.alloc (.cells #[.string s] 9)).heap.size; omega) hne).trans hGa; have hgc := blkc_ hgh; have hgf := blkf_ hgh)
    all_goals (
      have hBq : Below w0.heap.size w0 w' := (hBm.alloc hBm.size _).drew.grown hg' (by show w0.heap.size ≤ (W2.alloc (.cells #[.string s] 9)).heap.size; have := hBm.size; omega) hbound
      have hgq := own_ne (Kd.own_of_R ho') hgh (by decide)
      have hkq : ∀ k, k < w.heap.size → k ≠ g → some k ≠ (Value.slice Ao tk.length co).ownBlock → (w'.setCell ⟨g, 0, none⟩ (.slice (some ⟨gb, 0, none⟩) (tk.length + 1) cap)).heap[k]? = w.heap[k]? := fun k h1 h2 h3 =>
        (Below.heap_setCell w' _ _ k h2).trans ((hg'.block k (by show k < (W2.alloc (.cells #[.string s] 9)).heap.size; omega) h3).trans ((Below.heap_alloc W2 _ k (by omega)).trans (hkm k h1)))
      have hvq := apart_setCell_at w' g 0 (.slice (some ⟨gb, 0, none⟩) (tk.length + 1) cap) _ _ hgh
      have hRq : Kd.R Kd.string 9 (w'.setCell ⟨g, 0, none⟩ (.slice (some ⟨gb, 0, none⟩) (tk.length + 1) cap)) w0.heap.size (fun _ => True) (.slice (some ⟨gb, 0, none⟩) (tk.length + 1) cap) (tk ++ [s]) := Kd.R_of_own (by rw [List.length_append]; exact own_setCell (by have := Kd.own_of_R ho'; rw [List.length_append] at this; exact this) hgq _) (fun _ _ => trivial)
      rw [hsH.out] at hRq
      have hBs := hBq.setCell (p := ⟨g, 0, none⟩) hg (.slice (some ⟨gb, 0, none⟩) (tk.length + 1) cap)
      clear hg' hat' hBm hRm hcgm hcwm hcim hxm hfm hkm hgc hgf
      go_wp2
      go_ret
      exact ⟨rfl, hBs, _, hvq, hRq, hkq⟩)
def apF (nr : List ByteArray → Nat → Option Bool) (ws : List ByteArray) : Nat → Nat → List ByteArray → List Int → Option (List Int)
  | 0, _, _, xs => some xs
  | d + 1, i, tk, xs => (nr tk i).bind fun b => apF nr ws d (i + 1) (apNext b tk (rdOf ByteArray.empty ws (i : Int))) (if b = true then xs else xs ++ [(i : Int)])
theorem apNext_len (b : Bool) (tk : List ByteArray) (s : ByteArray) : (apNext b tk s).length ≤ tk.length + 1 := by
  unfold apNext; split <;> simp
set_option maxHeartbeats 4000000 in
set_option maxRecDepth 100000 in
/-- The words that are taken, one after the other. -/
theorem apart_indices (w0 w : World) (A0 : Option Addr) (c0 : Nat) (ws : List ByteArray) (g bw bl : Nat) (v0 : Value) (nr : List ByteArray → Nat → Option Bool) (res : List Int)
    (hB0 : Below w0.heap.size w0 w) (hg : w0.heap.size ≤ g) (hG0 : w.heap[g]? = some (.cells #[v0] 22 (0, 0))) (hR0 : Kd.R Kd.string 9 w w0.heap.size (fun _ => True) v0 [])
    (hbw : w0.heap[bw]? = some (.cells #[.slice A0 ws.length c0] 22 (0, 0)))
    (hr0 : Kd.C Kd.string w0 A0 ws.length ws) (hws : ws.length ≤ 100000) (hF : apF nr ws ws.length 0 [] [] = some res)
    (hcon : ∀ (tk : List ByteArray) (i : Nat) (b : Bool) W A c b4, nr tk i = some b → Below w0.heap.size w0 W → Kd.C Kd.string W A tk.length tk → tk.length ≤ c → W.heap[b4]? = some (.cells #[.int .i64 (i : Int)] 3 (0, 0)) → Calls Try.prog 39 #[.slice A tk.length c, .func (.func 40) #[] #[.pointer (some ⟨bw, 0, none⟩), .pointer (some ⟨b4, 0, none⟩), .pointer (some ⟨bl, 0, none⟩)]] W fun e w' => e = .returned (.bool b) ∧ ∃ n, w' = W.drewN n) :
    Calls Try.prog 37 #[.int .i64 (ws.length : Int), .func (.func 38) #[] #[.pointer (some ⟨g, 0, none⟩), .pointer (some ⟨bw, 0, none⟩), .pointer (some ⟨bl, 0, none⟩)]] w fun e w' => ∃ v : Value, e = .returned v ∧ Kd.R (Kd.int .i64) 2 w' w0.heap.size (fun _ => True) v res ∧ Below w0.heap.size w0 w' := by
  go_enter Try.func37, Try.ntmps37
  go_wp2
  have hBa : Below w0.heap.size w0 (w.alloc (.cells #[] 2)) := Below.alloc hB0 hB0.size _
  have hOa : Kd.R (Kd.int .i64) 2 (w.alloc (.cells #[] 2)) w0.heap.size (fun _ => True) (.slice (some ⟨w.heap.size, 0, none⟩) 0 0) [] := ⟨fun _ _ => trivial, OwnRow.lit (inner := []) w w0.heap.size (Reps.none _ _) hB0.size (by decide)⟩
  have hGa : (w.alloc (.cells #[] 2)).heap[g]? = some (.cells #[v0] 22 (0, 0)) := (Below.heap_alloc w _ g (Array.getElem?_eq_some_iff.1 hG0).1).trans hG0
  have hRa := Kd.R_alloc hR0 (.cells #[] 2)
  generalize w.alloc (.cells #[] 2) = W2 at hBa hOa hGa hRa ⊢
  generalize Value.slice (some ⟨w.heap.size, 0, none⟩) 0 0 = v5 at hOa ⊢
  go_loopg [5, 9] ws.length (fun k s5 s9 wr => ∃ (i : Nat) (tk : List ByteArray) (xs : List Int) (vt : Value), s9 = .int .i64 (i : Int) ∧ i ≤ ws.length ∧ ws.length - i ≤ k ∧ apF nr ws (ws.length - i) i tk xs = some res ∧ Kd.R (Kd.int .i64) 2 wr w0.heap.size (fun _ => True) s5 xs ∧ Below w0.heap.size w0 wr ∧ wr.heap[g]? = some (.cells #[vt] 22 (0, 0)) ∧ Kd.R Kd.string 9 wr w0.heap.size (fun _ => True) vt tk ∧ xs.length ≤ i ∧ tk.length ≤ i)
  case atStart => exact ⟨0, [], [], v0, rfl, Nat.zero_le _, Nat.le_refl _, hF, hOa, hBa, hGa, hRa, Nat.le_refl _, Nat.le_refl _⟩
  case round =>
    obtain ⟨i, tk, xs, vt, rfl, hin, hk, hV, hR, hB, hG, hT, hx, ht⟩ := hrel
    by_cases hlt : i < ws.length
    · obtain ⟨d, hd⟩ : ∃ d, ws.length - i = d + 1 := ⟨ws.length - i - 1, by omega⟩
      rw [hd] at hV
      simp only [apF] at hV
      obtain ⟨b, hb, hV⟩ := Option.bind_eq_some_iff.1 hV
      have hone := apart_one w0 wr A0 c0 ws 0 g bw bl vt tk i b hB hg hG hT hbw hr0 hlt (by omega) (fun W A c b4 h1 h2 h3 h4 => hcon tk i b W A c b4 hb h1 h2 h3 h4)
      have hwi : IntKind.i64.wrap ((i : Int) + 1) = ((i + 1 : Nat) : Int) := by simp [IntKind.wrap, IntKind.bits, IntKind.signed]; omega
      have hlen := apNext_len b tk (rdOf ByteArray.empty ws (i : Int))
      have hmove : ∀ w1 : World, (∀ k, k < wr.heap.size → k ≠ g → some k ≠ vt.ownBlock → w1.heap[k]? = wr.heap[k]?) → Kd.R (Kd.int .i64) 2 w1 w0.heap.size (fun _ => True) u5 xs := fun w1 hfr =>
        Kd.R_of_own (own_move (Kd.own_of_R hR) (fun k hk => hfr k (own_lt (Kd.own_of_R hR) k hk) (fun z => own_ne (Kd.own_of_R hR) hG (by decide) (by rw [hk, z])) (fun z => by
          rcases own_type_ne (Kd.own_of_R hR) (Kd.own_of_R hT) (by decide) with q | q
          · rw [hk] at q; exact absurd q (by simp)
          · exact q (by rw [hk, z])))) (fun _ _ => trivial)
      cases b with
      | true =>
        rw [if_pos rfl] at hV
        go_wp2_with (go_at_call 38; refine hone.mono ?_; rintro e w1 ⟨rfl, hB1, vt', hG1, hT1, hfr⟩)
        have hR1 := hmove _ hfr
        go_roundg (ws.length - (i + 1))
        case measure => omega
        case rel => exact ⟨i + 1, _, xs, vt', by simp, by omega, Nat.le_refl _, by rw [show ws.length - (i + 1) = d by omega]; exact hV, hR1, hB1, hG1, hT1, by omega, by omega⟩
      | false =>
        rw [if_neg (by decide)] at hV
        go_wp2_with (first | (go_at_call 38; refine hone.mono ?_; rintro e w1 ⟨rfl, hB1, vt', hG1, hT1, hfr⟩) | ((with_reducible refine gate_builtin (b := .append) (xs := #[.tmp 15, .tmp 17]) rfl ?_); at_builtin; refine Kd.R_append (Kd.int .i64) (w0 := w0) w0.heap.size rfl (.tmp 15) (.tmp 17) 29 2 (.int .i64 0) 8 rfl Try.underlying29 (show (Try.prog.info? 2).map (fun i => (i.zero, i.size, i.bytes)) = some (some (.int .i64 0), 1, 8) by kernel_rfl) rfl (by decide) (by omega) u5 xs (i : Int) [.int .i64 (i : Int)] (fun _ => True) (fun _ => False) rfl rfl rfl (fun _ hk => hk.elim) (fun _ _ => trivial) (hmove _ hfr) hB1 hB1.size (by omega) ?_; intro v5' w5 ho5 hb5 hg5 hat5))
        have hne5 := own_ne (Kd.own_of_R (hmove _ hfr)) hG1 (by decide)
        have hG5 : w5.heap[g]? = some (.cells #[vt'] 22 (0, 0)) := (hg5.block g (Array.getElem?_eq_some_iff.1 hG1).1 hne5).trans hG1
        have hT5 : Kd.R Kd.string 9 w5 w0.heap.size (fun _ => True) vt' (apNext false tk (rdOf ByteArray.empty ws (i : Int))) := Kd.R_of_own (own_other (Kd.own_of_R hT1) hg5 (own_type_ne (Kd.own_of_R hT1) (Kd.own_of_R (hmove _ hfr)) (by decide))) (fun _ _ => trivial)
        go_roundg (ws.length - (i + 1))
        case measure => omega
        case rel => exact ⟨i + 1, _, xs ++ [(i : Int)], vt', by simp, by omega, Nat.le_refl _, by rw [show ws.length - (i + 1) = d by omega]; exact hV, ho5, hb5, hG5, hT5, by rw [List.length_append]; simp; omega, by omega⟩
    · obtain rfl : i = ws.length := by omega
      rw [Nat.sub_self] at hV
      obtain rfl : xs = res := Option.some.inj hV
      go_wp2
      go_ret
      exact ⟨_, rfl, hR, hB⟩
def apartR (code : Int) (wb : Bool) (res : List Int) : List Int × Int := if code = 1 then ([], 1) else if wb = false then ([], 2) else if code = 0 then (res, 0) else ([], code)
set_option maxHeartbeats 4000000 in
set_option maxRecDepth 100000 in
theorem chooseApart_calls (A0 : Option Addr) (c0 : Nat) (ws : List ByteArray) (least : Int) (w : World) (nr : List ByteArray → Nat → Option Bool) (res : List Int) (code : Int) (wb : Bool)
    (hr0 : Kd.C Kd.string w A0 ws.length ws) (hc0 : ws.length ≤ c0) (hws : code = 0 → wb = true → ws.length ≤ 100000) (hF : code = 0 → wb = true → apF nr ws ws.length 0 [] [] = some res)
    (hlist : ∀ W, Below w.heap.size w W → Calls Try.prog 35 #[.slice A0 ws.length c0, .slice none 0 0, .slice none 0 0] W fun e w' => e = .returned (.int .i64 code) ∧ Below W.heap.size W w')
    (hwithin : ∀ W, Calls Try.prog 36 #[.int .i64 least, .int .i64 0, .int .i64 12] W fun e w' => e = .returned (.bool wb) ∧ ∃ n, w' = W.drewN n)
    (hcon : ∀ (tk : List ByteArray) (i : Nat) (b : Bool) W A c bw b4 bl, nr tk i = some b → Kd.C Kd.string W A0 ws.length ws → W.heap[bw]? = some (.cells #[.slice A0 ws.length c0] 22 (0, 0)) → W.heap[bl]? = some (.cells #[.int .i64 least] 2 (0, 0)) → Kd.C Kd.string W A tk.length tk → tk.length ≤ c → W.heap[b4]? = some (.cells #[.int .i64 (i : Int)] 3 (0, 0)) → Calls Try.prog 39 #[.slice A tk.length c, .func (.func 40) #[] #[.pointer (some ⟨bw, 0, none⟩), .pointer (some ⟨b4, 0, none⟩), .pointer (some ⟨bl, 0, none⟩)]] W fun e w' => e = .returned (.bool b) ∧ ∃ n, w' = W.drewN n) :
    Calls Try.prog 12 #[.slice A0 ws.length c0, .int .i64 least] w fun e w' => ∃ v : Value, e = .returned (.tuple #[v, .int .i64 (apartR code wb res).2]) ∧ Kd.R (Kd.int .i64) 2 w' w.heap.size (fun _ => True) v (apartR code wb res).1 ∧ Below w.heap.size w w' := by
  obtain ⟨W0, hW0⟩ : ∃ W0, W0 = (w.alloc (.cells #[.slice A0 ws.length c0] 22)).alloc (.cells #[.int .i64 least] 2) := ⟨_, rfl⟩
  have hsz1 : (w.alloc (.cells #[.slice A0 ws.length c0] 22)).heap.size = w.heap.size + 1 := by rw [World.alloc]; simp only [Array.size_push]
  have hsz0 : W0.heap.size = w.heap.size + 2 := by rw [hW0, World.alloc]; simp only [Array.size_push]; omega
  have hB0 : Below w.heap.size w W0 := by rw [hW0]; exact Below.alloc (Below.alloc (Below.refl _ _) (Nat.le_refl _) _) (by omega) _
  have hbw0 : W0.heap[w.heap.size]? = some (.cells #[.slice A0 ws.length c0] 22 (0, 0)) := by rw [hW0]; exact (Below.heap_alloc _ _ _ (by omega)).trans (heap_alloc_new w _)
  have hbl0 : W0.heap[w.heap.size + 1]? = some (.cells #[.int .i64 least] 2 (0, 0)) := by
    have := heap_alloc_new (w.alloc (.cells #[.slice A0 ws.length c0] 22)) (.cells #[.int .i64 least] 2)
    rw [hsz1] at this
    rw [hW0]; exact this
  have hcw0 := blkc_ hbw0
  have hcl0 := blkc_ hbl0
  have hr00 := Kd.C_below hr0 hB0
  have hl0 := hlist W0 hB0
  have hind : code = 0 → wb = true → ∀ W g v0, Below W0.heap.size W0 W → W0.heap.size ≤ g → W.heap[g]? = some (.cells #[v0] 22 (0, 0)) → Kd.R Kd.string 9 W W0.heap.size (fun _ => True) v0 [] → Calls Try.prog 37 #[.int .i64 (ws.length : Int), .func (.func 38) #[] #[.pointer (some ⟨g, 0, none⟩), .pointer (some ⟨w.heap.size, 0, none⟩), .pointer (some ⟨w.heap.size + 1, 0, none⟩)]] W fun e w' => ∃ v : Value, e = .returned v ∧ Kd.R (Kd.int .i64) 2 w' w.heap.size (fun _ => True) v res ∧ Below w.heap.size w w' := fun hz hy W g v0 h1 h2 h3 h4 =>
    (apart_indices W0 W A0 c0 ws g w.heap.size (w.heap.size + 1) v0 nr res h1 h2 h3 h4 hbw0 hr00 (hws hz hy) (hF hz hy) (fun tk i b W' A c b4 q1 q2 q3 q4 q5 => hcon tk i b W' A c _ b4 _ q1 (Kd.C_below hr00 q2) ((q2.block _ (by omega)).trans hbw0) ((q2.block _ (by omega)).trans hbl0) q3 q4 q5)).mono fun e w' ⟨v, z1, z2, z3⟩ => ⟨v, z1, Kd.R_lower z2 (by omega), hB0.trans (z3.mono (by omega))⟩
  clear hlist hcon hws hF hr0
  by_cases c1 : code = 1
  · have e1 : (code == 1) = true := beq_iff_eq.mpr c1
    have eR : apartR code wb res = ([], 1) := by unfold apartR; rw [if_pos c1]
    rw [eR]
    subst c1
    subst hW0
    go_enter Try.func12, Try.ntmps12
    go_wp2_with (go_at_call 35; refine hl0.mono ?_; rintro e w1 ⟨rfl, hB1⟩)
    go_ret2
    exact ⟨_, rfl, Kd.R_nil _ _ _ _ _, below_step hB0 hB1⟩
  · have e1 : (code == 1) = false := beq_eq_false_iff_ne.mpr c1
    cases hwb : wb with
    | false =>
      have eR : apartR code false res = ([], 2) := by unfold apartR; rw [if_neg c1, if_pos rfl]
      rw [eR]
      subst hwb
      subst hW0
      go_enter Try.func12, Try.ntmps12
      go_wp2_with (first | (go_at_call 35; refine hl0.mono ?_; rintro e w1 ⟨rfl, hB1⟩; have hcw1 := blkc_ ((hB1.block _ (by omega)).trans hbw0); have hcl1 := blkc_ ((hB1.block _ (by omega)).trans hbl0)) | (go_at_call 36; refine (hwithin _).mono ?_; rintro e w2 ⟨rfl, m, rfl⟩))
      go_ret2
      exact ⟨_, rfl, Kd.R_nil _ _ _ _ _, pw_below_drewN (below_step hB0 hB1) m⟩
    | true =>
      subst hwb
      by_cases c2 : code = 0
      · have e2 : (code != 0) = false := bne_eq_false_iff_eq.mpr c2
        have eR : apartR code true res = (res, 0) := by unfold apartR; rw [if_neg c1, if_neg (by decide), if_pos c2]
        rw [eR]
        have hi := hind c2 rfl
        subst c2
        subst hW0
        clear hind
        go_enter Try.func12, Try.ntmps12
        go_wp2_with (first | (go_at_call 35; refine hl0.mono ?_; rintro e w1 ⟨rfl, hB1⟩; have hcw1 := blkc_ ((hB1.block _ (by omega)).trans hbw0); have hcl1 := blkc_ ((hB1.block _ (by omega)).trans hbl0)) | (go_at_call 36; refine (hwithin _).mono ?_; rintro e w2 ⟨rfl, m, rfl⟩; (have hBw3 := Below.alloc (Below.alloc (pw_below_drewN hB1 m) hB1.size (.cells #[] 9)) (le_alloc_ hB1.size) (.cells #[.slice (some ⟨w1.heap.size, 0, none⟩) 0 0] 22); have hcw3 := blkc_ ((hBw3.block _ (by omega)).trans hbw0))) | (go_at_call 37; refine (hi _ _ (.slice (some ⟨w1.heap.size, 0, none⟩) 0 0) hBw3 (by have := hB1.size; omega) (by have hq := heap_alloc_new ((w1.drewN m).alloc (.cells #[] 9)) (.cells #[.slice (some ⟨w1.heap.size, 0, none⟩) 0 0] 22); have hz := alloc_size_ (w1.drewN m) (.cells #[] 9); rw [hz] at hq; exact hq) (Kd.R_alloc ⟨fun _ _ => trivial, OwnRow.lit (inner := []) (w1.drewN m) _ (Reps.none _ _) hB1.size (by decide)⟩ _)).mono ?_; rintro e w4 ⟨v, rfl, hRv, hBv⟩))
        go_ret2
        exact ⟨_, rfl, hRv, hBv⟩
      · have e2 : (code != 0) = true := bne_iff_ne.mpr c2
        have eR : apartR code true res = ([], code) := by unfold apartR; rw [if_neg c1, if_neg (by decide), if_neg c2]
        rw [eR]
        subst hW0
        go_enter Try.func12, Try.ntmps12
        go_wp2_with (first | (go_at_call 35; refine hl0.mono ?_; rintro e w1 ⟨rfl, hB1⟩; have hcw1 := blkc_ ((hB1.block _ (by omega)).trans hbw0); have hcl1 := blkc_ ((hB1.block _ (by omega)).trans hbl0)) | (go_at_call 36; refine (hwithin _).mono ?_; rintro e w2 ⟨rfl, m, rfl⟩))
        go_ret2
        exact ⟨_, rfl, Kd.R_nil _ _ _ _ _, pw_below_drewN (below_step hB0 hB1) m⟩
theorem apF_mono {nr nr' : List ByteArray → Nat → Option Bool} (ws : List ByteArray) (h1 : ∀ tk i r, nr tk i = some r → nr' tk i = some r) : ∀ (d i : Nat) (tk : List ByteArray) (xs r : List Int), apF nr ws d i tk xs = some r → apF nr' ws d i tk xs = some r := by
  intro d
  induction d with
  | zero => intro i tk xs r h; exact h
  | succ d ih =>
    intro i tk xs r h
    simp only [apF] at h ⊢
    obtain ⟨b, hb, h⟩ := Option.bind_eq_some_iff.1 h
    rw [h1 _ _ _ hb, Option.bind_some]
    exact ih _ _ _ _ h

end Go.Proofs.Ytkdloidojmccgaa.H
