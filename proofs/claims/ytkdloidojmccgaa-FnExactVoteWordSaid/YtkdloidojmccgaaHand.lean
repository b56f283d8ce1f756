-- Mine: walks of functions that the print does not reach.
import Derived.Test.YtkdloidojmccgaaProg
import Derived.Test.YtkdloidojmccgaaWWords
import Derived.Test.YtkdloidojmccgaaWLast
import Derived.Test.YtkdloidojmccgaaWMore
import Derived.Sort.WalkB12
import Derived.Lib.SlicesMore
import Derived.Lib.OwnBridge
import Derived.WalkKit
import Derived.Deep.LoopGhost
import Derived.Deep.RegionLaw
import Derived.Lib.LazyBuf
import Derived.Laws.IdiomCopy
import Derived.Shelf.GgSortFunc.RowK
import Derived.Lib.ConvBytes
import Derived.Laws.BytesArg
import Derived.Tactics
import Derived.KernelRfl
import Derived.BigQuiet
import Derived.WalkSpells
import Derived.Lib.SliceRun
namespace Go.Proofs.Ytkdloidojmccgaa.H
open Go.RowKit Go.Sort Go.Proofs.YtkdloidojmccgaaW.PrintWords Go.Proofs.YtkdloidojmccgaaW.PrintLast
set_option linter.unusedVariables false
set_option linter.unusedSimpArgs false
theorem vote_setCell_at (w : World) (g o : Nat) (v : Value) (e : TypeId) (cur : Array Value) (h : w.heap[g]? = some (.cells cur e (0, 0))) : (w.setCell ⟨g, o, none⟩ v).heap[g]? = some (.cells (cur.setIfInBounds o v) e (0, 0)) := by
  simp [World.setCell, Array.getElem?_modify, h]
/-- Block g holds 26 numbers f. -/
def CntAt (g : Nat) (f : Nat → Int) (w : World) : Prop := ∃ cur : Array Value, w.heap[g]? = some (.cells cur 48 (0, 0)) ∧ cur.size = 26 ∧ ∀ j, j < 26 → cur[j]? = some (.int .i64 (f j))
theorem CntAt.cell {g : Nat} {f : Nat → Int} {w : World} (h : CntAt g f w) (j : Nat) (hj : j < 26) : w.cell? ⟨g, j, none⟩ = some (.int .i64 (f j)) := by
  obtain ⟨cur, hg, hs, hc⟩ := h
  simp only [World.cell?, hg]
  exact hc j hj
theorem CntAt.fz {g : Nat} {f : Nat → Int} {w : World} (h : CntAt g f w) (j : Nat) : w.frozen? ⟨g, j, none⟩ = false := by
  obtain ⟨cur, hg, hs, hc⟩ := h
  simp [World.frozen?, hg]
theorem CntAt.put {g : Nat} {f f' : Nat → Int} {w : World} (h : CntAt g f w) (j : Nat) (v : Int) (hj : j < 26) (hv : f' j = v) (ho : ∀ i, i ≠ j → f' i = f i) : CntAt g f' (w.setCell ⟨g, j, none⟩ (.int .i64 v)) := by
  obtain ⟨cur, hg, hs, hc⟩ := h
  refine ⟨_, vote_setCell_at w g j _ _ cur hg, by simp [hs], fun i hi => ?_⟩
  rw [Array.getElem?_setIfInBounds]
  by_cases e : j = i
  · subst e
    rw [if_pos rfl, if_pos (by omega), hv]
  · rw [if_neg e, ho i (fun z => e z.symm)]
    exact hc i hi
theorem CntAt.of_heap {g : Nat} {f : Nat → Int} {w w' : World} (h : CntAt g f w) (e : w'.heap[g]? = w.heap[g]?) : CntAt g f w' := by
  obtain ⟨cur, hg, hs, hc⟩ := h
  exact ⟨cur, e.trans hg, hs, hc⟩
theorem CntAt.reads {g : Nat} {f : Nat → Int} {w : World} (h : CntAt g f w) : Kd.C (Kd.int .i64) w (some ⟨g, 0, none⟩) ((List.range 26).map f).length ((List.range 26).map f) := by
  refine ⟨rfl, by simp, fun _ => ⟨⟨g, 0, none⟩, rfl, fun j p hp => ?_⟩⟩
  have hj : j < 26 := by
    have := (List.getElem?_eq_some_iff.1 hp).1
    simpa using this
  refine ⟨[.int .i64 p], rfl, rfl, fun i u hu => ?_⟩
  rw [List.getElem?_map, List.getElem?_range hj] at hp
  have hp' : f j = p := by simpa using hp
  match i, hu with
  | 0, hu =>
    rw [add_plain]
    have e := h.cell j hj
    rw [hp'] at e
    have : u = .int .i64 p := by simpa using hu.symm
    rw [this]
    have hz : j * (Kd.int .i64).sz + 0 = j := by show j * 1 + 0 = j; omega
    rw [hz]
    exact e
  | i + 1, hu => simp at hu
def cntV (ws : List ByteArray) (i : Nat) (c : Nat) : Int := ((ws.countP (fun w => bt w (i : Int) == 97 + (c : Int)) : Nat) : Int)
theorem cntV_step (ws : List ByteArray) (i j c : Nat) (hj : j < ws.length) : cntV (ws.take (j + 1)) i c = cntV (ws.take j) i c + (if bt (rdOf ByteArray.empty ws (j : Int)) (i : Int) = 97 + (c : Int) then 1 else 0) := by
  unfold cntV
  have e : ws.take (j + 1) = ws.take j ++ [rdOf ByteArray.empty ws (j : Int)] := by
    rw [List.take_succ_eq_append_getElem hj]
    congr 2
    simp [rdOf, List.getD_eq_getElem?_getD, List.getElem?_eq_getElem hj]
  rw [e, List.countP_append]
  by_cases h : bt (rdOf ByteArray.empty ws (j : Int)) (i : Int) = 97 + (c : Int)
  · rw [if_pos h]; simp [h]
  · rw [if_neg h]; simp [h]
theorem cntV_nonneg (ws : List ByteArray) (i c : Nat) : 0 ≤ cntV ws i c := Int.natCast_nonneg _
theorem cntV_le (ws : List ByteArray) (i c : Nat) : cntV ws i c ≤ (ws.length : Int) := by
  unfold cntV
  exact Int.ofNat_le.2 List.countP_le_length
def votesL (ws : List ByteArray) (i : Nat) : List Int := (List.range 26).map (cntV ws i)
/-- Each word has a letter at place i. -/
def lettersAt (ws : List ByteArray) (i : Nat) : Prop := ∀ j, j < ws.length → i < (rdOf ByteArray.empty ws (j : Int)).size ∧ 97 ≤ bt (rdOf ByteArray.empty ws (j : Int)) (i : Int) ∧ bt (rdOf ByteArray.empty ws (j : Int)) (i : Int) ≤ 122
theorem setCell_self (w : World) (a : Addr) (v : Value) (h : w.cell? a = some v) (hs : a.spot = none) : w.setCell a v = w := by
  obtain ⟨b, o, s⟩ := a
  simp only at hs
  subst hs
  cases hq : w.heap[b]? with
  | none => simp [World.cell?, hq] at h
  | some ob =>
    cases ob with
    | cells cur e fr =>
      simp only [World.cell?, hq] at h
      have hlt : b < w.heap.size := (Array.getElem?_eq_some_iff.1 hq).1
      have hv : w.heap[b] = .cells cur e fr := (Array.getElem?_eq_some_iff.1 hq).2
      unfold World.setCell
      cases w with
      | mk heap tape drawn os output =>
        congr 1
        apply Array.ext
        · simp
        · intro k h1 h2
          simp only [Array.getElem_modify]
          split
          · rename_i hk
            subst hk
            simp only at hv
            rw [hv]
            simp only
            congr 1
            apply Array.ext
            · simp
            · intro j h3 h4
              simp only [Option.isSome_none, Bool.false_eq_true, if_false]
              rw [Array.getElem_setIfInBounds]
              split
              · rename_i hj
                subst hj
                have h' : cur[o]? = some v := h
                rw [Array.getElem?_eq_getElem h4] at h'
                exact (Option.some.inj h').symm
              · rfl
          · rfl
    | _ => simp [World.cell?, hq] at h
theorem setCells_self (b : Nat) : ∀ (vs : List Value) (o : Nat) (w : World), (∀ j (h : j < vs.length), w.cell? ⟨b, o + j, none⟩ = some vs[j]) → w.setCells b o vs = w
  | [], _, _, _ => rfl
  | v :: r, o, w, h => by
    have h0 := h 0 (by simp)
    rw [World.setCells, setCell_self w ⟨b, o, none⟩ v (by simpa using h0) rfl]
    refine setCells_self b r (o + 1) w (fun j hj => ?_)
    have := h (j + 1) (by simpa using hj)
    rw [show o + 1 + j = o + (j + 1) by omega]
    simpa using this
theorem run_storeVar_self {P : Program} (w : World) (t : TypeId) (b o : Nat) (vs : Array Value) (hs : (sizeOf t).run P w = .ok vs.size w) (h1 : ∀ u ∈ vs.toList, u.oneCell' = true) (hc : ∀ j (h : j < vs.toList.length), w.cell? ⟨b, o + j, none⟩ = some vs.toList[j]) (hf : ∀ j, j < vs.toList.length → w.frozen? ⟨b, o + j, none⟩ = false) :
    (storeVar t ⟨b, o, none⟩ (.agg vs)).run P w = .ok () w := by
  have hst := run_storeCells_cells (P := P) b o vs.toList 0 w (fun j hj => by rw [Nat.add_zero, hc j hj]; rfl) (fun j hj => by rw [Nat.add_zero]; exact hf j hj) h1
  rw [Nat.add_zero, setCells_self b vs.toList o w hc] at hst
  unfold storeVar
  simp [hs, Value.cells, hst]
section
variable {P : Program} {ops : Array Oper} {Q : Exit → Act → World → Prop} {o : Oper} {rest : List Oper} {a : Act} {w : World}
theorem gate_store {t : TypeId} {p v : Operand} (_ho : o.op = .store t p v) (h : wpList P ops Q (o :: rest) a w) : wpList P ops Q (o :: rest) a w := h
theorem store_self_ (hg : o.guard = none) (hd : o.dst = none) {t : TypeId} {p v : Operand} (hop : o.op = .store t p v) (ad : Addr) (u : Value) (hp : a.eval p = .pointer (some ad)) (hv : a.eval v = u) (hrun : (storeVar t ad u).run P w = .ok () w) (h : wpList P ops Q rest a w) : wpList P ops Q (o :: rest) a w := by
  refine wpList_plain hg fun K hK => ?_
  unfold Oper.wp
  have he : (execOp a.eval o).run P w = .ok .skip w := by
    unfold execOp
    simp [hop, hp, hv, Instr.storeAt, Instr.sureAddr, hrun]
  rw [he, Oper.upon_skip, hd]
  exact hK _ _ h
end
def voteF (mx ix : List Int → Option Int) (jx : List Int → Int → Option Int) (ws : List ByteArray) : Nat → Nat → List Int → Option (List Int)
  | 0, _, xs => some xs
  | d + 1, i, xs => (mx (votesL ws i)).bind fun m => (jx (votesL ws i) m).bind fun b => if 0 ≤ b ∧ b < 26 then voteF mx ix jx ws d (i + 1) (xs ++ [97 + b]) else none
set_option maxHeartbeats 8000000 in
set_option maxRecDepth 100000 in
theorem voteWord_calls (A0 : Option Addr) (c0 : Nat) (ws : List ByteArray) (w : World) (hr0 : Kd.C Kd.string w A0 ws.length ws) (hc0 : ws.length ≤ c0) (h1 : 1 ≤ ws.length) (n : Nat) (hn : n = (rdOf ByteArray.empty ws 0).size) (hn12 : n ≤ 1000) (hw : ws.length ≤ 100000)
    (hl : ∀ i, i < n → lettersAt ws i) (res : List Int) (mx ix : List Int → Option Int) (jx : List Int → Int → Option Int) (hF : voteF mx ix jx ws n 0 [] = some res)
    (hcode : ∀ W, Below w.heap.size w W → Calls Try.prog 29 #[.slice A0 ws.length c0, .int .i64 1] W fun e w' => e = .returned (.int .i64 0) ∧ Below w.heap.size w w')
    (hmax : ∀ W g v m, v.length = 26 → Kd.C (Kd.int .i64) W (some ⟨g, 0, none⟩) v.length v → mx v = some m → Calls Try.prog 31 #[.slice (some ⟨g, 0, none⟩) 26 26] W fun e w' => e = .returned (.int .i64 m) ∧ Below W.heap.size W w')
    (hidx : ∀ W g v m b, v.length = 26 → Kd.C (Kd.int .i64) W (some ⟨g, 0, none⟩) v.length v → jx v m = some b → Calls Try.prog 30 #[.slice (some ⟨g, 0, none⟩) 26 26, .int .i64 m] W fun e w' => e = .returned (.int .i64 b) ∧ Below W.heap.size W w') :
    Calls Try.prog 9 #[.slice A0 ws.length c0] w fun e w' => e = .returned (.tuple #[.string (strOfNums res), .int .i64 0]) ∧ Below w.heap.size w w' := by
  obtain ⟨ad, hA, hcells⟩ : ∃ ad, A0 = some ad ∧ ∀ (W : World), Below w.heap.size w W → ∀ j, j < ws.length → W.cell? (ad.add j) = some (.string (rdOf ByteArray.empty ws (j : Int))) := by
    obtain ⟨ad, e, _⟩ := Kd.at_string hr0 0 (by omega) (by omega)
    refine ⟨ad, e, fun W hB j hj => ?_⟩
    obtain ⟨ad', e', hx⟩ := Kd.at_string hr0 (j : Int) (by omega) (by omega)
    rw [e] at e'
    obtain rfl : ad = ad' := Option.some.inj e'
    rw [Int.toNat_natCast] at hx
    exact (hB.cell (World.block_lt_of_cell? w _ hx)).trans hx
  subst hA
  have hc := hcode w (Below.refl _ _)
  have hN : Hid (n = (rdOf ByteArray.empty ws 0).size) := hn
  clear hcode hr0 hn
  go_enter Try.func9, Try.ntmps9
  go_wp2_with (go_at_call 29; refine hc.mono ?_; rintro e w1 ⟨rfl, hB1⟩; have hB2 : Below w.heap.size w (w1.alloc (.cells #[] 5)) := Below.alloc hB1 hB1.size _; have hz0 := hcells _ hB2 0 (by omega); rw [Addr.add_zero'] at hz0)
  have hO : Kd.R (Kd.int .u8) 5 (w1.alloc (.cells #[] 5)) w.heap.size (fun _ => True) (.slice (some ⟨w1.heap.size, 0, none⟩) 0 0) [] := ⟨fun _ _ => trivial, OwnRow.lit (inner := []) w1 w.heap.size (Reps.none _ _) hB1.size (by decide)⟩
  rw [← hN.out]
  generalize w1.alloc (.cells #[] 5) = W2 at hO hB2 ⊢
  generalize Value.slice (some ⟨w1.heap.size, 0, none⟩) 0 0 = v5 at hO ⊢
  clear hz0 hB1 hc
  go_loopg [5, 21] n (fun k s5 s21 wr => ∃ (i : Nat) (xs : List Int), s21 = .int .i64 (i : Int) ∧ i ≤ n ∧ n - i ≤ k ∧ voteF mx ix jx ws (n - i) i xs = some res ∧ Kd.R (Kd.int .u8) 5 wr w.heap.size (fun _ => True) s5 xs ∧ Below w.heap.size w wr ∧ xs.length = i)
  case atStart => exact ⟨0, [], rfl, Nat.zero_le _, Nat.le_refl _, hF, hO, hB2, rfl⟩
  case round =>
    as_aux_lemma =>
    obtain ⟨i, xs, rfl, hin, hk, hV, hR, hB, hx⟩ := hrel
    by_cases hlt : i < n
    · as_aux_lemma =>
      have hnew := heap_alloc_new wr (.cells #[.int .i64 0, .int .i64 0, .int .i64 0, .int .i64 0, .int .i64 0, .int .i64 0, .int .i64 0, .int .i64 0, .int .i64 0, .int .i64 0, .int .i64 0, .int .i64 0, .int .i64 0, .int .i64 0, .int .i64 0, .int .i64 0, .int .i64 0, .int .i64 0, .int .i64 0, .int .i64 0, .int .i64 0, .int .i64 0, .int .i64 0, .int .i64 0, .int .i64 0, .int .i64 0] 48)
      have hst : (storeVar 48 ⟨wr.heap.size, 0, none⟩ (.agg #[.int .i64 0, .int .i64 0, .int .i64 0, .int .i64 0, .int .i64 0, .int .i64 0, .int .i64 0, .int .i64 0, .int .i64 0, .int .i64 0, .int .i64 0, .int .i64 0, .int .i64 0, .int .i64 0, .int .i64 0, .int .i64 0, .int .i64 0, .int .i64 0, .int .i64 0, .int .i64 0, .int .i64 0, .int .i64 0, .int .i64 0, .int .i64 0, .int .i64 0, .int .i64 0])).run Try.prog (wr.alloc (.cells #[.int .i64 0, .int .i64 0, .int .i64 0, .int .i64 0, .int .i64 0, .int .i64 0, .int .i64 0, .int .i64 0, .int .i64 0, .int .i64 0, .int .i64 0, .int .i64 0, .int .i64 0, .int .i64 0, .int .i64 0, .int .i64 0, .int .i64 0, .int .i64 0, .int .i64 0, .int .i64 0, .int .i64 0, .int .i64 0, .int .i64 0, .int .i64 0, .int .i64 0, .int .i64 0] 48)) = .ok () (wr.alloc (.cells #[.int .i64 0, .int .i64 0, .int .i64 0, .int .i64 0, .int .i64 0, .int .i64 0, .int .i64 0, .int .i64 0, .int .i64 0, .int .i64 0, .int .i64 0, .int .i64 0, .int .i64 0, .int .i64 0, .int .i64 0, .int .i64 0, .int .i64 0, .int .i64 0, .int .i64 0, .int .i64 0, .int .i64 0, .int .i64 0, .int .i64 0, .int .i64 0, .int .i64 0, .int .i64 0] 48)) :=
        run_storeVar_self _ _ _ _ _ (by exact Try.sizeOf48 _) (by decide) (fun j hj => by
          simp only [World.cell?, hnew, Nat.zero_add]
          show (#[.int .i64 0, .int .i64 0, .int .i64 0, .int .i64 0, .int .i64 0, .int .i64 0, .int .i64 0, .int .i64 0, .int .i64 0, .int .i64 0, .int .i64 0, .int .i64 0, .int .i64 0, .int .i64 0, .int .i64 0, .int .i64 0, .int .i64 0, .int .i64 0, .int .i64 0, .int .i64 0, .int .i64 0, .int .i64 0, .int .i64 0, .int .i64 0, .int .i64 0, .int .i64 0] : Array Value)[j]? = _
          rw [← Array.getElem?_toList]
          exact List.getElem?_eq_getElem hj) (fun j hj => by simp only [World.frozen?, hnew]; simp)
      go_wp2_with (first | ((with_reducible refine gate_store (t := 48) rfl ?_); refine store_self_ rfl rfl rfl ⟨wr.heap.size, 0, none⟩ (.agg #[.int .i64 0, .int .i64 0, .int .i64 0, .int .i64 0, .int .i64 0, .int .i64 0, .int .i64 0, .int .i64 0, .int .i64 0, .int .i64 0, .int .i64 0, .int .i64 0, .int .i64 0, .int .i64 0, .int .i64 0, .int .i64 0, .int .i64 0, .int .i64 0, .int .i64 0, .int .i64 0, .int .i64 0, .int .i64 0, .int .i64 0, .int .i64 0, .int .i64 0, .int .i64 0]) rfl rfl hst ?_))
      obtain ⟨W0, hW0⟩ : ∃ W0, W0 = wr.alloc (.cells #[.int .i64 0, .int .i64 0, .int .i64 0, .int .i64 0, .int .i64 0, .int .i64 0, .int .i64 0, .int .i64 0, .int .i64 0, .int .i64 0, .int .i64 0, .int .i64 0, .int .i64 0, .int .i64 0, .int .i64 0, .int .i64 0, .int .i64 0, .int .i64 0, .int .i64 0, .int .i64 0, .int .i64 0, .int .i64 0, .int .i64 0, .int .i64 0, .int .i64 0, .int .i64 0] 48) := ⟨_, rfl⟩
      obtain ⟨g, hg⟩ : ∃ g, g = wr.heap.size := ⟨_, rfl⟩
      have hC0 : CntAt g (cntV (ws.take 0) i) W0 := by
        rw [hW0, hg]
        refine ⟨_, hnew, rfl, fun j hj => ?_⟩
        show (Array.replicate 26 (Value.int .i64 0))[j]? = _
        rw [Array.getElem?_replicate, if_pos hj, List.take_zero]
        rfl
      have hBW0 : Below g wr W0 := by rw [hW0, hg]; exact Below.alloc (Below.refl _ _) (Nat.le_refl _) _
      rw [← hW0, ← hg]
      clear hst hnew hW0
      have hGG : Hid (g = wr.heap.size) := hg
      have hGle : w.heap.size ≤ g := by rw [hg]; exact hB.size
      clear hg
      go_loopg [27] ws.length (fun k s27 W => ∃ j : Nat, s27 = .int .i64 (j : Int) ∧ j ≤ ws.length ∧ ws.length - j ≤ k ∧ CntAt g (cntV (ws.take j) i) W ∧ Below g wr W)
      case atStart => exact ⟨0, rfl, Nat.zero_le _, Nat.le_refl _, hC0, hBW0⟩
      case round =>
        obtain ⟨j, rfl, hjn, hk2, hC, hBW⟩ := hrel
        by_cases hjl : j < ws.length
        · have hz := hcells wr (hB.trans (hBW.mono hGle)) j hjl
          obtain ⟨hi1, hi2, hi3⟩ := hl i hlt j hjl
          have hst := fun c => cntV_step ws i j c hjl
          have hiT : (i < (rdOf ByteArray.empty ws (j : Int)).size) = True := eq_true hi1
          obtain ⟨c, hc⟩ : ∃ c : Nat, bt (rdOf ByteArray.empty ws (j : Int)) (i : Int) = 97 + (c : Int) := ⟨(bt (rdOf ByteArray.empty ws (j : Int)) (i : Int) - 97).toNat, by omega⟩
          have hc26 : c < 26 := by omega
          have hx : ∀ (h : i < (rdOf ByteArray.empty ws (j : Int)).size), (rdOf ByteArray.empty ws (j : Int))[i].toNat = 97 + c := by
            intro h
            have h2 := bt_at (rdOf ByteArray.empty ws (j : Int)) (i : Int) (by rw [Int.toNat_natCast]; exact h)
            rw [hc] at h2
            simp only [Int.toNat_natCast] at h2
            omega
          have hcm : (c : Int) % 256 = (c : Int) := by omega
          have hcm2 : c % 256 = c := by omega
          have hc26T : ((c : Int) < 26) = True := eq_true (by omega)
          have hc26U : (c < 26) = True := eq_true hc26
          have hcell := hC.cell c hc26
          have hfz := hC.fz c
          have hwj : IntKind.i64.wrap ((j : Int) + 1) = ((j + 1 : Nat) : Int) := by simp [IntKind.wrap, IntKind.bits, IntKind.signed]; omega
          clear hiT hi1 hi2 hi3 hst
          have hiT : (i < (rdOf ByteArray.empty ws (j : Int)).size) = True := eq_true (hl i hlt j hjl).1
          go_wp2
          go_roundg (ws.length - (j + 1))
          case measure => omega
          case rel =>
            refine ⟨j + 1, by simp, by omega, Nat.le_refl _, ?_, ?_⟩
            · have h0 := cntV_nonneg (ws.take j) i c
              have h9 := cntV_le (ws.take j) i c
              have h8 : (ws.take j).length ≤ ws.length := by rw [List.length_take]; omega
              refine hC.put c _ hc26 ?_ ?_
              · rw [cntV_step ws i j c hjl, if_pos hc]
                simp only [wrap64]
                omega
              · intro k hk
                rw [cntV_step ws i j k hjl, if_neg (by omega), Int.add_zero]
            · exact hBW.setCell (Nat.le_refl _) _
        · obtain rfl : j = ws.length := by omega
          rw [List.take_length] at hC
          obtain ⟨d, hd⟩ : ∃ d, n - i = d + 1 := ⟨n - i - 1, by omega⟩
          rw [hd] at hV
          simp only [voteF] at hV
          obtain ⟨m, hm, hV⟩ := Option.bind_eq_some_iff.1 hV
          obtain ⟨b, hb, hV⟩ := Option.bind_eq_some_iff.1 hV
          by_cases hb26 : 0 ≤ b ∧ b < 26
          · rw [if_pos hb26] at hV
            have hR2 := Kd.R_below hR (hBW.mono (Nat.le_of_eq hGG.out.symm))
            have hB2' : Below w.heap.size w wr := hB.trans (hBW.mono hGle)
            have hM : ∀ W, Below wr.heap.size wr W → Calls Try.prog 31 #[.slice (some ⟨g, 0, none⟩) 26 26] W fun e w' => e = .returned (.int .i64 m) ∧ Below wr.heap.size wr w' := fun W q =>
              (hmax W g (votesL ws i) m (by simp [votesL]) (Kd.C_below hC.reads q) hm).mono fun e w' h => ⟨h.1, q.trans (h.2.mono q.size)⟩
            have hI : ∀ W, Below wr.heap.size wr W → Calls Try.prog 30 #[.slice (some ⟨g, 0, none⟩) 26 26, .int .i64 m] W fun e w' => e = .returned (.int .i64 b) ∧ Below wr.heap.size wr w' := fun W q =>
              (hidx W g (votesL ws i) m b (by simp [votesL]) (Kd.C_below hC.reads q) hb).mono fun e w' h => ⟨h.1, q.trans (h.2.mono q.size)⟩
            clear hB hBW hC hR hmax hidx
            go_wp2
            go_region_with (first | (go_at_call 31; refine (hM _ (by first | exact Below.refl _ _ | exact (Below.refl _ _).drew | exact below_drewN (Below.refl _ _) _)).mono ?_; rintro e w3 ⟨rfl, hB3⟩) | (go_at_call 30; refine (hI _ (by first | exact hB3 | exact hB3.drew | exact below_drewN hB3 _)).mono ?_; rintro e w4 ⟨rfl, hB4⟩))
            have hw1 : wrap64 (97 + b) = 97 + b := by simp only [wrap64]; omega
            have hw2 : (97 + b) % 256 = 97 + b := by omega
            have hwi : IntKind.i64.wrap ((i : Int) + 1) = ((i + 1 : Nat) : Int) := by simp [IntKind.wrap, IntKind.bits, IntKind.signed]; omega
            have hR4 := Kd.R_below hR2 hB4
            have hB5 : Below w.heap.size w w4 := hB2'.trans (hB4.mono hB2'.size)
            clear hR2 hB2' hB4 hB3 hM hI
            go_wp2_with (first | ((with_reducible refine gate_builtin (b := .append) (xs := #[.tmp 44, .tmp 48]) rfl ?_); at_builtin; refine Kd.R_append (Kd.int .u8) (w0 := w) w.heap.size rfl (.tmp 44) (.tmp 48) 35 5 (.int .u8 0) 1 rfl Try.underlying35 (show (Try.prog.info? 5).map (fun i => (i.zero, i.size, i.bytes)) = some (some (.int .u8 0), 1, 1) by kernel_rfl) rfl (by decide) (by omega) u5 xs (97 + b) [.int .u8 (97 + b)] (fun _ => True) (fun _ => False) rfl rfl rfl (fun _ hk => hk.elim) (fun _ _ => trivial) (by first | exact hR4 | (apply Kd.R_drew; exact hR4)) (by first | exact hB5 | exact hB5.drew) (by exact hB5.size) (by omega) ?_; intro v5' w5 ho5 hb5 hg5 hat5))
            go_roundg (n - (i + 1))
            case measure => have := hlt; omega
            case rel => exact ⟨i + 1, xs ++ [97 + b], by simp, by omega, Nat.le_refl _, by rw [show n - (i + 1) = d by omega]; exact hV, ho5, hb5, by rw [List.length_append, hx]; rfl⟩
          · rw [if_neg hb26] at hV
            exact absurd hV (by simp)
    · obtain rfl : i = n := by omega
      rw [Nat.sub_self] at hV
      obtain rfl : xs = res := Option.some.inj hV
      have hcv := own_string (P := Try.prog) Try.underlying35 Try.underlying5 Try.underlying9 (Kd.own_of_R hR)
      go_wp2
      go_ret2
      exact ⟨rfl, hB⟩
theorem voteF_mono {mx mx' ix ix' : List Int → Option Int} {jx jx' : List Int → Int → Option Int} (ws : List ByteArray) (h1 : ∀ v r, mx v = some r → mx' v = some r) (h2 : ∀ v m r, jx v m = some r → jx' v m = some r) : ∀ (d i : Nat) (xs r : List Int), voteF mx ix jx ws d i xs = some r → voteF mx' ix' jx' ws d i xs = some r := by
  intro d
  induction d with
  | zero => intro i xs r h; exact h
  | succ d ih =>
    intro i xs r h
    simp only [voteF] at h ⊢
    obtain ⟨m, hm, h⟩ := Option.bind_eq_some_iff.1 h
    obtain ⟨b, hb, h⟩ := Option.bind_eq_some_iff.1 h
    rw [h1 _ _ hm, Option.bind_some, h2 _ _ _ hb, Option.bind_some]
    by_cases c : 0 ≤ b ∧ b < 26
    · rw [if_pos c] at h ⊢
      exact ih _ _ _ h
    · rw [if_neg c] at h; exact absurd h (by simp)
/-- All words are as long as the first one, and of letters. -/
def voteOk (l : List ByteArray) : Bool := l.all (fun s => decide (s.size = (rdOf ByteArray.empty l 0).size) && (List.range s.size).all (fun i => decide (97 ≤ bt s (i : Int)) && decide (bt s (i : Int) ≤ 122)))
theorem voteOk_at {l : List ByteArray} (h : voteOk l = true) (i : Nat) (hi : i < (rdOf ByteArray.empty l 0).size) : lettersAt l i := by
  intro j hj
  have hm : rdOf ByteArray.empty l (j : Int) ∈ l := by
    simp only [rdOf, Int.toNat_natCast, List.getD_eq_getElem?_getD, List.getElem?_eq_getElem hj, Option.getD_some]
    exact List.getElem_mem hj
  have h2 := List.all_eq_true.1 h _ hm
  rw [Bool.and_eq_true, decide_eq_true_iff] at h2
  refine ⟨by rw [h2.1]; exact hi, ?_⟩
  have h3 := List.all_eq_true.1 h2.2 i (List.mem_range.2 (by rw [h2.1]; exact hi))
  rw [Bool.and_eq_true, decide_eq_true_iff, decide_eq_true_iff] at h3
  exact h3

end Go.Proofs.Ytkdloidojmccgaa.H
