-- Mine: walks of functions that the print does not reach.
import Derived.Test.YtgpilljegihblaaDoorProg
import Derived.Test.YtgpilljegihblaaDoorShelf
import Derived.Test.YtgpilljegihblaaDoorWWords
import Derived.Test.YtgpilljegihblaaDoorWLast
import Derived.Test.YtgpilljegihblaaDoorWMore
import Derived.Sort.WalkB12
import Derived.Lib.SlicesMore
import Derived.Lib.OwnBridge
import Derived.WalkKit
import Derived.Deep.LoopGhost
import Derived.Deep.RegionLaw
import Derived.Lib.LazyBuf
import Derived.Laws.IdiomCopy
import Derived.Shelf.GgSortFunc.RowK
import Derived.Lib.ConvBytes
import Derived.Laws.BytesArg
import Derived.Tactics
import Derived.KernelRfl
import Derived.BigQuiet
import Derived.WalkSpells
import Derived.Lib.SliceRun
import Derived.StillTailTactics
import Derived.Maps.OwnOps
import Derived.Maps.OwnSet
import Derived.Maps.Views
import Derived.Maps.Keyed
import Derived.StringKeys
namespace Go.Proofs.YtgpilljegihblaaDoor.H
open Go.RowKit Go.Sort Go.Proofs.YtgpilljegihblaaDoorW.PrintWords Go.Proofs.YtgpilljegihblaaDoorW.PrintLast
set_option linter.unusedVariables false
set_option linter.unusedSimpArgs false
/-! ### numbers in the scale of ten; texts joined -/
def Tab10 (w : World) : Prop := Lib.TabIs Tryd.prog w "internal/strconv.uint64pow10" .u64 Lib.pow10Tab
theorem tab10_below {w w' : World} (h : Tab10 w) (hB : Below w.heap.size w w') : Tab10 w' := by
  unfold Tab10 Lib.TabIs at *
  unfold World.var? at *
  cases hg : Tryd.prog.globalNamed "internal/strconv.uint64pow10" with
  | none => rw [hg] at h; exact h
  | some g =>
    rw [hg] at h
    simp only [Option.bind_some] at h ⊢
    have hlt : g < w.heap.size := by
      rcases Nat.lt_or_ge g w.heap.size with q | q
      · exact q
      · rw [Array.getElem?_eq_none q] at h; exact absurd h (by simp)
    rw [hB.block g hlt]
    exact h
theorem decimal_calls (n : Int) (h0 : -9223372036854775808 ≤ n) (h1 : n ≤ 9223372036854775807) (w : World) (ht : Tab10 w) :
    Calls Tryd.prog 20 #[.int .i64 n] w fun e w' => e = .returned (.string ⟨(Lib.itoa n).toArray⟩) ∧ Below w.heap.size w w' := by
  have hc := Tryd.strconv_FormatInt_10 n h0 h1 w ht
  go_enter Tryd.func20, Tryd.ntmps20
  go_wp2_with (go_at_call 34; refine hc.mono ?_; rintro e w1 ⟨rfl, k, os, rfl⟩)
  go_ret
  refine ⟨rfl, ?_⟩
  have hb : Below w.heap.size w (w.drewN k) := pw_below_drewN (Below.refl _ _) k
  refine ⟨hb.os, hb.tape, hb.output, Nat.le_trans hb.size (by simp [grow]), fun i hi => ?_⟩
  show ((w.drewN k).heap ++ os)[i]? = _
  rw [Array.getElem?_append_left (show i < (w.drewN k).heap.size from hi)]
  rfl
theorem dec_spot {w : World} {b o : Nat} {sp : Option Nat} {v : Value} (h : w.cell? ⟨b, o, sp⟩ = some v) : sp = none := by
  cases sp with
  | none => rfl
  | some s =>
    unfold World.cell? at h
    simp at h
    split at h <;> cases h
theorem join_calls (A0 : Option Addr) (c0 : Nat) (l0 : List ByteArray) (sep : ByteArray) (w : World) (hr0 : Kd.C Kd.string w A0 l0.length l0) (hc0 : l0.length ≤ c0) (hN : l0.length ≤ 140737488355328) (hl : (Lib.join (l0.map (·.data.toList)) sep.data.toList).length ≤ 140737488355328) :
    Calls Tryd.prog 21 #[.slice A0 l0.length c0, .string sep] w fun e w' => e = .returned (.string ⟨(Lib.join (l0.map (·.data.toList)) sep.data.toList).toArray⟩) ∧ Below w.heap.size w w' := by
  by_cases h0 : l0.length = 0
  · obtain rfl := List.length_eq_zero_iff.1 h0
    refine (Tryd.strings_Join_none A0 c0 sep w).mono ?_
    rintro e w' ⟨rfl, rfl⟩
    exact ⟨rfl, Below.refl _ _⟩
  · obtain ⟨⟨b, o, sp⟩, rfl, hx⟩ := Kd.at_string hr0 (0 : Int) (by omega) (by omega)
    have hsp : sp = none := dec_spot hx
    subst hsp
    have hlt := World.block_lt_of_cell? w _ hx
    refine (Tryd.strings_Join b o c0 l0 sep w (fun j x hj => ?_) hlt hN hc0 hl)
    obtain ⟨hjl, hje⟩ := List.getElem?_eq_some_iff.1 hj
    obtain ⟨ad, e_, hy⟩ := Kd.at_string hr0 (j : Int) (by omega) (by omega)
    injection e_ with e_
    subst e_
    rw [Int.toNat_natCast] at hy
    have hr : rdOf ByteArray.empty l0 (j : Int) = x := by simp [rdOf, List.getD_eq_getElem?_getD, hj]
    rw [hr] at hy
    have ha : (⟨b, o, none⟩ : Addr).add j = ⟨b, o + j, none⟩ := by
      unfold Addr.add
      split
      · rename_i hz; subst hz; rfl
      · rfl
    rw [ha] at hy
    exact hy

end Go.Proofs.YtgpilljegihblaaDoor.H
