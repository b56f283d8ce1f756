-- Mine: walks of functions that the print does not reach.
import Derived.Test.YtchnklikeimpiaaDoorProg
import Derived.Test.YtchnklikeimpiaaDoorShelf
import Derived.Test.YtchnklikeimpiaaDoorWWords
import Derived.Test.YtchnklikeimpiaaDoorWLast
import Derived.Test.YtchnklikeimpiaaDoorWMore
import Derived.Sort.WalkB12
import Derived.Lib.SlicesMore
import Derived.Lib.OwnBridge
import Derived.WalkKit
import Derived.Deep.LoopGhost
import Derived.Deep.RegionLaw
import Derived.Lib.LazyBuf
import Derived.Laws.IdiomCopy
import Derived.Shelf.GgSortFunc.RowK
import Derived.Lib.ConvBytes
import Derived.Laws.BytesArg
import Derived.Tactics
import Derived.KernelRfl
import Derived.BigQuiet
import Derived.WalkSpells
import Derived.Lib.SliceRun
import Derived.StillTailTactics
import Derived.Maps.OwnOps
import Derived.Maps.OwnSet
import Derived.Maps.Views
import Derived.Maps.Keyed
import Derived.StringKeys
namespace Go.Proofs.YtchnklikeimpiaaDoor.H
open Go.RowKit Go.Sort Go.Proofs.YtchnklikeimpiaaDoorW.PrintWords Go.Proofs.YtchnklikeimpiaaDoorW.PrintLast
set_option linter.unusedVariables false
set_option linter.unusedSimpArgs false
theorem split_length (s sep : ByteArray) (h1 : 1 ≤ sep.size) : (Go.Lib.splitB sep 0 (Go.Lib.countB s sep) s).length = Go.Lib.countB s sep + 1 := Go.Lib.splitB_all sep h1 0 _ s rfl
theorem split_small (s sep : ByteArray) (h1 : 1 ≤ sep.size) : Go.Lib.countB s sep ≤ s.size := by
  have hc := Go.Lib.countB_mul_le sep h1 s.size s (Nat.le_refl _)
  have hc1 : Go.Lib.countB s sep ≤ Go.Lib.countB s sep * sep.size := Nat.le_mul_of_pos_right _ h1
  omega

/-! ### numbers in the scale of ten; texts joined -/
def Tab10a (w : World) : Prop := Lib.TabIs Tryd.prog w "internal/strconv.uint64pow10" .u64 Lib.pow10Tab
theorem tab10a_below {w w' : World} (h : Tab10a w) (hB : Below w.heap.size w w') : Tab10a w' := by
  unfold Tab10a Lib.TabIs at *
  unfold World.var? at *
  cases hg : Tryd.prog.globalNamed "internal/strconv.uint64pow10" with
  | none => rw [hg] at h; exact h
  | some g =>
    rw [hg] at h
    simp only [Option.bind_some] at h ⊢
    have hlt : g < w.heap.size := by
      rcases Nat.lt_or_ge g w.heap.size with q | q
      · exact q
      · rw [Array.getElem?_eq_none q] at h; exact absurd h (by simp)
    rw [hB.block g hlt]
    exact h
theorem decimal_callsa (n : Int) (h0 : -9223372036854775808 ≤ n) (h1 : n ≤ 9223372036854775807) (w : World) (ht : Tab10a w) :
    Calls Tryd.prog 46 #[.int .i64 n] w fun e w' => e = .returned (.string ⟨(Lib.itoa n).toArray⟩) ∧ Below w.heap.size w w' := by
  have hc := Tryd.strconv_FormatInt_10 n h0 h1 w ht
  go_enter Tryd.func46, Tryd.ntmps46
  go_wp2_with (go_at_call 62; refine hc.mono ?_; rintro e w1 ⟨rfl, k, os, rfl⟩)
  go_ret
  refine ⟨rfl, ?_⟩
  have hb : Below w.heap.size w (w.drewN k) := pw_below_drewN (Below.refl _ _) k
  refine ⟨hb.os, hb.tape, hb.output, Nat.le_trans hb.size (by simp [grow]), fun i hi => ?_⟩
  show ((w.drewN k).heap ++ os)[i]? = _
  rw [Array.getElem?_append_left (show i < (w.drewN k).heap.size from hi)]
  rfl
theorem dec_spot {w : World} {b o : Nat} {sp : Option Nat} {v : Value} (h : w.cell? ⟨b, o, sp⟩ = some v) : sp = none := by
  cases sp with
  | none => rfl
  | some s =>
    unfold World.cell? at h
    simp at h
    split at h <;> cases h
theorem join_calls (A0 : Option Addr) (c0 : Nat) (l0 : List ByteArray) (sep : ByteArray) (w : World) (hr0 : Kd.C Kd.string w A0 l0.length l0) (hc0 : l0.length ≤ c0) (hN : l0.length ≤ 140737488355328) (hl : (Lib.join (l0.map (·.data.toList)) sep.data.toList).length ≤ 140737488355328) :
    Calls Tryd.prog 55 #[.slice A0 l0.length c0, .string sep] w fun e w' => e = .returned (.string ⟨(Lib.join (l0.map (·.data.toList)) sep.data.toList).toArray⟩) ∧ Below w.heap.size w w' := by
  by_cases h0 : l0.length = 0
  · obtain rfl := List.length_eq_zero_iff.1 h0
    refine (Tryd.strings_Join_none A0 c0 sep w).mono ?_
    rintro e w' ⟨rfl, rfl⟩
    exact ⟨rfl, Below.refl _ _⟩
  · obtain ⟨⟨b, o, sp⟩, rfl, hx⟩ := Kd.at_string hr0 (0 : Int) (by omega) (by omega)
    have hsp : sp = none := dec_spot hx
    subst hsp
    have hlt := World.block_lt_of_cell? w _ hx
    refine (Tryd.strings_Join b o c0 l0 sep w (fun j x hj => ?_) hlt hN hc0 hl)
    obtain ⟨hjl, hje⟩ := List.getElem?_eq_some_iff.1 hj
    obtain ⟨ad, e_, hy⟩ := Kd.at_string hr0 (j : Int) (by omega) (by omega)
    injection e_ with e_
    subst e_
    rw [Int.toNat_natCast] at hy
    have hr : rdOf ByteArray.empty l0 (j : Int) = x := by simp [rdOf, List.getD_eq_getElem?_getD, hj]
    rw [hr] at hy
    have ha : (⟨b, o, none⟩ : Addr).add j = ⟨b, o + j, none⟩ := by
      unfold Addr.add
      split
      · rename_i hz; subst hz; rfl
      · rfl
    rw [ha] at hy
    exact hy

/-! ### impl.number -/
def ErrVars (w : World) : Prop := (∃ tp p, w.var? Tryd.prog "strconv.ErrSyntax" = some #[.iface tp p]) ∧ (∃ tp p, w.var? Tryd.prog "strconv.ErrRange" = some #[.iface tp p])
theorem var_below {w w' : World} {n : String} {cs : Array Value} (h : w.var? Tryd.prog n = some cs) (hB : Below w.heap.size w w') : w'.var? Tryd.prog n = some cs := by
  unfold World.var? at *
  cases hg : Tryd.prog.globalNamed n with
  | none => rw [hg] at h; exact h
  | some g =>
    rw [hg] at h
    simp only [Option.bind_some] at h ⊢
    have hlt : g < w.heap.size := by
      rcases Nat.lt_or_ge g w.heap.size with q | q
      · exact q
      · rw [Array.getElem?_eq_none q] at h; exact absurd h (by simp)
    rw [hB.block g hlt]
    exact h
def Tab10 (w : World) : Prop := Tab10a w ∧ ErrVars w
theorem tab10_below {w w' : World} (h : Tab10 w) (hB : Below w.heap.size w w') : Tab10 w' := by
  obtain ⟨h1, ⟨tp1, p1, e1⟩, ⟨tp2, p2, e2⟩⟩ := h
  exact ⟨tab10a_below h1 hB, ⟨tp1, p1, var_below e1 hB⟩, ⟨tp2, p2, var_below e2 hB⟩⟩
theorem decimal_calls (n : Int) (h0 : -9223372036854775808 ≤ n) (h1 : n ≤ 9223372036854775807) (w : World) (ht : Tab10 w) :
    Calls Tryd.prog 46 #[.int .i64 n] w fun e w' => e = .returned (.string ⟨(Lib.itoa n).toArray⟩) ∧ Below w.heap.size w w' := decimal_callsa n h0 h1 w ht.1
def numV (s : ByteArray) (most : Int) : Int × Bool := match Lib.parseIntB 64 s.data.toList with
  | .ok v => if (⟨(Lib.itoa v).toArray⟩ : ByteArray).toList = s.toList ∧ 0 ≤ v ∧ v ≤ most then (v, true) else (0, false)
  | _ => (0, false)
set_option maxHeartbeats 4000000 in
set_option maxRecDepth 100000 in
theorem within_calls (n a b : Int) (w : World) : Calls Tryd.prog 47 #[.int .i64 n, .int .i64 a, .int .i64 b] w fun e w' => e = .returned (.bool (decide (a ≤ n) && decide (n ≤ b))) ∧ w' = w := by
  go_enter Tryd.func47, Tryd.ntmps47
  go_wp2
  all_goals (go_ret; refine ⟨?_, rfl⟩; congr 2; simp only [decide_eq_true_eq, *]; first | rfl | (simp; omega) | (simp [*]))
set_option maxHeartbeats 4000000 in
set_option maxRecDepth 100000 in
theorem number_err (s : ByteArray) (most v : Int) (N te : Nat) (w w1 : World) (hB : Below w.heap.size w w1)
    (hp : Calls Tryd.prog 45 #[.string s, .int .i64 10, .int .i64 64] w fun e w' => ∃ N, e = .returned (.tuple #[.int .i64 v, .iface te (.pointer (some ⟨N, 0, none⟩))]) ∧ Below w.heap.size w w') :
    Calls Tryd.prog 28 #[.string s, .int .i64 most] w fun e w' => e = .returned (.tuple #[.int .i64 0, .bool false]) ∧ Below w.heap.size w w' := by
  go_enter Tryd.func28, Tryd.ntmps28
  go_wp2_with (go_at_call 45; refine hp.mono ?_; rintro e w2 ⟨N2, rfl, hb⟩)
  go_ret2
  exact ⟨rfl, hb⟩
set_option maxHeartbeats 4000000 in
set_option maxRecDepth 100000 in
theorem number_ok (s : ByteArray) (most v : Int) (w : World) (ht : Tab10 w) (h0 : -9223372036854775808 ≤ v) (h1 : v ≤ 9223372036854775807) (c1 : Bool) (hc1 : ((⟨(Lib.itoa v).toArray⟩ : ByteArray).toList != s.toList) = !c1) (c2 : Bool) (hc2 : (decide (0 ≤ v) && decide (v ≤ most)) = c2)
    (hp : Calls Tryd.prog 45 #[.string s, .int .i64 10, .int .i64 64] w fun e w' => e = .returned (.tuple #[.int .i64 v, .nilIface]) ∧ Below w.heap.size w w') :
    Calls Tryd.prog 28 #[.string s, .int .i64 most] w fun e w' => e = .returned (.tuple #[.int .i64 (if (c1 && c2) = true then v else 0), .bool (c1 && c2)]) ∧ Below w.heap.size w w' := by
  go_enter Tryd.func28, Tryd.ntmps28
  go_wp2_with (go_at_call 45; refine hp.mono ?_; rintro e w2 ⟨rfl, hb⟩)
  have hd := decimal_calls v h0 h1 w2 (tab10_below ht hb)
  generalize (⟨(Lib.itoa v).toArray⟩ : ByteArray) = tx at hd hc1
  cases c1 with
  | false =>
    have hc1 : (tx.toList != s.toList) = true := hc1
    go_wp2_with (go_at_call 46; refine hd.mono ?_; rintro e w3 ⟨rfl, hb3⟩)
    all_goals first | (go_ret2; exact ⟨rfl, hb.trans (hb3.mono hb.size)⟩) | simp_all
  | true =>
    have hc1 : (tx.toList != s.toList) = false := hc1
    cases c2 with
    | false =>
      go_wp2_with (go_at_call 46; refine hd.mono ?_; rintro e w3 ⟨rfl, hb3⟩)
      go_wp2_with (go_at_call 47; refine (within_calls v 0 most w3).mono ?_; rintro e w4 ⟨rfl, rfl⟩; rw [hc2])
      all_goals first | (go_ret2; exact ⟨rfl, hb.trans (hb3.mono hb.size)⟩) | simp_all
    | true =>
      go_wp2_with (go_at_call 46; refine hd.mono ?_; rintro e w3 ⟨rfl, hb3⟩)
      go_wp2_with (go_at_call 47; refine (within_calls v 0 most w3).mono ?_; rintro e w4 ⟨rfl, rfl⟩; rw [hc2])
      all_goals first | (go_ret2; exact ⟨rfl, hb.trans (hb3.mono hb.size)⟩) | simp_all
theorem number_calls (s : ByteArray) (most : Int) (w : World) (ht : Tab10 w) (hs : s.size ≤ 281474976710656) :
    Calls Tryd.prog 28 #[.string s, .int .i64 most] w fun e w' => e = .returned (.tuple #[.int .i64 (numV s most).1, .bool (numV s most).2]) ∧ Below w.heap.size w w' := by
  obtain ⟨tp1, p1, e1⟩ := ht.2.1
  obtain ⟨tp2, p2, e2⟩ := ht.2.2
  rcases h : Lib.parseIntB 64 s.data.toList with v | _ | _
  · obtain ⟨b0, b1⟩ := Lib.parseIntB_bounds h
    have e63 : ((2 ^ (64 - 1) : Nat) : Int) = 9223372036854775808 := by decide
    rw [e63] at b0 b1
    have hp : Calls Tryd.prog 45 #[.string s, .int .i64 10, .int .i64 64] w fun e w' => e = .returned (.tuple #[.int .i64 v, .nilIface]) ∧ Below w.heap.size w w' :=
      (Tryd.strconv_ParseInt_10_at64_ok s (by omega) v h w).mono fun e w' ⟨h1, h2⟩ => ⟨h1, by
        rcases h2 with rfl | ⟨t, rfl⟩
        · exact Below.refl _ _
        · exact Lib.bytesWorld_below _ _ _⟩
    by_cases c1 : (⟨(Lib.itoa v).toArray⟩ : ByteArray).toList = s.toList
    · by_cases c2 : 0 ≤ v ∧ v ≤ most
      · have hv : numV s most = (v, true) := by unfold numV; rw [h]; exact if_pos ⟨c1, c2⟩
        rw [hv]
        have hm := number_ok s most v w ht b0 (by omega) true (by simp [c1]) true (by simp [c2]) hp
        exact hm
      · have hv : numV s most = (0, false) := by unfold numV; rw [h]; exact if_neg (fun z => c2 z.2)
        rw [hv]
        have hm := number_ok s most v w ht b0 (by omega) true (by simp [c1]) false (by rw [Bool.and_eq_false_iff]; exact if z : 0 ≤ v then .inr (decide_eq_false (fun y => c2 ⟨z, y⟩)) else .inl (decide_eq_false z)) hp
        exact hm
    · have hv : numV s most = (0, false) := by unfold numV; rw [h]; exact if_neg (fun z => c1 z.1)
      rw [hv]
      have hm := number_ok s most v w ht b0 (by omega) false (bne_iff_ne.mpr c1) _ rfl hp
      exact hm
  · have hv : numV s most = (0, false) := by unfold numV; rw [h]
    rw [hv]
    exact number_err s most 0 0 _ w w (Below.refl _ _) ((Tryd.strconv_ParseInt_10_at64_syntax_var s hs _ (by exact ⟨nofun, nofun⟩) h tp1 p1 w e1).mono (fun e w' ⟨N, h1, _, _, hb⟩ => ⟨N, h1, hb⟩))
  · have hv : numV s most = (0, false) := by unfold numV; rw [h]
    rw [hv]
    exact number_err s most _ 0 _ w w (Below.refl _ _) ((Tryd.strconv_ParseInt_10_at64_range_var s hs h tp2 p2 w e2).mono (fun e w' ⟨N, h1, _, _, hb⟩ => ⟨N, h1, hb⟩))

set_option maxHeartbeats 4000000 in
set_option maxRecDepth 100000 in
theorem habitWords_calls (w : World) : Calls Tryd.prog 24 #[] w fun e w' => e = .returned (.slice (some ⟨w.heap.size, 0, none⟩) 5 5) ∧ w' = w.alloc (.cells #[.string ⟨#[110, 111, 110, 101]⟩, .string ⟨#[115, 119, 97, 112]⟩, .string ⟨#[100, 114, 111, 112]⟩, .string ⟨#[100, 111, 117, 98, 108, 101]⟩, .string ⟨#[116, 117, 114, 110]⟩] 9) := by
  go_enter Tryd.func24, Tryd.ntmps24
  go_wp2
  go_ret
  exact ⟨rfl, rfl⟩
def kindName (a : Int) : ByteArray := if a = 0 then ⟨#[110, 111, 110, 101]⟩ else if a = 1 then ⟨#[115, 119, 97, 112]⟩ else if a = 2 then ⟨#[100, 114, 111, 112]⟩ else if a = 3 then ⟨#[100, 111, 117, 98, 108, 101]⟩ else ⟨#[116, 117, 114, 110]⟩
theorem kindName_size (a : Int) : (kindName a).size ≤ 6 := by
  unfold kindName
  repeat (split; · decide)
  decide
def putB (o : ByteArray) (b : Int) : ByteArray := if b = 0 then o else o ++ ((⟨#[32]⟩ : ByteArray) ++ strOfNums [b])
theorem habitWords_at (a : Int) (h0 : 0 ≤ a) (h5 : a < 5) (w : World) : Calls Tryd.prog 24 #[] w fun e w' => ∃ B, e = .returned (.slice (some ⟨B, 0, none⟩) 5 5) ∧ w'.cell? ⟨B, a.toNat, none⟩ = some (.string (kindName a)) ∧ Below w.heap.size w w' := by
  refine (habitWords_calls w).mono ?_
  rintro e w' ⟨rfl, rfl⟩
  refine ⟨w.heap.size, rfl, ?_, Below.alloc (Below.refl _ _) (Nat.le_refl _) _⟩
  have : a = 0 ∨ a = 1 ∨ a = 2 ∨ a = 3 ∨ a = 4 := by omega
  have hk := heap_alloc_new w (.cells #[.string ⟨#[110, 111, 110, 101]⟩, .string ⟨#[115, 119, 97, 112]⟩, .string ⟨#[100, 114, 111, 112]⟩, .string ⟨#[100, 111, 117, 98, 108, 101]⟩, .string ⟨#[116, 117, 114, 110]⟩] 9)
  rcases this with rfl | rfl | rfl | rfl | rfl <;> simp only [World.cell?, hk] <;> rfl
theorem conv_one (W : World) (b : Int) (B : Nat) (h : W.cell? ⟨B, 0, none⟩ = some (.int .u8 b)) : (convert 74 9 (.slice (some ⟨B, 0, none⟩) 1 1)).run Tryd.prog W = .ok (.string (strOfNums [b])) W :=
  run_convert_bytes_arg (P := Tryd.prog) W 74 5 Tryd.underlying74 Tryd.underlying5 B 0 1 1 [b] rfl (fun i hi => by simp at hi; subst hi; simpa using h) 9 Tryd.underlying9
set_option maxHeartbeats 8000000 in
set_option maxRecDepth 100000 in
theorem habitText_calls (a b c : Int) (w : World) (h0 : 0 ≤ a) (h5 : a < 5)
    (hv : ∀ W : World, Calls Tryd.prog 43 #[.agg #[.int .i8 a, .int .u8 b, .int .u8 c]] W fun e w' => e = .returned (.bool true) ∧ Below W.heap.size W w') :
    Calls Tryd.prog 25 #[.agg #[.int .i8 a, .int .u8 b, .int .u8 c]] w fun e w' => e = .returned (.string (putB (putB (kindName a) b) c)) ∧ Below w.heap.size w w' := by
  obtain ⟨res, hres⟩ : ∃ res, res = putB (putB (kindName a) b) c := ⟨_, rfl⟩
  rw [← hres]
  have hw := habitWords_at a h0 h5
  have hcv : ∀ (W : World) (b : Int) (B : Nat), W.heap.size = B → (convert 74 9 (.slice (some ⟨B, 0, none⟩) 1 1)).run Tryd.prog (W.alloc (.cells #[.int .u8 b] 5)) = .ok (.string (strOfNums [b])) (W.alloc (.cells #[.int .u8 b] 5)) := fun W b B hB => by subst hB; exact conv_one _ b _ (by simp only [World.cell?, heap_alloc_new]; rfl)
  have hs1 : ∀ b : Int, (strOfNums [b]).size = 1 := fun b => rfl
  have hnm := kindName_size a
  generalize kindName a = nm at *
  unfold putB at hres
  have hbx : (w.alloc (.cells #[.int .i8 a, .int .u8 b, .int .u8 c] 24)).cell? ⟨w.heap.size, 0, none⟩ = some (.int .i8 a) ∧ (w.alloc (.cells #[.int .i8 a, .int .u8 b, .int .u8 c] 24)).cell? ⟨w.heap.size, 1, none⟩ = some (.int .u8 b) ∧ (w.alloc (.cells #[.int .i8 a, .int .u8 b, .int .u8 c] 24)).cell? ⟨w.heap.size, 2, none⟩ = some (.int .u8 c) := by
    have hk := heap_alloc_new w (.cells #[.int .i8 a, .int .u8 b, .int .u8 c] 24)
    refine ⟨?_, ?_, ?_⟩ <;> simp only [World.cell?, hk] <;> rfl
  have hb0 : Below w.heap.size w (w.alloc (.cells #[.int .i8 a, .int .u8 b, .int .u8 c] 24)) := Below.alloc (Below.refl _ _) (Nat.le_refl _) _
  have hsz : w.heap.size < (w.alloc (.cells #[.int .i8 a, .int .u8 b, .int .u8 c] 24)).heap.size := by show w.heap.size < (w.heap.push _).size; rw [Array.size_push]; exact Nat.lt_succ_self _
  obtain ⟨hx0, hx1, hx2⟩ := hbx
  go_enter Tryd.func25, Tryd.ntmps25
  generalize hW0 : w.alloc (.cells #[.int .i8 a, .int .u8 b, .int .u8 c] 24) = W0 at *
  go_wp2_with (go_at_call 43; refine (hv _).mono ?_; rintro e W1 ⟨rfl, hB1⟩)
  replace hx0 := (hB1.cell (p := ⟨w.heap.size, 0, none⟩) hsz).trans hx0
  replace hx1 := (hB1.cell (p := ⟨w.heap.size, 1, none⟩) hsz).trans hx1
  replace hx2 := (hB1.cell (p := ⟨w.heap.size, 2, none⟩) hsz).trans hx2
  replace hb0 := hb0.trans (hB1.mono (by omega))
  replace hsz := Nat.lt_of_lt_of_le hsz hB1.size
  clear hB1 hW0
  by_cases hb : b = 0
  · by_cases hc : c = 0
    · rw [if_pos hb, if_pos hc] at hres
      go_region_with (go_at_call 24; refine (hw _).mono ?_; rintro e W2 ⟨B, rfl, hB2, hb2⟩; have hx0' := (hb2.cell (p := ⟨w.heap.size, 0, none⟩) hsz).trans hx0; have hx1' := (hb2.cell (p := ⟨w.heap.size, 1, none⟩) hsz).trans hx1; have hx2' := (hb2.cell (p := ⟨w.heap.size, 2, none⟩) hsz).trans hx2)
      all_goals (
        have hF := (hb0.drew).trans (hb2.mono (B' := w.heap.size) (Nat.le_of_lt hsz))
        clear hb0 hb2 hx0 hx1 hx2 hw hv hB2
        go_wp2
        refine wp_loop_rounds 3 ?_
        rw [rounds_succ]
        go_wp2
        rw [rounds_succ]
        go_wp2
        rw [rounds_succ]
        go_wp2
        go_ret
        exact ⟨by rw [hres]; simp only [hb, hc] <;> rfl, by repeat (first | exact hF | apply below_alloc)⟩)
    · rw [if_pos hb, if_neg hc] at hres
      go_region_with (go_at_call 24; refine (hw _).mono ?_; rintro e W2 ⟨B, rfl, hB2, hb2⟩; have hx0' := (hb2.cell (p := ⟨w.heap.size, 0, none⟩) hsz).trans hx0; have hx1' := (hb2.cell (p := ⟨w.heap.size, 1, none⟩) hsz).trans hx1; have hx2' := (hb2.cell (p := ⟨w.heap.size, 2, none⟩) hsz).trans hx2)
      all_goals (
        have hF := (hb0.drew).trans (hb2.mono (B' := w.heap.size) (Nat.le_of_lt hsz))
        clear hb0 hb2 hx0 hx1 hx2 hw hv hB2
        go_wp2
        refine wp_loop_rounds 3 ?_
        rw [rounds_succ]
        go_wp2
        rw [rounds_succ]
        go_wp2
        rw [rounds_succ]
        go_wp2
        go_ret
        exact ⟨by rw [hres]; simp only [hb, hc] <;> rfl, by repeat (first | exact hF | apply below_alloc)⟩)
  · by_cases hc : c = 0
    · rw [if_neg hb, if_pos hc] at hres
      go_region_with (go_at_call 24; refine (hw _).mono ?_; rintro e W2 ⟨B, rfl, hB2, hb2⟩; have hx0' := (hb2.cell (p := ⟨w.heap.size, 0, none⟩) hsz).trans hx0; have hx1' := (hb2.cell (p := ⟨w.heap.size, 1, none⟩) hsz).trans hx1; have hx2' := (hb2.cell (p := ⟨w.heap.size, 2, none⟩) hsz).trans hx2)
      all_goals (
        have hF := (hb0.drew).trans (hb2.mono (B' := w.heap.size) (Nat.le_of_lt hsz))
        clear hb0 hb2 hx0 hx1 hx2 hw hv hB2
        go_wp2
        refine wp_loop_rounds 3 ?_
        rw [rounds_succ]
        go_wp2
        rw [rounds_succ]
        go_wp2
        rw [rounds_succ]
        go_wp2
        go_ret
        exact ⟨by rw [hres]; simp only [hb, hc] <;> rfl, by repeat (first | exact hF | apply below_alloc)⟩)
    · rw [if_neg hb, if_neg hc] at hres
      go_region_with (go_at_call 24; refine (hw _).mono ?_; rintro e W2 ⟨B, rfl, hB2, hb2⟩; have hx0' := (hb2.cell (p := ⟨w.heap.size, 0, none⟩) hsz).trans hx0; have hx1' := (hb2.cell (p := ⟨w.heap.size, 1, none⟩) hsz).trans hx1; have hx2' := (hb2.cell (p := ⟨w.heap.size, 2, none⟩) hsz).trans hx2)
      all_goals (
        have hF := (hb0.drew).trans (hb2.mono (B' := w.heap.size) (Nat.le_of_lt hsz))
        clear hb0 hb2 hx0 hx1 hx2 hw hv hB2
        go_wp2
        refine wp_loop_rounds 3 ?_
        rw [rounds_succ]
        go_wp2
        rw [rounds_succ]
        go_wp2
        rw [rounds_succ]
        go_wp2
        go_ret
        exact ⟨by rw [hres]; simp only [hb, hc] <;> rfl, by repeat (first | exact hF | apply below_alloc)⟩)
set_option maxHeartbeats 4000000 in
set_option maxRecDepth 100000 in
theorem habitBad_calls (a b c : Int) (w : World)
    (hv : ∀ W : World, Calls Tryd.prog 43 #[.agg #[.int .i8 a, .int .u8 b, .int .u8 c]] W fun e w' => e = .returned (.bool false) ∧ Below W.heap.size W w') :
    Calls Tryd.prog 25 #[.agg #[.int .i8 a, .int .u8 b, .int .u8 c]] w fun e w' => e = .returned (.string ⟨#[]⟩) ∧ Below w.heap.size w w' := by
  have hb0 : Below w.heap.size w (w.alloc (.cells #[.int .i8 a, .int .u8 b, .int .u8 c] 24)) := Below.alloc (Below.refl _ _) (Nat.le_refl _) _
  have hsz : w.heap.size < (w.alloc (.cells #[.int .i8 a, .int .u8 b, .int .u8 c] 24)).heap.size := by show w.heap.size < (w.heap.push _).size; rw [Array.size_push]; exact Nat.lt_succ_self _
  go_enter Tryd.func25, Tryd.ntmps25
  go_wp2_with (go_at_call 43; refine (hv _).mono ?_; rintro e W1 ⟨rfl, hB1⟩)
  go_ret
  exact ⟨rfl, hb0.trans (hB1.mono (Nat.le_of_lt hsz))⟩

end Go.Proofs.YtchnklikeimpiaaDoor.H
