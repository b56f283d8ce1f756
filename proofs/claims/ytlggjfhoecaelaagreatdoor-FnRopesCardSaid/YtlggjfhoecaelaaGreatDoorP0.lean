-- Printed by wip/print (my turned copy of the kit's print) out of the translation; Lean checks it.
import Derived.Test.YtlggjfhoecaelaaGreatDoorProg
import Derived.ChangeKeysEq
import Derived.Below
import Derived.Deep.Draws
import Derived.Deep.AppendLies
import Derived.Maps.AppendAt
import Derived.OwnWalk
import Derived.Laws.BytesArg
import Derived.Laws.MakeOwn
import Derived.Laws.OwnMore
import Derived.Deep.OwnRows
import Derived.Tactics
import Derived.Lib.ConvBytes
import Derived.Laws.Slices
import Derived.WalkKit
import Derived.KernelRfl
import Derived.RowKit3
import Derived.Deep.LoopGhost
import Derived.Deep.QuietTactic
import Derived.BigQuiet
import Derived.WideLaws
import Derived.Deep.DeepCutAuto
import Derived.Deep.CutBlock
import Derived.Deep.RegionHeld3
import Derived.Laws.Rows
import Derived.Lib.AppendStr
import Derived.ArgAppend
import Derived.Laws.IdiomCopy
import Derived.OrdersHeld
import Derived.Laws.BitsLemmas
import Derived.RowKit
import Derived.WalkSpells
import Derived.Lib.SliceRun
import Derived.Test.YtlggjfhoecaelaaGreatDoorHand
import Derived.Test.YtlggjfhoecaelaaGreatDoorShelf
import Derived.Test.YtlggjfhoecaelaaGreatDoorWWords
import Derived.Test.YtlggjfhoecaelaaGreatDoorWLast
import Derived.Test.YtlggjfhoecaelaaGreatDoorWTab
import Derived.Test.YtlggjfhoecaelaaGreatDoorWFour
import Derived.Test.YtlggjfhoecaelaaGreatDoorWQPut
import Derived.Test.YtlggjfhoecaelaaGreatDoorWApart
import Derived.Test.YtlggjfhoecaelaaGreatDoorWArr
import Derived.Test.YtlggjfhoecaelaaGreatDoorWZeros
import Derived.Test.YtlggjfhoecaelaaGreatDoorWFoot
import Derived.Test.YtlggjfhoecaelaaGreatDoorWKept
import Derived.Test.YtlggjfhoecaelaaGreatDoorWShare
import Derived.Test.YtlggjfhoecaelaaGreatDoorWN
import Derived.Test.YtlggjfhoecaelaaGreatDoorWFootNe
import Derived.Test.YtlggjfhoecaelaaGreatDoorWAt
import Derived.Test.YtlggjfhoecaelaaGreatDoorWEqStruct
import Derived.Test.YtlggjfhoecaelaaGreatDoorWRepsOne
import Derived.Test.YtlggjfhoecaelaaGreatDoorWInv
import Derived.Test.YtlggjfhoecaelaaGreatDoorWInvWords
import Derived.Test.YtlggjfhoecaelaaGreatDoorWGuard
import Derived.Test.YtlggjfhoecaelaaGreatDoorWNEv
import Derived.Test.YtlggjfhoecaelaaGreatDoorWMore
namespace Go.Proofs.YtlggjfhoecaelaaGreatDoor.P
open Go.RowKit Go.Proofs.YtlggjfhoecaelaaGreatDoorW.PrintWords Go.Proofs.YtlggjfhoecaelaaGreatDoorW.PrintLast Go.Proofs.YtlggjfhoecaelaaGreatDoorW.PrintMore
attribute [local go_sem] max2_int min2_int max_two min_two max_three min_three max_four min_four   -- for this text's walks alone
set_option linter.unusedVariables false
set_option linter.unusedSimpArgs false



def errW : Option Int → Value
  | none => .nilIface
  | some c => .iface 0 (.int .i64 c)
theorem errW_none : errW none = .nilIface := rfl
theorem errW_some (c : Int) : errW (some c) = .iface 0 (.int .i64 c) := rfl

section
variable {P : Program} {ops : Array Oper} {Q : Exit → Act → World → Prop} {o : Oper} {rest : List Oper} {a : Act} {W : World}
theorem gate_tmpcall {t : Tmp} {ars : Array Operand} {ts : Array TypeId} (_ho : o.op = .call { callee := .value (.tmp t), args := ars, argTypes := ts }) (h : wpList P ops Q (o :: rest) a W) : wpList P ops Q (o :: rest) a W := h
/-- A call through a function value that is known, in a plain region. -/
theorem goesF_ {oi : Oper} {w : World} (N : Option Tmp) (hd : oi.dst = N) (hg : oi.guard = none) {t : Tmp} {f : FuncId} {fn : Func} {ars : Array Operand} {ts : Array TypeId} (hf : P.funcs[f]? = some fn) (hname : (fn.name == "runtime.NumGoroutine") = false) (hb : fn.body.isSome = true) (lb args : Array Value)
    (hop : oi.op = .call { callee := .value (.tmp t), args := ars, argTypes := ts }) (hv : a.eval (.tmp t) = .func (.func f) #[] lb) (hargs : ars.map a.eval ++ lb = args)
    (h : Calls P f args w fun e w' => ∃ v, e = .returned v ∧ wpList P ops Q rest (a.put N v) w') : wpList P ops Q (oi :: rest) a w := by
  refine wpList_plain hg fun K hK => ?_
  have he := enters_ hf hname hb args w
  have hrun : (execOp a.eval oi).run P w = .ok (.enter f args) w := by
    unfold execOp
    simp [hop, resolve, Deferred.ofValue, invoke, hv, hargs, he]
  unfold Oper.wp
  rw [hrun, Oper.upon_enter]
  refine h.mono fun e w'' hh => ?_
  obtain ⟨v, rfl, hk⟩ := hh
  subst hd
  exact hK _ _ hk
end
section
variable {α : Type} {d : Kd α} {e : Nat} {w : World} {base : Nat} {ok : Nat → Prop} {v : Value} {xs : List α} {g : Nat} {ob : Obj}
end
/-! short words of squeeze.py: a fact carried over what was made since -/
theorem zR {A B : Prop} (h : A) (f : A → B := by intro h_; (with_reducible repeat (first | apply Kd.R_alloc | apply Kd.R_drewN | apply Kd.R_drew)); exact h_) : B := f h
theorem zK {A B : Prop} (h : A) (f : A → B := by intro h_; (with_reducible repeat (first | refine blk_drewN ?_ _ | refine blk_drew ?_ | refine blk_alloc ?_ _)); exact h_) : B := f h
theorem zC {A B : Prop} (h : A) (f : A → B := by intro h_; repeat (first | (with_reducible exact h_) | (with_reducible refine Kd.C_alloc ?_ _) | (with_reducible refine Kd.C_drewN ?_ _) | (with_reducible refine Kd.C_drew ?_) | exact h_)) : B := f h
theorem zB {A B : Prop} (h : A) (f : A → B := by intro h_; repeat (first | (with_reducible first | exact h_ | apply below_alloc | apply pw_below_drewN | apply below_drew1) | exact h_)) : B := f h
theorem zBG {A G B : Prop} (h : A) (g : G) (f : A → G → B := by intro h_ g_; repeat (first | (with_reducible first | exact h_ | apply below_alloc | apply pw_below_drewN | apply below_drew1 | refine below_set ?_ g_) | exact h_)) : B := f h g
theorem ak {p : Prop} (h : p) : Aside0 p := ⟨h⟩
theorem zs {α : Type} (l : List α) (i : Nat) (a : α) : l.toArray.setIfInBounds i a = (l.set i a).toArray := List.setIfInBounds_toArray l i a
theorem zz {α : Type} (x : α) (xs : List α) (a : α) : (x :: xs).set 0 a = a :: xs := rfl
theorem zk {α : Type} (x : α) (xs : List α) (i : Nat) (a : α) : (x :: xs).set (i + 1) a = x :: xs.set i a := rfl
theorem own_len_ {A : Option Addr} {c n m k : Nat} (h : some k ≠ (Value.slice A n c).ownBlock) : some k ≠ (Value.slice A m c).ownBlock := by revert h; cases A <;> exact id

theorem info2 : (Tryz.prog.info? 2).map (fun i => (i.zero, i.size, i.bytes)) = some (some (.int .i64 0), 1, 8) := by kernel_rfl
theorem info9 : (Tryz.prog.info? 9).map (fun i => (i.zero, i.size, i.bytes)) = some (some (.string ⟨#[]⟩), 1, 16) := by kernel_rfl
theorem info24 : (Tryz.prog.info? 24).map (fun i => (i.zero, i.size, i.bytes)) = some (some (.int .i16 0), 1, 2) := by kernel_rfl
theorem info52 : (Tryz.prog.info? 52).map (fun i => (i.zero, i.size, i.bytes)) = some (some (.agg #[(.int .i16 0), (.int .i8 0)]), 2, 4) := by kernel_rfl
-- the values' own types
/-! #### struct type 52 -/
structure S52 where
  f0 : Int
  f1 : Int
def z52 : S52 := ⟨(0 : Int), (0 : Int)⟩
def k52 : Kd S52 := Kd.iso (Kd.pair (Kd.int .i16) (Kd.int .i8)) (fun x : S52 => (x.f0, x.f1))
theorem k52_open {w : World} {x : S52} {cs : List Value} (h : k52.K w x cs) : cs = [.int .i16 x.f0, .int .i8 x.f1] := by
  obtain ⟨_, _, rfl, rfl, rfl⟩ := h
  exact rfl
theorem k52_openM {w : World} {base : Nat} {ok : Nat → Prop} {x : S52} {cs : List Value} (h : k52.M w base ok x cs) : cs = [.int .i16 x.f0, .int .i8 x.f1] := by
  obtain ⟨_, _, rfl, rfl, rfl⟩ := h
  exact rfl
theorem k52_mkM (w : World) (base : Nat) (ok : Nat → Prop) (x : S52)  : k52.M w base ok x [.int .i16 x.f0, .int .i8 x.f1] := ⟨[.int .i16 x.f0], [.int .i8 x.f1], rfl, rfl, rfl⟩
def rd_T52 (xs : List S52) (i : Int) : S52 := xs.getD i.toNat z52
theorem at_T52 {w : World} {A : Option Addr} {n : Nat} {xs : List S52} (h : Kd.C k52 w A n xs) (i : Int) (h0 : 0 ≤ i) (h1 : i < n) : ∃ ad , A = some ad ∧ w.cell? (ad.add (i.toNat * 2)) = some (.int .i16 (rd_T52 xs i).f0) ∧ w.cell? ⟨(ad.add (i.toNat * 2)).block, (ad.add (i.toNat * 2)).off + 1, none⟩ = some (.int .i8 (rd_T52 xs i).f1) := by
  obtain ⟨ad, c, e, _, hK, AA⟩ := Kd.C_get h z52 i h0 h1
  have hc : ∀ j u, c[j]? = some u → w.cell? (ad.add (i.toNat * 2 + j)) = some u := AA
  obtain rfl := k52_open hK
  exact ⟨ad, e, hc 0 _ rfl, by rw [← add_field _ _ 1 (by omega)]; exact hc 1 _ rfl⟩

/-! #### struct type 27 -/
structure S27 where
  f0 : Int
  f1 : (List Int)
/-! short words of bits.py -/
def bL : Nat → Nat → List Bool
  | 0, _ => []
  | n + 1, m => (m % 2 == 1) :: bL n (m / 2)
theorem gl_ {p : Prop} (h : p := by (try simp only [List.map_toArray, List.map_cons, List.map_nil]); first | done | rfl | (simp only [List.length_drop, List.length_take]; rfl)) : p := h
def bA (n m : Nat) : Array Bool := (bL n m).toArray
/-! short words of arms.py: facts carried over a call, what a box holds -/
section
variable {α β : Type} {d : Kd α} {d' : Kd β} {e base : Nat} {w w1 w2 : World} {ok : Nat → Prop} {v : Value} {xs : List α} {ys : List β}
theorem sC {A : Option Addr} {n c : Nat} {B : Prop} (h : Aside0 (d.R e w base ok (.slice A n c) xs)) (f : d.C w A xs.length xs → B := by intro h_; repeat (first | (with_reducible exact h_) | (with_reducible apply Kd.C_alloc) | (with_reducible apply Kd.C_drewN) | (with_reducible apply Kd.C_drew) | exact h_)) : B := f (Kd.R_reads' h.out).2.2
theorem sL {A : Option Addr} {n c : Nat} (h : Aside0 (d.R e w base ok (.slice A n c) xs)) : n ≤ c := (Kd.R_reads' h.out).2.1
theorem sD {A B : Prop} (h : Aside0 A) (f : A → B := by intro h_; repeat (first | (with_reducible exact h_) | (with_reducible apply Kd.C_alloc) | (with_reducible apply Kd.C_drewN) | (with_reducible apply Kd.C_drew) | exact h_)) : B := f h.out
theorem kR {A : Prop} (h : Aside0 A) (hb : Below w.heap.size w w1) (f : A → d.R e w base ok v xs := by intro h_; (with_reducible repeat (first | apply Kd.R_alloc | apply Kd.R_drewN | apply Kd.R_drew)); exact h_) : Aside0 (d.R e w1 base ok v xs) := ⟨Kd.R_below (f h.out) hb⟩
theorem kE {A : Prop} {e' : Nat} {w' : World} {ok' : Nat → Prop} {u : Value} (h : Aside0 A) (ho : d'.R e' w' w.heap.size ok' v ys) (hb : Below w.heap.size w w1) (f : A → d.R e w base ok u xs := by intro h_; (with_reducible repeat (first | apply Kd.R_alloc | apply Kd.R_drewN | apply Kd.R_drew)); exact h_) : Aside0 (d.R e w1 base (fun k => ok k ∧ some k ≠ v.ownBlock) u xs) := ⟨Kd.R_elder' (f h.out) (Kd.R_base ho) hb⟩
theorem kK {A : Prop} {g : Nat} {o : Obj} (h : Aside0 A) (hb : Below w.heap.size w w1) (f : A → w.heap[g]? = some o := by intro h_; repeat (first | (with_reducible exact h_) | (with_reducible apply blk_alloc) | exact h_)) : Aside0 (w1.heap[g]? = some o) := ⟨blk_below (f h.out) hb⟩
theorem kB {A : Prop} (h : Aside0 A) (hb : Below w1.heap.size w1 w2) (f : A → Below w.heap.size w w1 := by intro h_; repeat (first | (with_reducible first | exact h_ | apply below_alloc | apply pw_below_drewN | apply below_drew1) | exact h_)) : Aside0 (Below w.heap.size w w2) := ⟨below_step (f h.out) hb⟩
theorem kB1 {A G : Prop} (h : Aside0 A) (g : Aside0 G) (hb : Below w1.heap.size w1 w2) (f : A → G → Below w.heap.size w w1 := by intro h_ g_; repeat (first | (with_reducible first | exact h_ | apply below_alloc | apply pw_below_drewN | apply below_drew1 | (refine below_set ?_ g_)) | exact h_)) : Aside0 (Below w.heap.size w w2) := ⟨below_step (f h.out g.out) hb⟩
theorem kB2 {A G G' : Prop} (h : Aside0 A) (g : Aside0 G) (g' : Aside0 G') (hb : Below w1.heap.size w1 w2) (f : A → G → G' → Below w.heap.size w w1 := by intro h_ g_ AA; repeat (first | (with_reducible first | exact h_ | apply below_alloc | apply pw_below_drewN | apply below_drew1 | (refine below_set ?_ g_) | refine below_set ?_ AA) | exact h_)) : Aside0 (Below w.heap.size w w2) := ⟨below_step (f h.out g.out g'.out) hb⟩
theorem kB3 {A G G' G'' : Prop} (h : Aside0 A) (g : Aside0 G) (g' : Aside0 G') (g'' : Aside0 G'') (hb : Below w1.heap.size w1 w2) (f : A → G → G' → G'' → Below w.heap.size w w1 := by intro h_ g_ AA AB; repeat (first | (with_reducible first | exact h_ | apply below_alloc | apply pw_below_drewN | apply below_drew1 | (refine below_set ?_ g_) | refine below_set ?_ AA | refine below_set ?_ AB) | exact h_)) : Aside0 (Below w.heap.size w w2) := ⟨below_step (f h.out g.out g'.out g''.out) hb⟩
theorem cz2 (w : World) {A : Prop} {g : Nat} {t : TypeId} {a b : Value} (h : Aside0 A) (f : A → w.heap[g]? = some (.cells #[a, b] t (0, 0)) := by intro h_; exact h_) : w.cell? ⟨g, 0, none⟩ = some a ∧ w.cell? ⟨g, 1, none⟩ = some b ∧ w.frozen? ⟨g, 0, none⟩ = false ∧ w.frozen? ⟨g, 1, none⟩ = false :=
  ⟨(blk_cell (f h.out) 0).trans rfl, (blk_cell (f h.out) 1).trans rfl, blk_frozen (f h.out) 0, blk_frozen (f h.out) 1⟩
end
/-! short words of steps.py: one operation of a region, all its parts told by tactics -/
section
variable {P : Program} {md : Region.Mode} {ops : Array Oper} {Q : Exit → Act → World → Prop} {S : World → Prop} {ds : List Nat}
theorem pU (i n : Nat) {T : Bool × List (List Nat × List Nat)} {oi : Oper} {v : Value} {fuel : Nat} {l : Array Bool} {a a' : Act} {w : World} (l' : Array Bool) (HT : Aside0 (rtab md ops = T)) (h : wpAnyLast P md ops Q S ds fuel l' a' w)
    (hi : ops[i]? = some oi := by rfl) (hN : oi.dst = some n := by rfl) (hc : anyT T l.toList l'.toList i = true := by kernel_rfl) (hQ : ∀ c a w, Q (.panic c) (a.put oi.dst v) w → Q (.panic c) a w := by exact fun _ _ _ h => h)
    (hw : Region.wanted oi (yielded ops a.tmps) = true := by rfl) (hy : ∀ w', (execOp a.eval oi).run P w' = .ok (.value v) w' := by intro w'; go_simp; with_reducible rfl)
    (ha : a.put (some n) v = a' := by simp only [Act.put, zs, zz, zk, i64_w, i32_w]; rfl) : wpAnyLast P md ops Q S ds (fuel + 1) l a w :=
  pure_ (i := i) (N := some n) (v := v) (a' := a') l' hi hN (any_of HT.out hc) hQ (Or.inl ⟨hw, hy⟩) ha h
theorem pN (i n : Nat) {T : Bool × List (List Nat × List Nat)} {oi : Oper} {fuel : Nat} {l : Array Bool} {a a' : Act} {w : World} (l' : Array Bool) (HT : Aside0 (rtab md ops = T)) (h : wpAnyLast P md ops Q S ds fuel l' a' w)
    (hi : ops[i]? = some oi := by rfl) (hN : oi.dst = some n := by rfl) (hc : anyT T l.toList l'.toList i = true := by kernel_rfl) (hQ : ∀ c a w, Q (.panic c) (a.put oi.dst undef) w → Q (.panic c) a w := by exact fun _ _ _ h => h)
    (hw : Region.wanted oi (yielded ops a.tmps) = false := by rfl)
    (ha : a.put (some n) undef = a' := by simp only [Act.put, zs, zz, zk, i64_w, i32_w]; rfl) : wpAnyLast P md ops Q S ds (fuel + 1) l a w :=
  pure_ (i := i) (N := some n) (v := undef) (a' := a') l' hi hN (any_of HT.out hc) hQ (Or.inr ⟨hw, rfl⟩) ha h
theorem tK (i n : Nat) {T : Bool × List (List Nat × List Nat)} {B : List Nat} {oi : Oper} {v : Value} {fuel : Nat} {l : Array Bool} {a a' : Act} {w : World} (l' : Array Bool) (HT : Aside0 (rtab md ops = T)) (HW : Aside0 (waitsOk T.2 B = true)) (hS : S w) (h : wpAnyLast P md ops Q S ds fuel l' a' w)
    (hi : ops[i]? = some oi := by rfl) (hN : oi.dst = some n := by rfl) (hc : takeW T B ds l.toList l'.toList i = true := by kernel_rfl) (hQ : ∀ c a w, Q (.panic c) (a.put oi.dst v) w → Q (.panic c) a w := by exact fun _ _ _ h => h)
    (hw : Region.wanted oi (yielded ops a.tmps) = true := by rfl) (hy : ∀ w', S w' → (execOp a.eval oi).run P w' = .ok (.value v) w' := by intro w' h_; (repeat (obtain ⟨_, h_⟩ := h_)); go_simp; with_reducible rfl)
    (ha : a.put (some n) v = a' := by simp only [Act.put, zs, zz, zk, i64_w, i32_w]; rfl) : wpAnyLast P md ops Q S ds (fuel + 1) l a w :=
  take_ (i := i) (N := some n) (v := v) (a' := a') l' hi hN (take_ofW HT.out HW.out hc) hQ (Or.inl ⟨hw, hy⟩) hS ha h
end
/-! short words of boxes.py: a new block is none of the old ones; what a box of 10, 12 cells holds, as one fact -/
section
variable {w w0 : World} {A : Prop} {g n : Nat} {o : Obj}
theorem nL (h : Aside0 A) (hg : n = w.heap.size) (f : A → w.heap[g]? = some o := by intro h_; repeat (first | (with_reducible exact h_) | (with_reducible apply blk_alloc) | exact h_)) : Aside0 (g ≠ n) := ⟨by rw [hg]; exact Nat.ne_of_lt (blk_lt (f h.out))⟩
theorem nG (h : Aside0 A) (hg : n = w.heap.size) (f : A → w.heap[g]? = some o := by intro h_; repeat (first | (with_reducible exact h_) | (with_reducible apply blk_alloc) | exact h_)) : Aside0 (n ≠ g) := ⟨by rw [hg]; exact Nat.ne_of_gt (blk_lt (f h.out))⟩
end
section
variable {w : World} {A R : Prop} {g : Nat} {t : TypeId}
end
/-! short words of more.py: what lies below, with the blocks of the call's own that were written; a new block's number; a row's side -/
section
variable {w w1 : World} {A B : Prop} {n : Nat}
theorem zH2 {G1 G2 : Prop} (h : Aside0 A) (g1 : Aside0 G1) (g2 : Aside0 G2) (f : A → G1 → G2 → B := by intro h_ AB AA; repeat (first | (with_reducible first | exact h_ | apply below_alloc | apply pw_below_drewN | apply below_drew1 | refine below_set ?_ AB | refine below_set ?_ AA) | exact h_)) : B := f h.out g1.out g2.out
theorem zH3 {G1 G2 G3 : Prop} (h : Aside0 A) (g1 : Aside0 G1) (g2 : Aside0 G2) (g3 : Aside0 G3) (f : A → G1 → G2 → G3 → B := by intro h_ AB AA AC; repeat (first | (with_reducible first | exact h_ | apply below_alloc | apply pw_below_drewN | apply below_drew1 | refine below_set ?_ AB | refine below_set ?_ AA | refine below_set ?_ AC) | exact h_)) : B := f h.out g1.out g2.out g3.out
theorem zH4 {G1 G2 G3 G4 : Prop} (h : Aside0 A) (g1 : Aside0 G1) (g2 : Aside0 G2) (g3 : Aside0 G3) (g4 : Aside0 G4) (f : A → G1 → G2 → G3 → G4 → B := by intro h_ AC AB AD AA; repeat (first | (with_reducible first | exact h_ | apply below_alloc | apply pw_below_drewN | apply below_drew1 | refine below_set ?_ AC | refine below_set ?_ AB | refine below_set ?_ AD | refine below_set ?_ AA) | exact h_)) : B := f h.out g1.out g2.out g3.out g4.out
theorem zH5 {G1 G2 G3 G4 G5 : Prop} (h : Aside0 A) (g1 : Aside0 G1) (g2 : Aside0 G2) (g3 : Aside0 G3) (g4 : Aside0 G4) (g5 : Aside0 G5) (f : A → G1 → G2 → G3 → G4 → G5 → B := by intro h_ AC AB AE AA AD; repeat (first | (with_reducible first | exact h_ | apply below_alloc | apply pw_below_drewN | apply below_drew1 | refine below_set ?_ AC | refine below_set ?_ AB | refine below_set ?_ AE | refine below_set ?_ AA | refine below_set ?_ AD) | exact h_)) : B := f h.out g1.out g2.out g3.out g4.out g5.out
theorem zH6 {G1 G2 G3 G4 G5 G6 : Prop} (h : Aside0 A) (g1 : Aside0 G1) (g2 : Aside0 G2) (g3 : Aside0 G3) (g4 : Aside0 G4) (g5 : Aside0 G5) (g6 : Aside0 G6) (f : A → G1 → G2 → G3 → G4 → G5 → G6 → B := by intro h_ AE AA AD AF AC AB; repeat (first | (with_reducible first | exact h_ | apply below_alloc | apply pw_below_drewN | apply below_drew1 | refine below_set ?_ AE | refine below_set ?_ AA | refine below_set ?_ AD | refine below_set ?_ AF | refine below_set ?_ AC | refine below_set ?_ AB) | exact h_)) : B := f h.out g1.out g2.out g3.out g4.out g5.out g6.out
theorem gS (h : Aside0 A) (hg : n = w1.heap.size) (f : A → Below w.heap.size w w1 := by intro h_; repeat (first | (with_reducible first | exact h_ | apply below_alloc | apply pw_below_drewN | apply below_drew1) | exact h_)) : Aside0 (w.heap.size ≤ n) := ⟨by rw [hg]; exact below_size (f h.out)⟩
theorem gS1 {G : Prop} (h : Aside0 A) (g : Aside0 G) (hg : n = w1.heap.size) (f : A → G → Below w.heap.size w w1 := by intro h_ g_; repeat (first | (with_reducible first | exact h_ | apply below_alloc | apply pw_below_drewN | apply below_drew1 | refine below_set ?_ g_) | exact h_)) : Aside0 (w.heap.size ≤ n) := ⟨by rw [hg]; exact below_size (f h.out g.out)⟩
theorem sQ {C : Prop} (h : C) (f : C → B := by intro h_; repeat (first | exact h_ | (with_reducible refine Kd.C_alloc ?_ _) | (with_reducible refine Kd.C_drewN ?_ _) | (with_reducible refine Kd.C_drew ?_))) : B := f h
end

end Go.Proofs.YtlggjfhoecaelaaGreatDoor.P
