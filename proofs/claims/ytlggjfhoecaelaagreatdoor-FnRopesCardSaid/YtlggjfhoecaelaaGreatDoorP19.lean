-- Printed by wip/print (my turned copy of the kit's print) out of the translation; Lean checks it.
import Derived.Test.YtlggjfhoecaelaaGreatDoorP0
import Derived.Test.YtlggjfhoecaelaaGreatDoorP1
import Derived.Test.YtlggjfhoecaelaaGreatDoorP2
import Derived.Test.YtlggjfhoecaelaaGreatDoorP3
import Derived.Test.YtlggjfhoecaelaaGreatDoorP4
import Derived.Test.YtlggjfhoecaelaaGreatDoorP6
import Derived.Test.YtlggjfhoecaelaaGreatDoorP7
import Derived.Test.YtlggjfhoecaelaaGreatDoorP8
import Derived.Test.YtlggjfhoecaelaaGreatDoorP10
import Derived.Test.YtlggjfhoecaelaaGreatDoorP11
import Derived.Test.YtlggjfhoecaelaaGreatDoorP12
import Derived.Test.YtlggjfhoecaelaaGreatDoorP13
import Derived.Test.YtlggjfhoecaelaaGreatDoorP14
import Derived.Test.YtlggjfhoecaelaaGreatDoorP15
import Derived.Test.YtlggjfhoecaelaaGreatDoorP16
import Derived.Test.YtlggjfhoecaelaaGreatDoorP17
import Derived.Test.YtlggjfhoecaelaaGreatDoorP18
namespace Go.Proofs.YtlggjfhoecaelaaGreatDoor.P
open Go.RowKit Go.Proofs.YtlggjfhoecaelaaGreatDoorW.PrintWords Go.Proofs.YtlggjfhoecaelaaGreatDoorW.PrintLast Go.Proofs.YtlggjfhoecaelaaGreatDoorW.PrintMore
attribute [local go_sem] max2_int min2_int max_two min_two max_three min_three max_four min_four   -- for this text's walks alone
set_option linter.unusedVariables false
set_option linter.unusedSimpArgs false

attribute [local go_sem high] eqA52
/-! ### laws_FnRopes: function 3 -/
mutual
def laws_FnRopes.j0 : Nat → List Int → List Int → Bool → Int → Option (Bool)
  | 0, _, _, _, _ => none
  | k + 1, x0, x1, x63, x978000 => if x63 = true then (some true) else ((spec_P6Rope.f k x0).bind fun bt457 => ((spec_P6Holds.f k x1 bt457.1 bt457.2).bind fun t462 => ((impl_RopeText.f k bt457.1 bt457.2).bind fun t465 => ((impl_ReadRope.f k t465 x978000).bind fun bt466 => ((impl_SpacingsOf.f k bt457.1 bt457.2).bind fun bt472 => ((spec_SpacingsOf.f k bt457.1 bt457.2).bind fun bt476 => (if bt466.2.2 = 0 then ((spec_SameRope.f k bt466.1 bt466.2.1 bt457.1 bt457.2).bind fun t480 => (if t480 = true then (if (bt466.2.1.length : Int) = (bt457.2.length : Int) then ((impl_SameRope.f k bt466.1 bt466.2.1 bt457.1 bt457.2).bind fun t481 => (if t481 = true then ((impl_ValidRope.f k bt457.1 bt457.2).bind fun t482 => (if t482 = true then (if bt472.2 = bt476.2 then (if bt472.2 = 0 then ((spec_SameNumbers.f k bt472.1 bt476.1).bind fun t483 => (if t483 = true then ((impl_ValidHolds.f k bt457.1 bt457.2 t462).bind fun t484 => (laws_FnRopes.j1 k x0 x1 t462 bt476.1 (!t484) bt457.1 bt457.2)) else (laws_FnRopes.j1 k x0 x1 t462 bt476.1 true bt457.1 bt457.2))) else (laws_FnRopes.j1 k x0 x1 t462 bt476.1 true bt457.1 bt457.2)) else (laws_FnRopes.j1 k x0 x1 t462 bt476.1 true bt457.1 bt457.2)) else (laws_FnRopes.j1 k x0 x1 t462 bt476.1 true bt457.1 bt457.2))) else (laws_FnRopes.j1 k x0 x1 t462 bt476.1 true bt457.1 bt457.2))) else (laws_FnRopes.j1 k x0 x1 t462 bt476.1 true bt457.1 bt457.2)) else (laws_FnRopes.j1 k x0 x1 t462 bt476.1 true bt457.1 bt457.2))) else (laws_FnRopes.j1 k x0 x1 t462 bt476.1 true bt457.1 bt457.2))))))))
def laws_FnRopes.j1 : Nat → List Int → List Int → List (S52) → List Int → Bool → Int → List Int → Option (Bool)
  | 0, _, _, _, _, _, _, _ => none
  | k + 1, x0, x1, x6, x11, x133, x462000, x462001 => if x133 = true then (some false) else (laws_FnRopes.l0 k x0 x1 x6 x11 1 x462000 x462001)
def laws_FnRopes.l0 : Nat → List Int → List Int → List (S52) → List Int → Int → Int → List Int → Option (Bool)
  | 0, _, _, _, _, _, _, _ => none
  | k + 1, x0, x1, x6, x11, x13, x462000, x462001 => if (wrap64 (x13 + 1)) < (x462001.length : Int) then ((impl_CutRope.f k x462000 x462001 x13).bind fun bt485 => ((spec_CutRope.f k x462000 x462001 x13).bind fun bt496 => ((impl_SpacingsOf.f k bt496.1 bt496.2.1).bind fun bt507 => ((impl_SpacingsOf.f k bt496.2.2.1 bt496.2.2.2.1).bind fun bt511 => (if bt485.2.2.2.2 = bt496.2.2.2.2 then (if bt485.2.2.2.2 = 0 then ((spec_SameRope.f k bt485.1 bt485.2.1 bt496.1 bt496.2.1).bind fun t515 => (if t515 = true then ((spec_SameRope.f k bt485.2.2.1 bt485.2.2.2.1 bt496.2.2.1 bt496.2.2.2.1).bind fun t516 => (if t516 = true then (if (IntKind.i16.wrap (bt496.1 + bt496.2.2.1)) = x462000 then (if bt507.2 = 0 then (if bt511.2 = 0 then ((some (([] : List Int) : List Int)).bind fun y517 => (if y517.length + bt507.1.length < 17592186044416 then ((some (y517 ++ bt507.1 : List Int)).bind fun y520 => (if y520.length + bt511.1.length < 17592186044416 then ((spec_SameNumbers.f k (y520 ++ bt511.1) x11).bind fun t526 => (if t526 = true then (laws_FnRopes.l0 k x0 x1 x6 x11 (wrap64 (x13 + 1)) x462000 x462001) else (some false))) else (none))) else (none))) else (some false)) else (some false)) else (some false)) else (some false))) else (some false))) else (some false)) else (some false)))))) else ((spec_P6Pick.f x1 (wrap64 ((wrap64 (x462000)) + 1))).bind fun t527 => ((impl_NearestKnot.f k x462000 x462001 t527).bind fun bt528 => ((spec_NearestKnot.f k x462000 x462001 t527).bind fun bt530 => (if bt528.2 = bt530.2 then (if bt528.2 = 0 then (laws_FnRopes.j3 k x0 x1 x6 t527 bt530.1 (bt528.1 != bt530.1) x462000 x462001) else (laws_FnRopes.j3 k x0 x1 x6 t527 bt530.1 true x462000 x462001)) else (laws_FnRopes.j3 k x0 x1 x6 t527 bt530.1 true x462000 x462001)))))
def laws_FnRopes.j3 : Nat → List Int → List Int → List (S52) → Int → Int → Bool → Int → List Int → Option (Bool)
  | 0, _, _, _, _, _, _, _, _ => none
  | k + 1, x0, x1, x6, x24, x27, x242, x462000, x462001 => if x242 = true then (some false) else (if 0 ≤ x27 then (if x27 < (x462001.length : Int) then (laws_FnRopes.l1 k x0 x1 x6 x24 x27 (mx (wrap64 ((wrap64 (rd x462001 x27)) - x24)) (wrap64 (x24 - (wrap64 (rd x462001 x27))))) 0 x462000 x462001) else (none)) else (none))
def laws_FnRopes.l1 : Nat → List Int → List Int → List (S52) → Int → Int → Int → Int → Int → List Int → Option (Bool)
  | 0, _, _, _, _, _, _, _, _, _ => none
  | k + 1, x0, x1, x6, x24, x27, x29, x30, x462000, x462001 => if x30 < (x462001.length : Int) then (if 0 ≤ x30 then (if (mx (wrap64 ((wrap64 (rd x462001 x30)) - x24)) (wrap64 (x24 - (wrap64 (rd x462001 x30))))) < x29 then (some false) else (if (mx (wrap64 ((wrap64 (rd x462001 x30)) - x24)) (wrap64 (x24 - (wrap64 (rd x462001 x30))))) = x29 then (if x30 < x27 then (some false) else (laws_FnRopes.l1 k x0 x1 x6 x24 x27 x29 (wrap64 (x30 + 1)) x462000 x462001)) else (laws_FnRopes.l1 k x0 x1 x6 x24 x27 x29 (wrap64 (x30 + 1)) x462000 x462001))) else (none)) else ((impl_CloseUp.f k x462000 x462001 x6).bind fun bt536 => ((spec_CloseUp.f k x462000 x462001 x6).bind fun bt540 => ((impl_GapsOf.f k x462000 x462001 x6).bind fun bt544 => ((spec_GapsOf.f k x462000 x462001 x6).bind fun bt548 => (if bt536.2 = bt540.2 then (if bt536.2 = 0 then ((spec_SameHolds.f k bt536.1 bt540.1).bind fun t552 => (if t552 = true then ((impl_SameHolds.f k bt540.1 bt540.1).bind fun t553 => (if t553 = true then (if (bt540.1.length : Int) = (x6.length : Int) then (if bt544.2 = bt548.2 then (if bt544.2 = 0 then ((spec_SameNumbers.f k bt544.1 bt548.1).bind fun t554 => (laws_FnRopes.j5 k x0 x1 x6 bt540.1 (!t554) x462000 x462001)) else (laws_FnRopes.j5 k x0 x1 x6 bt540.1 true x462000 x462001)) else (laws_FnRopes.j5 k x0 x1 x6 bt540.1 true x462000 x462001)) else (laws_FnRopes.j5 k x0 x1 x6 bt540.1 true x462000 x462001)) else (laws_FnRopes.j5 k x0 x1 x6 bt540.1 true x462000 x462001))) else (laws_FnRopes.j5 k x0 x1 x6 bt540.1 true x462000 x462001))) else (laws_FnRopes.j5 k x0 x1 x6 bt540.1 true x462000 x462001)) else (laws_FnRopes.j5 k x0 x1 x6 bt540.1 true x462000 x462001))))))
def laws_FnRopes.j5 : Nat → List Int → List Int → List (S52) → List (S52) → Bool → Int → List Int → Option (Bool)
  | 0, _, _, _, _, _, _, _ => none
  | k + 1, x0, x1, x6, x34, x361, x462000, x462001 => if x361 = true then (some false) else (laws_FnRopes.l2 k x0 x1 x6 x34 0 x462000 x462001)
def laws_FnRopes.l2 : Nat → List Int → List Int → List (S52) → List (S52) → Int → Int → List Int → Option (Bool)
  | 0, _, _, _, _, _, _, _ => none
  | k + 1, x0, x1, x6, x34, x40, x462000, x462001 => if x40 < (x34.length : Int) then (if 0 ≤ x40 then (if ((rd_T52 x34 x40).f1) = (IntKind.i8.wrap (x40)) then (if x40 < (x6.length : Int) then (if ((rd_T52 x34 x40).f0) = ((rd_T52 x6 x40).f0) then (laws_FnRopes.l2 k x0 x1 x6 x34 (wrap64 (x40 + 1)) x462000 x462001) else (some false)) else (none)) else (some false)) else (none)) else ((spec_P6Pick.f x0 1000).bind fun t558 => ((spec_P6Pick.f x1 (x462001.length : Int)).bind fun t559 => ((impl_TakeHold.f k x462000 x462001 x6 (IntKind.i16.wrap (t558)) (IntKind.i8.wrap (t559))).bind fun bt561 => ((spec_TakeHold.f k x462000 x462001 x6 (IntKind.i16.wrap (t558)) (IntKind.i8.wrap (t559))).bind fun bt565 => (if bt561.2 = bt565.2 then ((spec_SameHolds.f k bt561.1 bt565.1).bind fun t569 => (laws_FnRopes.j7 k x1 x6 bt561.2 bt565.1 (!t569) x462000 x462001 (IntKind.i16.wrap (t558)) (IntKind.i8.wrap (t559)))) else (laws_FnRopes.j7 k x1 x6 bt561.2 bt565.1 true x462000 x462001 (IntKind.i16.wrap (t558)) (IntKind.i8.wrap (t559))))))))
def laws_FnRopes.j7 : Nat → List Int → List (S52) → Int → List (S52) → Bool → Int → List Int → Int → Int → Option (Bool)
  | 0, _, _, _, _, _, _, _, _, _ => none
  | k + 1, x1, x6, x43, x44, x421, x462000, x462001, x561000, x561001 => if x421 = true then (some false) else (if x43 = 0 then (laws_FnRopes.l3 k x1 x6 x44 (-1) 0 x462000 x462001 x561000 x561001) else (if x43 = 4 then (laws_FnRopes.j9 k x1 x462000 x462001) else (some false)))
def laws_FnRopes.j9 : Nat → List Int → Int → List Int → Option (Bool)
  | 0, _, _, _ => none
  | k + 1, x1, x462000, x462001 => (spec_P6Pick.f x1 9).bind fun t577 => ((impl_EvenRope.f k (wrap64 (x462000)) (wrap64 (1 + t577))).bind fun bt578 => ((spec_EvenRope.f k (wrap64 (x462000)) (wrap64 (1 + t577))).bind fun bt584 => (if bt578.2.2 = bt584.2.2 then ((spec_SameRope.f k bt578.1 bt578.2.1 bt584.1 bt584.2.1).bind fun t590 => (if t590 = true then (if bt578.2.2 = 0 then (laws_FnRopes.j10 k (wrap64 (1 + t577)) bt578.2.2 false bt584.1 bt584.2.1) else (laws_FnRopes.j10 k (wrap64 (1 + t577)) bt578.2.2 (bt578.2.2 != 3) bt584.1 bt584.2.1)) else (laws_FnRopes.j10 k (wrap64 (1 + t577)) bt578.2.2 true bt584.1 bt584.2.1))) else (laws_FnRopes.j10 k (wrap64 (1 + t577)) bt578.2.2 true bt584.1 bt584.2.1))))
def laws_FnRopes.j10 : Nat → Int → Int → Bool → Int → List Int → Option (Bool)
  | 0, _, _, _, _, _ => none
  | k + 1, x50, x52, x514, x590000, x590001 => if x514 = true then (some false) else (if x52 = 0 then ((impl_SpacingsOf.f k x590000 x590001).bind fun bt591 => (laws_FnRopes.l4 k x50 bt591.1 bt591.2 0 x590000 x590001)) else (some true))
def laws_FnRopes.l4 : Nat → Int → List Int → Int → Int → Int → List Int → Option (Bool)
  | 0, _, _, _, _, _, _ => none
  | k + 1, x50, x55, x56, x57, x590000, x590001 => if x57 < (x55.length : Int) then (if 0 ≤ x57 then (if (rd x55 x57) > x50 then (some false) else (if (wrap64 (x57 + 1)) < (x55.length : Int) then (if (rd x55 x57) = x50 then (laws_FnRopes.l4 k x50 x55 x56 (wrap64 (x57 + 1)) x590000 x590001) else (some false)) else (laws_FnRopes.l4 k x50 x55 x56 (wrap64 (x57 + 1)) x590000 x590001))) else (none)) else (if x56 = 0 then (some ((wrap64 ((x55.length : Int) + 1)) == (x590001.length : Int))) else (some false))
def laws_FnRopes.l3 : Nat → List Int → List (S52) → List (S52) → Int → Int → Int → List Int → Int → Int → Option (Bool)
  | 0, _, _, _, _, _, _, _, _, _ => none
  | k + 1, x1, x6, x44, x46, x47, x462000, x462001, x561000, x561001 => if x47 < (x44.length : Int) then (if 0 ≤ x47 then (if (((rd_T52 x44 x47).f0) == x561000 && (((rd_T52 x44 x47).f1) == x561001)) = true then (laws_FnRopes.l3 k x1 x6 x44 x47 (wrap64 (x47 + 1)) x462000 x462001 x561000 x561001) else (laws_FnRopes.l3 k x1 x6 x44 x46 (wrap64 (x47 + 1)) x462000 x462001 x561000 x561001)) else (none)) else ((impl_LetGo.f k x462000 x462001 x44 x46).bind fun bt571 => (if x46 < 0 then (some false) else ((impl_ValidHolds.f k x462000 x462001 x44).bind fun t575 => (if t575 = true then (if (x44.length : Int) = (wrap64 ((x6.length : Int) + 1)) then (if bt571.2 = 0 then (if (bt571.1.length : Int) = (x6.length : Int) then ((spec_SameHolds.f k bt571.1 x6).bind fun t576 => (if t576 = true then (laws_FnRopes.j9 k x1 x462000 x462001) else (some false))) else (some false)) else (some false)) else (some false)) else (some false)))))
end
def laws_FnRopes.f (k : Nat) (l0 : List Int) (l1 : List Int) (a977_0 : Int)  : Option (Bool) := (laws_f6big.f l0).bind fun t455 => (if t455 = true then (laws_FnRopes.j0 k l0 l1 true a977_0) else ((laws_f6big.f l1).bind fun t456 => (laws_FnRopes.j0 k l0 l1 t456 a977_0)))
def laws_FnRopes.T24 : Bool × List (List Nat × List Nat) := (true, [([], []), ([0], [0]), ([], []), ([1, 2], [1, 2]), ([3], [3]), ([4], [4]), ([], []), ([5, 6], [5, 6]), ([], []), ([], []), ([9], [9]), ([], []), ([10, 11], [10, 11]), ([12], [12]), ([13], [13]), ([8, 14], [8, 14]), ([7, 15], [7, 15]), ([16, 0, 1, 2, 3, 4, 5, 6, 7, 8, 9, 10, 11, 12, 13, 14, 15, 16], [16])])
def laws_FnRopes.B24 : List Nat := [0, 1, 0, 7, 15, 31, 0, 127, 0, 0, 512, 0, 3584, 7680, 15872, 32512, 65535, 131071]
theorem laws_FnRopes.tab24 : rtab .any (opsOf Tryz.f3 24) = laws_FnRopes.T24 := by kernel_rfl
theorem laws_FnRopes.bits24 : waitsOk laws_FnRopes.T24.2 laws_FnRopes.B24 = true := by kernel_rfl
def laws_FnRopes.T28 : Bool × List (List Nat × List Nat) := (true, [([], []), ([0], [0]), ([], []), ([1, 2], [1, 2]), ([3], [3]), ([4], [4]), ([], []), ([5, 6], [5, 6]), ([], []), ([], []), ([9], [9]), ([], []), ([10, 11], [10, 11]), ([12], [12]), ([13], [13]), ([8, 14], [8, 14]), ([7, 15], [7, 15]), ([16, 0, 1, 2, 3, 4, 5, 6, 7, 8, 9, 10, 11, 12, 13, 14, 15, 16], [16])])
def laws_FnRopes.B28 : List Nat := [0, 1, 0, 7, 15, 31, 0, 127, 0, 0, 512, 0, 3584, 7680, 15872, 32512, 65535, 131071]
theorem laws_FnRopes.tab28 : rtab .any (opsOf Tryz.f3 28) = laws_FnRopes.T28 := by kernel_rfl
theorem laws_FnRopes.bits28 : waitsOk laws_FnRopes.T28.2 laws_FnRopes.B28 = true := by kernel_rfl
def laws_FnRopes.T40 : Bool × List (List Nat × List Nat) := (true, [([], []), ([], []), ([0, 1], [0, 1]), ([2], [2]), ([3], [3]), ([], []), ([5], [5]), ([4, 6], [4, 6]), ([7], [7]), ([8], [8]), ([8], [8]), ([9, 10, 8], [8, 9, 10]), ([11, 8], [8, 11]), ([12, 8], [8, 12]), ([8], [8]), ([8], [8]), ([14, 15, 8], [8, 14, 15]), ([16, 8], [8, 16]), ([17, 8], [8, 17]), ([13, 18, 8], [8, 13, 18]), ([8, 19], [8, 19])])
def laws_FnRopes.B40 : List Nat := [0, 0, 3, 7, 15, 0, 32, 127, 255, 511, 511, 2047, 4095, 8191, 511, 511, 49663, 115199, 246271, 524287, 1048575]
theorem laws_FnRopes.tab40 : rtab .any (opsOf Tryz.f3 40) = laws_FnRopes.T40 := by kernel_rfl
theorem laws_FnRopes.bits40 : waitsOk laws_FnRopes.T40.2 laws_FnRopes.B40 = true := by kernel_rfl
def laws_FnRopes.T42 : Bool × List (List Nat × List Nat) := (true, [([], []), ([0], [0]), ([1], [1]), ([], []), ([], []), ([4], [4]), ([5], [5]), ([3, 6, 1], [3, 6]), ([7], [7]), ([2, 8], [2, 8]), ([], []), ([10, 9, 7, 0, 1, 2, 3, 4, 5, 6, 7, 8, 9, 10], [9, 10])])
def laws_FnRopes.B42 : List Nat := [0, 1, 3, 0, 0, 16, 48, 123, 251, 511, 0, 2047]
theorem laws_FnRopes.tab42 : rtab .any (opsOf Tryz.f3 42) = laws_FnRopes.T42 := by kernel_rfl
theorem laws_FnRopes.bits42 : waitsOk laws_FnRopes.T42.2 laws_FnRopes.B42 = true := by kernel_rfl
theorem laws_FnRopes.n1 {k : Nat} {x0 x1 x6 x11 x462000 x462001} {r : Bool} (h : laws_FnRopes.j1 k x0 x1 x6 x11 true x462000 x462001 = some r) (t : Aside0 (r = true)) : False := by
  cases k with
  | zero => simp only [laws_FnRopes.j1] at h; cases h
  | succ k => simp only [laws_FnRopes.j1] at h; rw [if_pos trivial] at h; exact absurd ((Option.some.inj h).trans t.out) (by decide)
theorem laws_FnRopes.n3 {k : Nat} {x0 x1 x6 x24 x27 x462000 x462001} {r : Bool} (h : laws_FnRopes.j3 k x0 x1 x6 x24 x27 true x462000 x462001 = some r) (t : Aside0 (r = true)) : False := by
  cases k with
  | zero => simp only [laws_FnRopes.j3] at h; cases h
  | succ k => simp only [laws_FnRopes.j3] at h; rw [if_pos trivial] at h; exact absurd ((Option.some.inj h).trans t.out) (by decide)
theorem laws_FnRopes.n5 {k : Nat} {x0 x1 x6 x34 x462000 x462001} {r : Bool} (h : laws_FnRopes.j5 k x0 x1 x6 x34 true x462000 x462001 = some r) (t : Aside0 (r = true)) : False := by
  cases k with
  | zero => simp only [laws_FnRopes.j5] at h; cases h
  | succ k => simp only [laws_FnRopes.j5] at h; rw [if_pos trivial] at h; exact absurd ((Option.some.inj h).trans t.out) (by decide)
theorem laws_FnRopes.n7 {k : Nat} {x1 x6 x43 x44 x462000 x462001 x561000 x561001} {r : Bool} (h : laws_FnRopes.j7 k x1 x6 x43 x44 true x462000 x462001 x561000 x561001 = some r) (t : Aside0 (r = true)) : False := by
  cases k with
  | zero => simp only [laws_FnRopes.j7] at h; cases h
  | succ k => simp only [laws_FnRopes.j7] at h; rw [if_pos trivial] at h; exact absurd ((Option.some.inj h).trans t.out) (by decide)
theorem laws_FnRopes.n10 {k : Nat} {x50 x52 x590000 x590001} {r : Bool} (h : laws_FnRopes.j10 k x50 x52 true x590000 x590001 = some r) (t : Aside0 (r = true)) : False := by
  cases k with
  | zero => simp only [laws_FnRopes.j10] at h; cases h
  | succ k => simp only [laws_FnRopes.j10] at h; rw [if_pos trivial] at h; exact absurd ((Option.some.inj h).trans t.out) (by decide)

/-- THE ONE PURE STATEMENT of laws_FnRopes: mine. -/
def laws_FnRopes.Pure : Prop := ∀ (l0 : List Int) (l1 : List Int) (a977_0 : Int) , (l0.length ≤ 9223372036854775807 ∧ ∀ x_ ∈ l0, ((Lit.int .u8 x_).wf = true)) → (l1.length ≤ 9223372036854775807 ∧ ∀ x_ ∈ l1, ((Lit.int .u8 x_).wf = true)) → ∃ k, laws_FnRopes.f k l0 l1 a977_0  = some true

end Go.Proofs.YtlggjfhoecaelaaGreatDoor.P
