-- Printed by wip/print (my turned copy of the kit's print) out of the translation; Lean checks it.
import Derived.Test.YtooidjdgfoioiaaP0
import Derived.Test.YtooidjdgfoioiaaP17
import Derived.Test.YtooidjdgfoioiaaP18
import Derived.Test.YtooidjdgfoioiaaP21
import Derived.Test.YtooidjdgfoioiaaP23
import Derived.Test.YtooidjdgfoioiaaP25
import Derived.Test.YtooidjdgfoioiaaP26
import Derived.Test.YtooidjdgfoioiaaP33
import Derived.Test.YtooidjdgfoioiaaP34
import Derived.Test.YtooidjdgfoioiaaP35
namespace Go.Proofs.Ytooidjdgfoioiaa.P
open Go.RowKit Go.Proofs.YtooidjdgfoioiaaW.PrintWords Go.Proofs.YtooidjdgfoioiaaW.PrintLast Go.Proofs.YtooidjdgfoioiaaW.PrintMore
attribute [local go_sem] max2_int min2_int max_two min_two max_three min_three max_four min_four   -- for this text's walks alone
set_option linter.unusedVariables false
set_option linter.unusedSimpArgs false

/-! ### laws_FnSlacks: function 5 -/
mutual
def laws_FnSlacks.j0 : Nat → List Int → List Int → Bool → Option (Bool)
  | 0, _, _, _ => none
  | k + 1, x0, x1, AG => if AG = true then (some true) else ((spec_P6Room.f k x0).bind fun AA => ((spec_P6Pick.f x0 4).bind fun AE => ((spec_P6Stands.f k x1 AA.1 AA.2.1 AA.2.2.1 AA.2.2.2.1 AA.2.2.2.2.1 AA.2.2.2.2.2.1 AA.2.2.2.2.2.2.1 AA.2.2.2.2.2.2.2.1 AA.2.2.2.2.2.2.2.2.1 AA.2.2.2.2.2.2.2.2.2.1 AA.2.2.2.2.2.2.2.2.2.2.1 AA.2.2.2.2.2.2.2.2.2.2.2 (wrap64 (2 + AE))).bind fun AD => ((impl_RopeFor.f k AA.1 AA.2.1 AA.2.2.1 AA.2.2.2.1 AA.2.2.2.2.1 AA.2.2.2.2.2.1 AA.2.2.2.2.2.2.1 AA.2.2.2.2.2.2.2.1 AA.2.2.2.2.2.2.2.2.1 AA.2.2.2.2.2.2.2.2.2.1 AA.2.2.2.2.2.2.2.2.2.2.1 AA.2.2.2.2.2.2.2.2.2.2.2 AD).bind fun AC => ((spec_RopeFor.f k AA.1 AA.2.1 AA.2.2.1 AA.2.2.2.1 AA.2.2.2.2.1 AA.2.2.2.2.2.1 AA.2.2.2.2.2.2.1 AA.2.2.2.2.2.2.2.1 AA.2.2.2.2.2.2.2.2.1 AA.2.2.2.2.2.2.2.2.2.1 AA.2.2.2.2.2.2.2.2.2.2.1 AA.2.2.2.2.2.2.2.2.2.2.2 AD).bind fun AB => (if AC.2.2 = AB.2.2 then ((spec_SameRope.f k AC.1 AC.2.1 AB.1 AB.2.1).bind fun AF => (laws_FnSlacks.j1 k x0 x1 AD AC.2.2 (!AF) AA.1 AA.2.1 AA.2.2.1 AA.2.2.2.1 AA.2.2.2.2.1 AA.2.2.2.2.2.1 AA.2.2.2.2.2.2.1 AA.2.2.2.2.2.2.2.1 AA.2.2.2.2.2.2.2.2.1 AA.2.2.2.2.2.2.2.2.2.1 AA.2.2.2.2.2.2.2.2.2.2.1 AA.2.2.2.2.2.2.2.2.2.2.2 AB.1 AB.2.1)) else (laws_FnSlacks.j1 k x0 x1 AD AC.2.2 true AA.1 AA.2.1 AA.2.2.1 AA.2.2.2.1 AA.2.2.2.2.1 AA.2.2.2.2.2.1 AA.2.2.2.2.2.2.1 AA.2.2.2.2.2.2.2.1 AA.2.2.2.2.2.2.2.2.1 AA.2.2.2.2.2.2.2.2.2.1 AA.2.2.2.2.2.2.2.2.2.2.1 AA.2.2.2.2.2.2.2.2.2.2.2 AB.1 AB.2.1)))))))
def laws_FnSlacks.j1 : Nat → List Int → List Int → List (S62) → Int → Bool → Int → Int → Int → Int → Int → Int → Int → Int → Int → Int → Int → Int → Int → List Int → Option (Bool)
  | 0, _, _, _, _, _, _, _, _, _, _, _, _, _, _, _, _, _, _, _ => none
  | k + 1, x0, x1, x6, x8, AO, AJ, AK, AF, AG, AI, AH, AA, AL, AB, AM, AE, AN, AC, AD => if AO = true then (some false) else (laws_FnSlacks.l0 k x0 x1 x6 x8 false false 1 AJ AK AF AG AI AH AA AL AB AM AE AN AC AD)
def laws_FnSlacks.l0 : Nat → List Int → List Int → List (S62) → Int → Bool → Bool → Int → Int → Int → Int → Int → Int → Int → Int → Int → Int → Int → Int → Int → Int → List Int → Option (Bool)
  | 0, _, _, _, _, _, _, _, _, _, _, _, _, _, _, _, _, _, _, _, _, _ => none
  | k + 1, x0, x1, x6, x8, AR, AQ, AO, AH, AI, AD, AE, AG, AF, AA, AJ, AB, AK, AC, AL, AM, AN => if AO < (x6.length : Int) then (if 0 ≤ (wrap64 (AO - 1)) then (if (wrap64 (AO - 1)) < (x6.length : Int) then (if 0 ≤ AO then ((spec_P6Steps.f k AH AI AD AE AG AF AA AJ AB AK AC AL ((rd_T62 x6 (wrap64 (AO - 1))).f0) ((rd_T62 x6 (wrap64 (AO - 1))).f1) ((rd_T62 x6 AO).f0) ((rd_T62 x6 AO).f1)).bind fun AP => (if AR = true then (if AQ = true then (laws_FnSlacks.l0 k x0 x1 x6 x8 true true (wrap64 (AO + 1)) AH AI AD AE AG AF AA AJ AB AK AC AL AM AN) else (laws_FnSlacks.l0 k x0 x1 x6 x8 true (AP == 0) (wrap64 (AO + 1)) AH AI AD AE AG AF AA AJ AB AK AC AL AM AN)) else (if AQ = true then (laws_FnSlacks.l0 k x0 x1 x6 x8 (decide (AP < 0)) true (wrap64 (AO + 1)) AH AI AD AE AG AF AA AJ AB AK AC AL AM AN) else (laws_FnSlacks.l0 k x0 x1 x6 x8 (decide (AP < 0)) (AP == 0) (wrap64 (AO + 1)) AH AI AD AE AG AF AA AJ AB AK AC AL AM AN)))) else (none)) else (none)) else (none)) else (if (x6.length : Int) < 2 then (laws_FnSlacks.j3 k x0 x1 x6 x8 AR AQ true AH AI AD AE AG AF AA AJ AB AK AC AL AM AN) else (if AR = true then (laws_FnSlacks.j3 k x0 x1 x6 x8 AR AQ true AH AI AD AE AG AF AA AJ AB AK AC AL AM AN) else (laws_FnSlacks.j3 k x0 x1 x6 x8 AR AQ AQ AH AI AD AE AG AF AA AJ AB AK AC AL AM AN)))
def laws_FnSlacks.j3 : Nat → List Int → List Int → List (S62) → Int → Bool → Bool → Bool → Int → Int → Int → Int → Int → Int → Int → Int → Int → Int → Int → Int → Int → List Int → Option (Bool)
  | 0, _, _, _, _, _, _, _, _, _, _, _, _, _, _, _, _, _, _, _, _, _ => none
  | k + 1, x0, x1, x6, x8, AO, AP, AQ, AJ, AK, AF, AG, AI, AH, AC, AL, AD, AM, AE, AN, AB, AA => if AQ = true then (if x8 = 2 then (if (x6.length : Int) < 2 then (some true) else (if x8 = 6 then (if AO = true then (some true) else (if x8 = 4 then (if AP = true then (some (!AO)) else (some false)) else (some false))) else (if x8 = 4 then (if AP = true then (some (!AO)) else (some false)) else (some false)))) else (if x8 = 6 then (if AO = true then (some true) else (if x8 = 4 then (if AP = true then (some (!AO)) else (some false)) else (some false))) else (if x8 = 4 then (if AP = true then (some (!AO)) else (some false)) else (some false)))) else (if x8 = 0 then (if (AA.length : Int) = (x6.length : Int) then ((impl_ValidRope.f k AB AA).bind fun AR => (laws_FnSlacks.j4 k x0 x1 x6 (!AR) AJ AK AF AG AI AH AC AL AD AM AE AN AB AA)) else (laws_FnSlacks.j4 k x0 x1 x6 true AJ AK AF AG AI AH AC AL AD AM AE AN AB AA)) else (laws_FnSlacks.j4 k x0 x1 x6 true AJ AK AF AG AI AH AC AL AD AM AE AN AB AA))
def laws_FnSlacks.j4 : Nat → List Int → List Int → List (S62) → Bool → Int → Int → Int → Int → Int → Int → Int → Int → Int → Int → Int → Int → Int → List Int → Option (Bool)
  | 0, _, _, _, _, _, _, _, _, _, _, _, _, _, _, _, _, _, _ => none
  | k + 1, x0, x1, x6, AO, AJ, AK, AF, AG, AI, AH, AA, AL, AB, AM, AE, AN, AC, AD => if AO = true then (some false) else (laws_FnSlacks.l1 k x0 x1 x6 (([] : List (S65))) 0 AJ AK AF AG AI AH AA AL AB AM AE AN AC AD)
def laws_FnSlacks.l1 : Nat → List Int → List Int → List (S62) → List (S65) → Int → Int → Int → Int → Int → Int → Int → Int → Int → Int → Int → Int → Int → Int → List Int → Option (Bool)
  | 0, _, _, _, _, _, _, _, _, _, _, _, _, _, _, _, _, _, _, _ => none
  | k + 1, x0, x1, x6, AQ, AR, AH, AI, AD, AE, AG, AF, AA, AJ, AB, AK, AC, AL, AN, AO => if AR < (x6.length : Int) then (if AQ.length < 35184372088832 then (laws_FnSlacks.l1 k x0 x1 x6 (AQ ++ [(⟨IntKind.i16.wrap (wrap64 (10 + AR)), IntKind.i8.wrap (AR)⟩ : S65)]) (wrap64 (AR + 1)) AH AI AD AE AG AF AA AJ AB AK AC AL AN AO) else (none)) else ((impl_SlacksOf.f k AH AI AD AE AG AF AA AJ AB AK AC AL AN AO AQ x6).bind fun AM => ((impl_CanStand.f k AH AI AD AE AG AF AA AJ AB AK AC AL AN AO AQ x6).bind fun AP => (if AM.2 = 0 then (if (AM.1.length : Int) = (wrap64 ((x6.length : Int) - 1)) then (if AP.2 = 0 then (laws_FnSlacks.j6 k x0 x1 AM.1 (!AP.1) AH AI AD AE AG AF AA AJ AB AK AC AL) else (laws_FnSlacks.j6 k x0 x1 AM.1 true AH AI AD AE AG AF AA AJ AB AK AC AL)) else (laws_FnSlacks.j6 k x0 x1 AM.1 true AH AI AD AE AG AF AA AJ AB AK AC AL)) else (laws_FnSlacks.j6 k x0 x1 AM.1 true AH AI AD AE AG AF AA AJ AB AK AC AL))))
def laws_FnSlacks.j6 : Nat → List Int → List Int → List Int → Bool → Int → Int → Int → Int → Int → Int → Int → Int → Int → Int → Int → Int → Option (Bool)
  | 0, _, _, _, _, _, _, _, _, _, _, _, _, _, _, _, _ => none
  | k + 1, x0, x1, AN, AM, AB, AC, AH, AJ, AK, AA, AF, AD, AL, AE, AG, AI => if AM = true then (some false) else (laws_FnSlacks.l2 k x0 x1 AN 0 AB AC AH AJ AK AA AF AD AL AE AG AI)
def laws_FnSlacks.l2 : Nat → List Int → List Int → List Int → Int → Int → Int → Int → Int → Int → Int → Int → Int → Int → Int → Int → Int → Option (Bool)
  | 0, _, _, _, _, _, _, _, _, _, _, _, _, _, _, _, _ => none
  | k + 1, x0, x1, AT, AS, AH, AI, AD, AE, AG, AF, AA, AJ, AB, AK, AC, AL => if AS < (AT.length : Int) then (if 0 ≤ AS then (if (rd AT AS) = 0 then (laws_FnSlacks.l2 k x0 x1 AT (wrap64 (AS + 1)) AH AI AD AE AG AF AA AJ AB AK AC AL) else (some false)) else (none)) else ((spec_P6Rope.f k x1).bind fun AM => ((spec_P6Holds.f k x0 AM.1 AM.2).bind fun AN => ((spec_P6Stands.f k x0 AH AI AD AE AG AF AA AJ AB AK AC AL (AN.length : Int)).bind fun AR => ((impl_SlacksOf.f k AH AI AD AE AG AF AA AJ AB AK AC AL AM.1 AM.2 AN AR).bind fun AQ => ((spec_SlacksOf.f k AH AI AD AE AG AF AA AJ AB AK AC AL AM.1 AM.2 AN AR).bind fun AO => ((impl_CanStand.f k AH AI AD AE AG AF AA AJ AB AK AC AL AM.1 AM.2 AN AR).bind fun AP => (laws_FnSlacks.l3 k AQ.1 AQ.2 AO.1 AO.2 AP.1 AP.2 0 0)))))))
def laws_FnSlacks.l3 : Nat → List Int → Int → List Int → Int → Bool → Int → Int → Int → Option (Bool)
  | 0, _, _, _, _, _, _, _, _ => none
  | k + 1, AG, AA, AB, AF, AE, AI, AH, AC => if AC < (AB.length : Int) then (if 0 ≤ AC then (laws_FnSlacks.l3 k AG AA AB AF AE AI (mn AH (rd AB AC)) (wrap64 (AC + 1))) else (none)) else (if AA = AF then ((spec_SameNumbers.f k AG AB).bind fun AD => (if AD = true then (if AI = AA then (if AA = 0 then (some (AE == (decide (AH ≥ 0)))) else (some true)) else (some false)) else (some false))) else (some false))
end
def laws_FnSlacks.f (k : Nat) (l0 : List Int) (l1 : List Int) : Option (Bool) := (laws_f6big.f l0).bind fun AA => (if AA = true then (laws_FnSlacks.j0 k l0 l1 true) else ((laws_f6big.f l1).bind fun AB => (laws_FnSlacks.j0 k l0 l1 AB)))
def laws_FnSlacks.T14 : Bool × List (List Nat × List Nat) := (true, [([], []), ([], []), ([], []), ([2], [2]), ([1, 3], [1, 3]), ([4], [4]), ([], []), ([], []), ([6, 7], [6, 7]), ([8], [8]), ([0, 5, 9], [0, 5, 9]), ([10, 10, 0, 1, 2, 3, 4, 5, 6, 7, 8, 9, 10], [10])])
def laws_FnSlacks.B14 : List Nat := [0, 0, 0, 4, 14, 30, 0, 0, 192, 448, 1023, 2047]
theorem laws_FnSlacks.tab14 : rtab .any (opsOf Try.f5 14) = laws_FnSlacks.T14 := by kernel_rfl
theorem laws_FnSlacks.bits14 : waitsOk laws_FnSlacks.T14.2 laws_FnSlacks.B14 = true := by kernel_rfl

/-- THE ONE PURE STATEMENT of laws_FnSlacks: yours. -/
def laws_FnSlacks.Pure : Prop := ∀ (l0 : List Int) (l1 : List Int), l0.length ≤ maxLen → l0.length * 1 ≤ 140737488351232 → (∀ x ∈ l0, (Lit.int .u8 x).wf = true) → l1.length ≤ maxLen → l1.length * 1 ≤ 140737488351232 → (∀ x ∈ l1, (Lit.int .u8 x).wf = true) → ∃ k, laws_FnSlacks.f k l0 l1 = some true

end Go.Proofs.Ytooidjdgfoioiaa.P
