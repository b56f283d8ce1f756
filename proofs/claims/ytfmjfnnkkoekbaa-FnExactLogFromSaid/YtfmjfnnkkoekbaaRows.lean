/-
  No cell of these rows narrows 'for every input' (looked for: loops, veiled, ifaces, maps, wideKeys, modest, calm, conditions, laid).
  DERIVED. THE GIVEN ROWS OF THIS SEAT. 10 by the template 'for every input the law returns true; each argument reads behind the call as it read before'; 0 by the template 'total and deterministic' (their statements: YtfmjfnnkkoekbaaTotals.lean).
  GIVEN WITH THE SEED: the statements are not yours to turn. If you find one false, say at which input.
  Laid BY PROGRAM, IN A SANDBOX (cutbox-rows.mjs): the forced cells as the released guide's own fill.sh prints them over the translation c0f39f77af58fb0b… (all of the seat's roots in one cut). By AI agents, Wed Nov 11 2026. No macro, syntax, notation, axiom, sorry.
-/
import Derived.Test.YtfmjfnnkkoekbaaChecked
import GoSem.Claim
import GoSem.ClaimJoined
import GoSem.ClaimMapViews
import Derived.JoinedTies
import Derived.KernelRfl
namespace Go.Proofs.Ytfmjfnnkkoekbaa
/- THE CELL 'sum', in the pinned program and in every row, IS THE sha256 OF THE DUMP (.gsa) THAT YtfmjfnnkkoekbaaProg.lean LOADS. Nothing in Lean hashes anything: it is a label: what it is worth is what the hold of that sum in a sandbox is worth. -/
noncomputable def Try.pinned : Pinned := { name := "ytfmjfnnkkoekbaa", sum := "c0f39f77af58fb0bbf42e920df23dbeaec7eca2e94ec4d4933edb41136530b06", checked := Try.checked }
namespace Rows
def none {H : Type} : Left H := { results := [], args := [] }

/-- 'laws.FnExactFirstWrongCount': WHATEVER THE INPUT: true; the input reads as it did. -/
def fnExactFirstWrongCountSpec : ChangeSpec := { name := "fnExactFirstWrongCount", fn := fun _ => fun
  | [d] => { results := [.lit (.bool true)], args := [d] }
  | _ => none }
def fnExactFirstWrongCountRow : OpenClaim := { program := "ytfmjfnnkkoekbaa", sum := "c0f39f77af58fb0bbf42e920df23dbeaec7eca2e94ec4d4933edb41136530b06", func := "loop.example/g01361/laws.FnExactFirstWrongCount", spec := "fnExactFirstWrongCount", unfollowed := true, recurses := true, apart := false }
def FnExactFirstWrongCountSaid : Prop := fnExactFirstWrongCountRow.holds Try.pinned (OpenSpec.ofChange fnExactFirstWrongCountSpec)

/-- ITS FALSE NEIGHBOUR: 'it returns false'. Refute it at one input. -/
def fnExactFirstWrongCountWrong : ChangeSpec := { name := "fnExactFirstWrongCount", fn := fun _ => fun
  | [d] => { results := [.lit (.bool false)], args := [d] }
  | _ => none }
def FnExactFirstWrongCountWrongFalsely : Prop := fnExactFirstWrongCountRow.holds Try.pinned (OpenSpec.ofChange fnExactFirstWrongCountWrong)

/-- 'laws.FnExactMostlyLost': WHATEVER THE INPUT: true; the input reads as it did. -/
def fnExactMostlyLostSpec : ChangeSpec := { name := "fnExactMostlyLost", fn := fun _ => fun
  | [d] => { results := [.lit (.bool true)], args := [d] }
  | _ => none }
def fnExactMostlyLostRow : OpenClaim := { program := "ytfmjfnnkkoekbaa", sum := "c0f39f77af58fb0bbf42e920df23dbeaec7eca2e94ec4d4933edb41136530b06", func := "loop.example/g01361/laws.FnExactMostlyLost", spec := "fnExactMostlyLost", apart := false }
def FnExactMostlyLostSaid : Prop := fnExactMostlyLostRow.holds Try.pinned (OpenSpec.ofChange fnExactMostlyLostSpec)

/-- ITS FALSE NEIGHBOUR: 'it returns false'. Refute it at one input. -/
def fnExactMostlyLostWrong : ChangeSpec := { name := "fnExactMostlyLost", fn := fun _ => fun
  | [d] => { results := [.lit (.bool false)], args := [d] }
  | _ => none }
def FnExactMostlyLostWrongFalsely : Prop := fnExactMostlyLostRow.holds Try.pinned (OpenSpec.ofChange fnExactMostlyLostWrong)

/-- 'laws.FnExactFirstPossible': WHATEVER THE INPUT: true; the input reads as it did. -/
def fnExactFirstPossibleSpec : ChangeSpec := { name := "fnExactFirstPossible", fn := fun _ => fun
  | [d1, d2, d3] => { results := [.lit (.bool true)], args := [d1, d2, d3] }
  | _ => none }
def fnExactFirstPossibleRow : OpenClaim := { program := "ytfmjfnnkkoekbaa", sum := "c0f39f77af58fb0bbf42e920df23dbeaec7eca2e94ec4d4933edb41136530b06", func := "loop.example/g01361/laws.FnExactFirstPossible", spec := "fnExactFirstPossible", unfollowed := true, recurses := true, apart := false }
def FnExactFirstPossibleSaid : Prop := fnExactFirstPossibleRow.holds Try.pinned (OpenSpec.ofChange fnExactFirstPossibleSpec)

/-- ITS FALSE NEIGHBOUR: 'it returns false'. Refute it at one input. -/
def fnExactFirstPossibleWrong : ChangeSpec := { name := "fnExactFirstPossible", fn := fun _ => fun
  | [d1, d2, d3] => { results := [.lit (.bool false)], args := [d1, d2, d3] }
  | _ => none }
def FnExactFirstPossibleWrongFalsely : Prop := fnExactFirstPossibleRow.holds Try.pinned (OpenSpec.ofChange fnExactFirstPossibleWrong)

/-- 'laws.FnExactRepairCounts': WHATEVER THE INPUT: true; the input reads as it did. -/
def fnExactRepairCountsSpec : ChangeSpec := { name := "fnExactRepairCounts", fn := fun _ => fun
  | [d] => { results := [.lit (.bool true)], args := [d] }
  | _ => none }
def fnExactRepairCountsRow : OpenClaim := { program := "ytfmjfnnkkoekbaa", sum := "c0f39f77af58fb0bbf42e920df23dbeaec7eca2e94ec4d4933edb41136530b06", func := "loop.example/g01361/laws.FnExactRepairCounts", spec := "fnExactRepairCounts", unfollowed := true, recurses := true, apart := false }
def FnExactRepairCountsSaid : Prop := fnExactRepairCountsRow.holds Try.pinned (OpenSpec.ofChange fnExactRepairCountsSpec)

/-- ITS FALSE NEIGHBOUR: 'it returns false'. Refute it at one input. -/
def fnExactRepairCountsWrong : ChangeSpec := { name := "fnExactRepairCounts", fn := fun _ => fun
  | [d] => { results := [.lit (.bool false)], args := [d] }
  | _ => none }
def FnExactRepairCountsWrongFalsely : Prop := fnExactRepairCountsRow.holds Try.pinned (OpenSpec.ofChange fnExactRepairCountsWrong)

/-- 'laws.FnExactBetweenAt': WHATEVER THE INPUT: true; the input reads as it did. -/
def fnExactBetweenAtSpec : ChangeSpec := { name := "fnExactBetweenAt", fn := fun _ => fun
  | [d1, d2, d3, d4] => { results := [.lit (.bool true)], args := [d1, d2, d3, d4] }
  | _ => none }
def fnExactBetweenAtRow : OpenClaim := { program := "ytfmjfnnkkoekbaa", sum := "c0f39f77af58fb0bbf42e920df23dbeaec7eca2e94ec4d4933edb41136530b06", func := "loop.example/g01361/laws.FnExactBetweenAt", spec := "fnExactBetweenAt", unfollowed := true, recurses := true, apart := false }
def FnExactBetweenAtSaid : Prop := fnExactBetweenAtRow.holds Try.pinned (OpenSpec.ofChange fnExactBetweenAtSpec)

/-- ITS FALSE NEIGHBOUR: 'it returns false'. Refute it at one input. -/
def fnExactBetweenAtWrong : ChangeSpec := { name := "fnExactBetweenAt", fn := fun _ => fun
  | [d1, d2, d3, d4] => { results := [.lit (.bool false)], args := [d1, d2, d3, d4] }
  | _ => none }
def FnExactBetweenAtWrongFalsely : Prop := fnExactBetweenAtRow.holds Try.pinned (OpenSpec.ofChange fnExactBetweenAtWrong)

/-- 'laws.FnExactLogFrom': WHATEVER THE INPUT: true; the input reads as it did. -/
def fnExactLogFromSpec : ChangeSpec := { name := "fnExactLogFrom", fn := fun _ => fun
  | [d1, d2, d3] => { results := [.lit (.bool true)], args := [d1, d2, d3] }
  | _ => none }
def fnExactLogFromRow : OpenClaim := { program := "ytfmjfnnkkoekbaa", sum := "c0f39f77af58fb0bbf42e920df23dbeaec7eca2e94ec4d4933edb41136530b06", func := "loop.example/g01361/laws.FnExactLogFrom", spec := "fnExactLogFrom", unfollowed := true, recurses := true, apart := false }
def FnExactLogFromSaid : Prop := fnExactLogFromRow.holds Try.pinned (OpenSpec.ofChange fnExactLogFromSpec)

/-- ITS FALSE NEIGHBOUR: 'it returns false'. Refute it at one input. -/
def fnExactLogFromWrong : ChangeSpec := { name := "fnExactLogFrom", fn := fun _ => fun
  | [d1, d2, d3] => { results := [.lit (.bool false)], args := [d1, d2, d3] }
  | _ => none }
def FnExactLogFromWrongFalsely : Prop := fnExactLogFromRow.holds Try.pinned (OpenSpec.ofChange fnExactLogFromWrong)

/-- 'laws.FnAllowed': WHATEVER THE INPUT: true; the input reads as it did. -/
def fnAllowedSpec : ChangeSpec := { name := "fnAllowed", fn := fun _ => fun
  | [d1, d2] => { results := [.lit (.bool true)], args := [d1, d2] }
  | _ => none }
def fnAllowedRow : OpenClaim := { program := "ytfmjfnnkkoekbaa", sum := "c0f39f77af58fb0bbf42e920df23dbeaec7eca2e94ec4d4933edb41136530b06", func := "loop.example/g01361/laws.FnAllowed", spec := "fnAllowed", unfollowed := true, recurses := true, apart := false }
def FnAllowedSaid : Prop := fnAllowedRow.holds Try.pinned (OpenSpec.ofChange fnAllowedSpec)

/-- ITS FALSE NEIGHBOUR: 'it returns false'. Refute it at one input. -/
def fnAllowedWrong : ChangeSpec := { name := "fnAllowed", fn := fun _ => fun
  | [d1, d2] => { results := [.lit (.bool false)], args := [d1, d2] }
  | _ => none }
def FnAllowedWrongFalsely : Prop := fnAllowedRow.holds Try.pinned (OpenSpec.ofChange fnAllowedWrong)

/-- 'laws.FnExactSortRecords': WHATEVER THE INPUT: true; the input reads as it did. -/
def fnExactSortRecordsSpec : ChangeSpec := { name := "fnExactSortRecords", fn := fun _ => fun
  | [d1, d2, d3] => { results := [.lit (.bool true)], args := [d1, d2, d3] }
  | _ => none }
def fnExactSortRecordsRow : OpenClaim := { program := "ytfmjfnnkkoekbaa", sum := "c0f39f77af58fb0bbf42e920df23dbeaec7eca2e94ec4d4933edb41136530b06", func := "loop.example/g01361/laws.FnExactSortRecords", spec := "fnExactSortRecords", unfollowed := true, recurses := true, apart := false }
def FnExactSortRecordsSaid : Prop := fnExactSortRecordsRow.holds Try.pinned (OpenSpec.ofChange fnExactSortRecordsSpec)

/-- ITS FALSE NEIGHBOUR: 'it returns false'. Refute it at one input. -/
def fnExactSortRecordsWrong : ChangeSpec := { name := "fnExactSortRecords", fn := fun _ => fun
  | [d1, d2, d3] => { results := [.lit (.bool false)], args := [d1, d2, d3] }
  | _ => none }
def FnExactSortRecordsWrongFalsely : Prop := fnExactSortRecordsRow.holds Try.pinned (OpenSpec.ofChange fnExactSortRecordsWrong)

/-- 'laws.FnExactFirstBackward': WHATEVER THE INPUT: true; the input reads as it did. -/
def fnExactFirstBackwardSpec : ChangeSpec := { name := "fnExactFirstBackward", fn := fun _ => fun
  | [d1, d2, d3] => { results := [.lit (.bool true)], args := [d1, d2, d3] }
  | _ => none }
def fnExactFirstBackwardRow : OpenClaim := { program := "ytfmjfnnkkoekbaa", sum := "c0f39f77af58fb0bbf42e920df23dbeaec7eca2e94ec4d4933edb41136530b06", func := "loop.example/g01361/laws.FnExactFirstBackward", spec := "fnExactFirstBackward", unfollowed := true, recurses := true, apart := false }
def FnExactFirstBackwardSaid : Prop := fnExactFirstBackwardRow.holds Try.pinned (OpenSpec.ofChange fnExactFirstBackwardSpec)

/-- ITS FALSE NEIGHBOUR: 'it returns false'. Refute it at one input. -/
def fnExactFirstBackwardWrong : ChangeSpec := { name := "fnExactFirstBackward", fn := fun _ => fun
  | [d1, d2, d3] => { results := [.lit (.bool false)], args := [d1, d2, d3] }
  | _ => none }
def FnExactFirstBackwardWrongFalsely : Prop := fnExactFirstBackwardRow.holds Try.pinned (OpenSpec.ofChange fnExactFirstBackwardWrong)

/-- 'laws.FnRecords': WHATEVER THE INPUT: true; the input reads as it did. -/
def fnRecordsSpec : ChangeSpec := { name := "fnRecords", fn := fun _ => fun
  | [d1, d2] => { results := [.lit (.bool true)], args := [d1, d2] }
  | _ => none }
def fnRecordsRow : OpenClaim := { program := "ytfmjfnnkkoekbaa", sum := "c0f39f77af58fb0bbf42e920df23dbeaec7eca2e94ec4d4933edb41136530b06", func := "loop.example/g01361/laws.FnRecords", spec := "fnRecords", unfollowed := true, recurses := true, apart := false }
def FnRecordsSaid : Prop := fnRecordsRow.holds Try.pinned (OpenSpec.ofChange fnRecordsSpec)

/-- ITS FALSE NEIGHBOUR: 'it returns false'. Refute it at one input. -/
def fnRecordsWrong : ChangeSpec := { name := "fnRecords", fn := fun _ => fun
  | [d1, d2] => { results := [.lit (.bool false)], args := [d1, d2] }
  | _ => none }
def FnRecordsWrongFalsely : Prop := fnRecordsRow.holds Try.pinned (OpenSpec.ofChange fnRecordsWrong)

/- THE SECOND FORM. 'bulk': how many values and letters a reading holds, each counted each time it is reached (what is shared counts as often as it is met; a slice's spare places count too). A statement '..UptoSaid' is the law's where the arguments, and the package variables that the reading takes, are together of bulk at most 1048576: NARROWER than '..Said'. Prove '..Said' where nothing that the law and all that it calls make is longer than what came in: it says more and counts as full. Else prove '..UptoSaid'. A law counts once. -/
mutual
def uptoBulk {H : Type} : DataW H → Nat
  | .lit (.string bytes) => bytes.length + 1
  | .lit _ => 1
  | .nil => 1
  | .ptr d => uptoBulk d + 1
  | .slice elems spare => uptoBulkAll elems + uptoBulkAll spare + 1
  | .agg parts => uptoBulkAll parts + 1
  | .iface _ d => uptoBulk d + 1
  | .map entries => uptoBulkEntries entries + 1
  | .held _ => 1
def uptoBulkAll {H : Type} : List (DataW H) → Nat
  | [] => 0
  | d :: r => uptoBulk d + uptoBulkAll r
def uptoBulkEntries {H : Type} : List (Lit × DataW H) → Nat
  | [] => 0
  | x :: r => uptoBulkEntry x + uptoBulkEntries r
def uptoBulkEntry {H : Type} : Lit × DataW H → Nat
  | (.string bytes, d) => bytes.length + uptoBulk d + 1
  | (_, d) => uptoBulk d + 1
 end
def uptoSmall : (H : Type) → List (DataW H) → Bool := fun _ ds => decide (uptoBulkAll ds ≤ 1048576)
def OpenSpec.upto (s : _root_.Go.ChangeSpec) : _root_.Go.OpenSpec := { _root_.Go.OpenSpec.ofChange s with cond := some uptoSmall }

/-- 'laws.FnExactFirstWrongCount', WHERE WHAT IT READS IS OF BULK AT MOST 1048576: true; the input reads as it did. -/
def fnExactFirstWrongCountUptoRow : OpenClaim := { program := "ytfmjfnnkkoekbaa", sum := "c0f39f77af58fb0bbf42e920df23dbeaec7eca2e94ec4d4933edb41136530b06", func := "loop.example/g01361/laws.FnExactFirstWrongCount", spec := "fnExactFirstWrongCount", unfollowed := true, recurses := true, apart := false, narrowed := true }
def FnExactFirstWrongCountUptoSaid : Prop := fnExactFirstWrongCountUptoRow.holds Try.pinned (OpenSpec.upto fnExactFirstWrongCountSpec)

/-- 'laws.FnExactMostlyLost', WHERE WHAT IT READS IS OF BULK AT MOST 1048576: true; the input reads as it did. -/
def fnExactMostlyLostUptoRow : OpenClaim := { program := "ytfmjfnnkkoekbaa", sum := "c0f39f77af58fb0bbf42e920df23dbeaec7eca2e94ec4d4933edb41136530b06", func := "loop.example/g01361/laws.FnExactMostlyLost", spec := "fnExactMostlyLost", apart := false, narrowed := true }
def FnExactMostlyLostUptoSaid : Prop := fnExactMostlyLostUptoRow.holds Try.pinned (OpenSpec.upto fnExactMostlyLostSpec)

/-- 'laws.FnExactFirstPossible', WHERE WHAT IT READS IS OF BULK AT MOST 1048576: true; the input reads as it did. -/
def fnExactFirstPossibleUptoRow : OpenClaim := { program := "ytfmjfnnkkoekbaa", sum := "c0f39f77af58fb0bbf42e920df23dbeaec7eca2e94ec4d4933edb41136530b06", func := "loop.example/g01361/laws.FnExactFirstPossible", spec := "fnExactFirstPossible", unfollowed := true, recurses := true, apart := false, narrowed := true }
def FnExactFirstPossibleUptoSaid : Prop := fnExactFirstPossibleUptoRow.holds Try.pinned (OpenSpec.upto fnExactFirstPossibleSpec)

/-- 'laws.FnExactRepairCounts', WHERE WHAT IT READS IS OF BULK AT MOST 1048576: true; the input reads as it did. -/
def fnExactRepairCountsUptoRow : OpenClaim := { program := "ytfmjfnnkkoekbaa", sum := "c0f39f77af58fb0bbf42e920df23dbeaec7eca2e94ec4d4933edb41136530b06", func := "loop.example/g01361/laws.FnExactRepairCounts", spec := "fnExactRepairCounts", unfollowed := true, recurses := true, apart := false, narrowed := true }
def FnExactRepairCountsUptoSaid : Prop := fnExactRepairCountsUptoRow.holds Try.pinned (OpenSpec.upto fnExactRepairCountsSpec)

/-- 'laws.FnExactBetweenAt', WHERE WHAT IT READS IS OF BULK AT MOST 1048576: true; the input reads as it did. -/
def fnExactBetweenAtUptoRow : OpenClaim := { program := "ytfmjfnnkkoekbaa", sum := "c0f39f77af58fb0bbf42e920df23dbeaec7eca2e94ec4d4933edb41136530b06", func := "loop.example/g01361/laws.FnExactBetweenAt", spec := "fnExactBetweenAt", unfollowed := true, recurses := true, apart := false, narrowed := true }
def FnExactBetweenAtUptoSaid : Prop := fnExactBetweenAtUptoRow.holds Try.pinned (OpenSpec.upto fnExactBetweenAtSpec)

/-- 'laws.FnExactLogFrom', WHERE WHAT IT READS IS OF BULK AT MOST 1048576: true; the input reads as it did. -/
def fnExactLogFromUptoRow : OpenClaim := { program := "ytfmjfnnkkoekbaa", sum := "c0f39f77af58fb0bbf42e920df23dbeaec7eca2e94ec4d4933edb41136530b06", func := "loop.example/g01361/laws.FnExactLogFrom", spec := "fnExactLogFrom", unfollowed := true, recurses := true, apart := false, narrowed := true }
def FnExactLogFromUptoSaid : Prop := fnExactLogFromUptoRow.holds Try.pinned (OpenSpec.upto fnExactLogFromSpec)

/-- 'laws.FnAllowed', WHERE WHAT IT READS IS OF BULK AT MOST 1048576: true; the input reads as it did. -/
def fnAllowedUptoRow : OpenClaim := { program := "ytfmjfnnkkoekbaa", sum := "c0f39f77af58fb0bbf42e920df23dbeaec7eca2e94ec4d4933edb41136530b06", func := "loop.example/g01361/laws.FnAllowed", spec := "fnAllowed", unfollowed := true, recurses := true, apart := false, narrowed := true }
def FnAllowedUptoSaid : Prop := fnAllowedUptoRow.holds Try.pinned (OpenSpec.upto fnAllowedSpec)

/-- 'laws.FnExactSortRecords', WHERE WHAT IT READS IS OF BULK AT MOST 1048576: true; the input reads as it did. -/
def fnExactSortRecordsUptoRow : OpenClaim := { program := "ytfmjfnnkkoekbaa", sum := "c0f39f77af58fb0bbf42e920df23dbeaec7eca2e94ec4d4933edb41136530b06", func := "loop.example/g01361/laws.FnExactSortRecords", spec := "fnExactSortRecords", unfollowed := true, recurses := true, apart := false, narrowed := true }
def FnExactSortRecordsUptoSaid : Prop := fnExactSortRecordsUptoRow.holds Try.pinned (OpenSpec.upto fnExactSortRecordsSpec)

/-- 'laws.FnExactFirstBackward', WHERE WHAT IT READS IS OF BULK AT MOST 1048576: true; the input reads as it did. -/
def fnExactFirstBackwardUptoRow : OpenClaim := { program := "ytfmjfnnkkoekbaa", sum := "c0f39f77af58fb0bbf42e920df23dbeaec7eca2e94ec4d4933edb41136530b06", func := "loop.example/g01361/laws.FnExactFirstBackward", spec := "fnExactFirstBackward", unfollowed := true, recurses := true, apart := false, narrowed := true }
def FnExactFirstBackwardUptoSaid : Prop := fnExactFirstBackwardUptoRow.holds Try.pinned (OpenSpec.upto fnExactFirstBackwardSpec)

/-- 'laws.FnRecords', WHERE WHAT IT READS IS OF BULK AT MOST 1048576: true; the input reads as it did. -/
def fnRecordsUptoRow : OpenClaim := { program := "ytfmjfnnkkoekbaa", sum := "c0f39f77af58fb0bbf42e920df23dbeaec7eca2e94ec4d4933edb41136530b06", func := "loop.example/g01361/laws.FnRecords", spec := "fnRecords", unfollowed := true, recurses := true, apart := false, narrowed := true }
def FnRecordsUptoSaid : Prop := fnRecordsUptoRow.holds Try.pinned (OpenSpec.upto fnRecordsSpec)

end Rows
end Go.Proofs.Ytfmjfnnkkoekbaa
