/-
  No cell of these rows narrows 'for every input' (looked for: loops, veiled, ifaces, maps, wideKeys, modest, calm, conditions, laid).
  DERIVED. THE GIVEN ROWS OF THIS SEAT. 9 by the template 'for every input the law returns true; each argument reads behind the call as it read before'; 0 by the template 'total and deterministic' (their statements: YtelgmojnndbgmaaTotals.lean).
  GIVEN WITH THE SEED: the statements are not yours to turn. If you find one false, say at which input.
  Laid BY PROGRAM, IN A SANDBOX (cutbox-rows.mjs): the forced cells as the released guide's own fill.sh prints them over the translation 2328dc1527fd2e61… (all of the seat's roots in one cut). By AI agents, Wed Nov 11 2026. No macro, syntax, notation, axiom, sorry.
-/
import Derived.Test.YtelgmojnndbgmaaChecked
import GoSem.Claim
import GoSem.ClaimJoined
import GoSem.ClaimMapViews
import Derived.JoinedTies
import Derived.KernelRfl
namespace Go.Proofs.Ytelgmojnndbgmaa
/- THE CELL 'sum', in the pinned program and in every row, IS THE sha256 OF THE DUMP (.gsa) THAT YtelgmojnndbgmaaProg.lean LOADS. Nothing in Lean hashes anything: it is a label: what it is worth is what the hold of that sum in a sandbox is worth. -/
noncomputable def Try.pinned : Pinned := { name := "ytelgmojnndbgmaa", sum := "2328dc1527fd2e61741abda4800f4d116bcc4c1e727deceb9d02227039e172d6", checked := Try.checked }
namespace Rows
def none {H : Type} : Left H := { results := [], args := [] }

/-- 'laws.FnExactHabitText': WHATEVER THE INPUT: true; the input reads as it did. -/
def fnExactHabitTextSpec : ChangeSpec := { name := "fnExactHabitText", fn := fun _ => fun
  | [d] => { results := [.lit (.bool true)], args := [d] }
  | _ => none }
def fnExactHabitTextRow : OpenClaim := { program := "ytelgmojnndbgmaa", sum := "2328dc1527fd2e61741abda4800f4d116bcc4c1e727deceb9d02227039e172d6", func := "loop.example/g01361/laws.FnExactHabitText", spec := "fnExactHabitText", apart := false }
def FnExactHabitTextSaid : Prop := fnExactHabitTextRow.holds Try.pinned (OpenSpec.ofChange fnExactHabitTextSpec)

/-- ITS FALSE NEIGHBOUR: 'it returns false'. Refute it at one input. -/
def fnExactHabitTextWrong : ChangeSpec := { name := "fnExactHabitText", fn := fun _ => fun
  | [d] => { results := [.lit (.bool false)], args := [d] }
  | _ => none }
def FnExactHabitTextWrongFalsely : Prop := fnExactHabitTextRow.holds Try.pinned (OpenSpec.ofChange fnExactHabitTextWrong)

/-- 'laws.FnExactMissingBy': WHATEVER THE INPUT: true; the input reads as it did. -/
def fnExactMissingBySpec : ChangeSpec := { name := "fnExactMissingBy", fn := fun _ => fun
  | [d1, d2, d3] => { results := [.lit (.bool true)], args := [d1, d2, d3] }
  | _ => none }
def fnExactMissingByRow : OpenClaim := { program := "ytelgmojnndbgmaa", sum := "2328dc1527fd2e61741abda4800f4d116bcc4c1e727deceb9d02227039e172d6", func := "loop.example/g01361/laws.FnExactMissingBy", spec := "fnExactMissingBy", unfollowed := true, recurses := true, apart := false }
def FnExactMissingBySaid : Prop := fnExactMissingByRow.holds Try.pinned (OpenSpec.ofChange fnExactMissingBySpec)

/-- ITS FALSE NEIGHBOUR: 'it returns false'. Refute it at one input. -/
def fnExactMissingByWrong : ChangeSpec := { name := "fnExactMissingBy", fn := fun _ => fun
  | [d1, d2, d3] => { results := [.lit (.bool false)], args := [d1, d2, d3] }
  | _ => none }
def FnExactMissingByWrongFalsely : Prop := fnExactMissingByRow.holds Try.pinned (OpenSpec.ofChange fnExactMissingByWrong)

/-- 'laws.FnExactBetweenAt': WHATEVER THE INPUT: true; the input reads as it did. -/
def fnExactBetweenAtSpec : ChangeSpec := { name := "fnExactBetweenAt", fn := fun _ => fun
  | [d1, d2, d3, d4] => { results := [.lit (.bool true)], args := [d1, d2, d3, d4] }
  | _ => none }
def fnExactBetweenAtRow : OpenClaim := { program := "ytelgmojnndbgmaa", sum := "2328dc1527fd2e61741abda4800f4d116bcc4c1e727deceb9d02227039e172d6", func := "loop.example/g01361/laws.FnExactBetweenAt", spec := "fnExactBetweenAt", unfollowed := true, recurses := true, apart := false }
def FnExactBetweenAtSaid : Prop := fnExactBetweenAtRow.holds Try.pinned (OpenSpec.ofChange fnExactBetweenAtSpec)

/-- ITS FALSE NEIGHBOUR: 'it returns false'. Refute it at one input. -/
def fnExactBetweenAtWrong : ChangeSpec := { name := "fnExactBetweenAt", fn := fun _ => fun
  | [d1, d2, d3, d4] => { results := [.lit (.bool false)], args := [d1, d2, d3, d4] }
  | _ => none }
def FnExactBetweenAtWrongFalsely : Prop := fnExactBetweenAtRow.holds Try.pinned (OpenSpec.ofChange fnExactBetweenAtWrong)

/-- 'laws.FnAllowed': WHATEVER THE INPUT: true; the input reads as it did. -/
def fnAllowedSpec : ChangeSpec := { name := "fnAllowed", fn := fun _ => fun
  | [d1, d2] => { results := [.lit (.bool true)], args := [d1, d2] }
  | _ => none }
def fnAllowedRow : OpenClaim := { program := "ytelgmojnndbgmaa", sum := "2328dc1527fd2e61741abda4800f4d116bcc4c1e727deceb9d02227039e172d6", func := "loop.example/g01361/laws.FnAllowed", spec := "fnAllowed", unfollowed := true, recurses := true, apart := false }
def FnAllowedSaid : Prop := fnAllowedRow.holds Try.pinned (OpenSpec.ofChange fnAllowedSpec)

/-- ITS FALSE NEIGHBOUR: 'it returns false'. Refute it at one input. -/
def fnAllowedWrong : ChangeSpec := { name := "fnAllowed", fn := fun _ => fun
  | [d1, d2] => { results := [.lit (.bool false)], args := [d1, d2] }
  | _ => none }
def FnAllowedWrongFalsely : Prop := fnAllowedRow.holds Try.pinned (OpenSpec.ofChange fnAllowedWrong)

/-- 'laws.FnExactSortRecords': WHATEVER THE INPUT: true; the input reads as it did. -/
def fnExactSortRecordsSpec : ChangeSpec := { name := "fnExactSortRecords", fn := fun _ => fun
  | [d1, d2, d3] => { results := [.lit (.bool true)], args := [d1, d2, d3] }
  | _ => none }
def fnExactSortRecordsRow : OpenClaim := { program := "ytelgmojnndbgmaa", sum := "2328dc1527fd2e61741abda4800f4d116bcc4c1e727deceb9d02227039e172d6", func := "loop.example/g01361/laws.FnExactSortRecords", spec := "fnExactSortRecords", unfollowed := true, recurses := true, apart := false }
def FnExactSortRecordsSaid : Prop := fnExactSortRecordsRow.holds Try.pinned (OpenSpec.ofChange fnExactSortRecordsSpec)

/-- ITS FALSE NEIGHBOUR: 'it returns false'. Refute it at one input. -/
def fnExactSortRecordsWrong : ChangeSpec := { name := "fnExactSortRecords", fn := fun _ => fun
  | [d1, d2, d3] => { results := [.lit (.bool false)], args := [d1, d2, d3] }
  | _ => none }
def FnExactSortRecordsWrongFalsely : Prop := fnExactSortRecordsRow.holds Try.pinned (OpenSpec.ofChange fnExactSortRecordsWrong)

/-- 'laws.FnExactFirstBackward': WHATEVER THE INPUT: true; the input reads as it did. -/
def fnExactFirstBackwardSpec : ChangeSpec := { name := "fnExactFirstBackward", fn := fun _ => fun
  | [d1, d2, d3] => { results := [.lit (.bool true)], args := [d1, d2, d3] }
  | _ => none }
def fnExactFirstBackwardRow : OpenClaim := { program := "ytelgmojnndbgmaa", sum := "2328dc1527fd2e61741abda4800f4d116bcc4c1e727deceb9d02227039e172d6", func := "loop.example/g01361/laws.FnExactFirstBackward", spec := "fnExactFirstBackward", unfollowed := true, recurses := true, apart := false }
def FnExactFirstBackwardSaid : Prop := fnExactFirstBackwardRow.holds Try.pinned (OpenSpec.ofChange fnExactFirstBackwardSpec)

/-- ITS FALSE NEIGHBOUR: 'it returns false'. Refute it at one input. -/
def fnExactFirstBackwardWrong : ChangeSpec := { name := "fnExactFirstBackward", fn := fun _ => fun
  | [d1, d2, d3] => { results := [.lit (.bool false)], args := [d1, d2, d3] }
  | _ => none }
def FnExactFirstBackwardWrongFalsely : Prop := fnExactFirstBackwardRow.holds Try.pinned (OpenSpec.ofChange fnExactFirstBackwardWrong)

/-- 'laws.FnExactVoteWord': WHATEVER THE INPUT: true; the input reads as it did. -/
def fnExactVoteWordSpec : ChangeSpec := { name := "fnExactVoteWord", fn := fun _ => fun
  | [d] => { results := [.lit (.bool true)], args := [d] }
  | _ => none }
def fnExactVoteWordRow : OpenClaim := { program := "ytelgmojnndbgmaa", sum := "2328dc1527fd2e61741abda4800f4d116bcc4c1e727deceb9d02227039e172d6", func := "loop.example/g01361/laws.FnExactVoteWord", spec := "fnExactVoteWord", unfollowed := true, recurses := true, apart := false }
def FnExactVoteWordSaid : Prop := fnExactVoteWordRow.holds Try.pinned (OpenSpec.ofChange fnExactVoteWordSpec)

/-- ITS FALSE NEIGHBOUR: 'it returns false'. Refute it at one input. -/
def fnExactVoteWordWrong : ChangeSpec := { name := "fnExactVoteWord", fn := fun _ => fun
  | [d] => { results := [.lit (.bool false)], args := [d] }
  | _ => none }
def FnExactVoteWordWrongFalsely : Prop := fnExactVoteWordRow.holds Try.pinned (OpenSpec.ofChange fnExactVoteWordWrong)

/-- 'laws.FnExactChooseApart': WHATEVER THE INPUT: true; the input reads as it did. -/
def fnExactChooseApartSpec : ChangeSpec := { name := "fnExactChooseApart", fn := fun _ => fun
  | [d1, d2] => { results := [.lit (.bool true)], args := [d1, d2] }
  | _ => none }
def fnExactChooseApartRow : OpenClaim := { program := "ytelgmojnndbgmaa", sum := "2328dc1527fd2e61741abda4800f4d116bcc4c1e727deceb9d02227039e172d6", func := "loop.example/g01361/laws.FnExactChooseApart", spec := "fnExactChooseApart", unfollowed := true, recurses := true, apart := false }
def FnExactChooseApartSaid : Prop := fnExactChooseApartRow.holds Try.pinned (OpenSpec.ofChange fnExactChooseApartSpec)

/-- ITS FALSE NEIGHBOUR: 'it returns false'. Refute it at one input. -/
def fnExactChooseApartWrong : ChangeSpec := { name := "fnExactChooseApart", fn := fun _ => fun
  | [d1, d2] => { results := [.lit (.bool false)], args := [d1, d2] }
  | _ => none }
def FnExactChooseApartWrongFalsely : Prop := fnExactChooseApartRow.holds Try.pinned (OpenSpec.ofChange fnExactChooseApartWrong)

/-- 'laws.FnExactSwappedBy': WHATEVER THE INPUT: true; the input reads as it did. -/
def fnExactSwappedBySpec : ChangeSpec := { name := "fnExactSwappedBy", fn := fun _ => fun
  | [d1, d2, d3] => { results := [.lit (.bool true)], args := [d1, d2, d3] }
  | _ => none }
def fnExactSwappedByRow : OpenClaim := { program := "ytelgmojnndbgmaa", sum := "2328dc1527fd2e61741abda4800f4d116bcc4c1e727deceb9d02227039e172d6", func := "loop.example/g01361/laws.FnExactSwappedBy", spec := "fnExactSwappedBy", unfollowed := true, recurses := true, apart := false }
def FnExactSwappedBySaid : Prop := fnExactSwappedByRow.holds Try.pinned (OpenSpec.ofChange fnExactSwappedBySpec)

/-- ITS FALSE NEIGHBOUR: 'it returns false'. Refute it at one input. -/
def fnExactSwappedByWrong : ChangeSpec := { name := "fnExactSwappedBy", fn := fun _ => fun
  | [d1, d2, d3] => { results := [.lit (.bool false)], args := [d1, d2, d3] }
  | _ => none }
def FnExactSwappedByWrongFalsely : Prop := fnExactSwappedByRow.holds Try.pinned (OpenSpec.ofChange fnExactSwappedByWrong)

/- THE SECOND FORM. 'bulk': how many values and letters a reading holds, each counted each time it is reached (what is shared counts as often as it is met; a slice's spare places count too). A statement '..UptoSaid' is the law's where the arguments, and the package variables that the reading takes, are together of bulk at most 1048576: NARROWER than '..Said'. Prove '..Said' where nothing that the law and all that it calls make is longer than what came in: it says more and counts as full. Else prove '..UptoSaid'. A law counts once. -/
mutual
def uptoBulk {H : Type} : DataW H → Nat
  | .lit (.string bytes) => bytes.length + 1
  | .lit _ => 1
  | .nil => 1
  | .ptr d => uptoBulk d + 1
  | .slice elems spare => uptoBulkAll elems + uptoBulkAll spare + 1
  | .agg parts => uptoBulkAll parts + 1
  | .iface _ d => uptoBulk d + 1
  | .map entries => uptoBulkEntries entries + 1
  | .held _ => 1
def uptoBulkAll {H : Type} : List (DataW H) → Nat
  | [] => 0
  | d :: r => uptoBulk d + uptoBulkAll r
def uptoBulkEntries {H : Type} : List (Lit × DataW H) → Nat
  | [] => 0
  | x :: r => uptoBulkEntry x + uptoBulkEntries r
def uptoBulkEntry {H : Type} : Lit × DataW H → Nat
  | (.string bytes, d) => bytes.length + uptoBulk d + 1
  | (_, d) => uptoBulk d + 1
 end
def uptoSmall : (H : Type) → List (DataW H) → Bool := fun _ ds => decide (uptoBulkAll ds ≤ 1048576)
def OpenSpec.upto (s : _root_.Go.ChangeSpec) : _root_.Go.OpenSpec := { _root_.Go.OpenSpec.ofChange s with cond := some uptoSmall }

/-- 'laws.FnExactHabitText', WHERE WHAT IT READS IS OF BULK AT MOST 1048576: true; the input reads as it did. -/
def fnExactHabitTextUptoRow : OpenClaim := { program := "ytelgmojnndbgmaa", sum := "2328dc1527fd2e61741abda4800f4d116bcc4c1e727deceb9d02227039e172d6", func := "loop.example/g01361/laws.FnExactHabitText", spec := "fnExactHabitText", apart := false, narrowed := true }
def FnExactHabitTextUptoSaid : Prop := fnExactHabitTextUptoRow.holds Try.pinned (OpenSpec.upto fnExactHabitTextSpec)

/-- 'laws.FnExactMissingBy', WHERE WHAT IT READS IS OF BULK AT MOST 1048576: true; the input reads as it did. -/
def fnExactMissingByUptoRow : OpenClaim := { program := "ytelgmojnndbgmaa", sum := "2328dc1527fd2e61741abda4800f4d116bcc4c1e727deceb9d02227039e172d6", func := "loop.example/g01361/laws.FnExactMissingBy", spec := "fnExactMissingBy", unfollowed := true, recurses := true, apart := false, narrowed := true }
def FnExactMissingByUptoSaid : Prop := fnExactMissingByUptoRow.holds Try.pinned (OpenSpec.upto fnExactMissingBySpec)

/-- 'laws.FnExactBetweenAt', WHERE WHAT IT READS IS OF BULK AT MOST 1048576: true; the input reads as it did. -/
def fnExactBetweenAtUptoRow : OpenClaim := { program := "ytelgmojnndbgmaa", sum := "2328dc1527fd2e61741abda4800f4d116bcc4c1e727deceb9d02227039e172d6", func := "loop.example/g01361/laws.FnExactBetweenAt", spec := "fnExactBetweenAt", unfollowed := true, recurses := true, apart := false, narrowed := true }
def FnExactBetweenAtUptoSaid : Prop := fnExactBetweenAtUptoRow.holds Try.pinned (OpenSpec.upto fnExactBetweenAtSpec)

/-- 'laws.FnAllowed', WHERE WHAT IT READS IS OF BULK AT MOST 1048576: true; the input reads as it did. -/
def fnAllowedUptoRow : OpenClaim := { program := "ytelgmojnndbgmaa", sum := "2328dc1527fd2e61741abda4800f4d116bcc4c1e727deceb9d02227039e172d6", func := "loop.example/g01361/laws.FnAllowed", spec := "fnAllowed", unfollowed := true, recurses := true, apart := false, narrowed := true }
def FnAllowedUptoSaid : Prop := fnAllowedUptoRow.holds Try.pinned (OpenSpec.upto fnAllowedSpec)

/-- 'laws.FnExactSortRecords', WHERE WHAT IT READS IS OF BULK AT MOST 1048576: true; the input reads as it did. -/
def fnExactSortRecordsUptoRow : OpenClaim := { program := "ytelgmojnndbgmaa", sum := "2328dc1527fd2e61741abda4800f4d116bcc4c1e727deceb9d02227039e172d6", func := "loop.example/g01361/laws.FnExactSortRecords", spec := "fnExactSortRecords", unfollowed := true, recurses := true, apart := false, narrowed := true }
def FnExactSortRecordsUptoSaid : Prop := fnExactSortRecordsUptoRow.holds Try.pinned (OpenSpec.upto fnExactSortRecordsSpec)

/-- 'laws.FnExactFirstBackward', WHERE WHAT IT READS IS OF BULK AT MOST 1048576: true; the input reads as it did. -/
def fnExactFirstBackwardUptoRow : OpenClaim := { program := "ytelgmojnndbgmaa", sum := "2328dc1527fd2e61741abda4800f4d116bcc4c1e727deceb9d02227039e172d6", func := "loop.example/g01361/laws.FnExactFirstBackward", spec := "fnExactFirstBackward", unfollowed := true, recurses := true, apart := false, narrowed := true }
def FnExactFirstBackwardUptoSaid : Prop := fnExactFirstBackwardUptoRow.holds Try.pinned (OpenSpec.upto fnExactFirstBackwardSpec)

/-- 'laws.FnExactVoteWord', WHERE WHAT IT READS IS OF BULK AT MOST 1048576: true; the input reads as it did. -/
def fnExactVoteWordUptoRow : OpenClaim := { program := "ytelgmojnndbgmaa", sum := "2328dc1527fd2e61741abda4800f4d116bcc4c1e727deceb9d02227039e172d6", func := "loop.example/g01361/laws.FnExactVoteWord", spec := "fnExactVoteWord", unfollowed := true, recurses := true, apart := false, narrowed := true }
def FnExactVoteWordUptoSaid : Prop := fnExactVoteWordUptoRow.holds Try.pinned (OpenSpec.upto fnExactVoteWordSpec)

/-- 'laws.FnExactChooseApart', WHERE WHAT IT READS IS OF BULK AT MOST 1048576: true; the input reads as it did. -/
def fnExactChooseApartUptoRow : OpenClaim := { program := "ytelgmojnndbgmaa", sum := "2328dc1527fd2e61741abda4800f4d116bcc4c1e727deceb9d02227039e172d6", func := "loop.example/g01361/laws.FnExactChooseApart", spec := "fnExactChooseApart", unfollowed := true, recurses := true, apart := false, narrowed := true }
def FnExactChooseApartUptoSaid : Prop := fnExactChooseApartUptoRow.holds Try.pinned (OpenSpec.upto fnExactChooseApartSpec)

/-- 'laws.FnExactSwappedBy', WHERE WHAT IT READS IS OF BULK AT MOST 1048576: true; the input reads as it did. -/
def fnExactSwappedByUptoRow : OpenClaim := { program := "ytelgmojnndbgmaa", sum := "2328dc1527fd2e61741abda4800f4d116bcc4c1e727deceb9d02227039e172d6", func := "loop.example/g01361/laws.FnExactSwappedBy", spec := "fnExactSwappedBy", unfollowed := true, recurses := true, apart := false, narrowed := true }
def FnExactSwappedByUptoSaid : Prop := fnExactSwappedByUptoRow.holds Try.pinned (OpenSpec.upto fnExactSwappedBySpec)

end Rows
end Go.Proofs.Ytelgmojnndbgmaa
