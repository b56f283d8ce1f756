/-
  No cell of these rows narrows 'for every input' (looked for: loops, veiled, ifaces, maps, wideKeys, modest, calm, conditions, laid).
  DERIVED. THE GIVEN ROWS OF THIS SEAT. 12 by the template 'for every input the law returns true; each argument reads behind the call as it read before'; 0 by the template 'total and deterministic' (their statements: YtgepgmmahapebaaTotals.lean).
  GIVEN WITH THE SEED: the statements are not yours to turn. If you find one false, say at which input.
  Laid BY PROGRAM, IN A SANDBOX (cutbox-rows.mjs): the forced cells as the released guide's own fill.sh prints them over the translation 72adf355bcdde601… (all of the seat's roots in one cut). By AI agents, Wed Nov 11 2026. No macro, syntax, notation, axiom, sorry.
-/
import Derived.Test.YtgepgmmahapebaaChecked
import GoSem.Claim
import GoSem.ClaimJoined
import GoSem.ClaimMapViews
import Derived.JoinedTies
import Derived.KernelRfl
namespace Go.Proofs.Ytgepgmmahapebaa
/- THE CELL 'sum', in the pinned program and in every row, IS THE sha256 OF THE DUMP (.gsa) THAT YtgepgmmahapebaaProg.lean LOADS. Nothing in Lean hashes anything: it is a label: what it is worth is what the hold of that sum in a sandbox is worth. -/
noncomputable def Try.pinned : Pinned := { name := "ytgepgmmahapebaa", sum := "72adf355bcdde601216d2fdec230a032a6cbec2b636960fb3b9c0c75da936c38", checked := Try.checked }
namespace Rows
def none {H : Type} : Left H := { results := [], args := [] }

/-- 'laws.FnExactHasPerson': WHATEVER THE INPUT: true; the input reads as it did. -/
def fnExactHasPersonSpec : ChangeSpec := { name := "fnExactHasPerson", fn := fun _ => fun
  | [d1, d2] => { results := [.lit (.bool true)], args := [d1, d2] }
  | _ => none }
def fnExactHasPersonRow : OpenClaim := { program := "ytgepgmmahapebaa", sum := "72adf355bcdde601216d2fdec230a032a6cbec2b636960fb3b9c0c75da936c38", func := "loop.example/g01361/laws.FnExactHasPerson", spec := "fnExactHasPerson", apart := false }
def FnExactHasPersonSaid : Prop := fnExactHasPersonRow.holds Try.pinned (OpenSpec.ofChange fnExactHasPersonSpec)

/-- ITS FALSE NEIGHBOUR: 'it returns false'. Refute it at one input. -/
def fnExactHasPersonWrong : ChangeSpec := { name := "fnExactHasPerson", fn := fun _ => fun
  | [d1, d2] => { results := [.lit (.bool false)], args := [d1, d2] }
  | _ => none }
def FnExactHasPersonWrongFalsely : Prop := fnExactHasPersonRow.holds Try.pinned (OpenSpec.ofChange fnExactHasPersonWrong)

/-- 'laws.FnExactCountPeople': WHATEVER THE INPUT: true; the input reads as it did. -/
def fnExactCountPeopleSpec : ChangeSpec := { name := "fnExactCountPeople", fn := fun _ => fun
  | [d] => { results := [.lit (.bool true)], args := [d] }
  | _ => none }
def fnExactCountPeopleRow : OpenClaim := { program := "ytgepgmmahapebaa", sum := "72adf355bcdde601216d2fdec230a032a6cbec2b636960fb3b9c0c75da936c38", func := "loop.example/g01361/laws.FnExactCountPeople", spec := "fnExactCountPeople", apart := false }
def FnExactCountPeopleSaid : Prop := fnExactCountPeopleRow.holds Try.pinned (OpenSpec.ofChange fnExactCountPeopleSpec)

/-- ITS FALSE NEIGHBOUR: 'it returns false'. Refute it at one input. -/
def fnExactCountPeopleWrong : ChangeSpec := { name := "fnExactCountPeople", fn := fun _ => fun
  | [d] => { results := [.lit (.bool false)], args := [d] }
  | _ => none }
def FnExactCountPeopleWrongFalsely : Prop := fnExactCountPeopleRow.holds Try.pinned (OpenSpec.ofChange fnExactCountPeopleWrong)

/-- 'laws.FnExactPeopleOf': WHATEVER THE INPUT: true; the input reads as it did. -/
def fnExactPeopleOfSpec : ChangeSpec := { name := "fnExactPeopleOf", fn := fun _ => fun
  | [d] => { results := [.lit (.bool true)], args := [d] }
  | _ => none }
def fnExactPeopleOfRow : OpenClaim := { program := "ytgepgmmahapebaa", sum := "72adf355bcdde601216d2fdec230a032a6cbec2b636960fb3b9c0c75da936c38", func := "loop.example/g01361/laws.FnExactPeopleOf", spec := "fnExactPeopleOf", unfollowed := true, recurses := true, apart := false }
def FnExactPeopleOfSaid : Prop := fnExactPeopleOfRow.holds Try.pinned (OpenSpec.ofChange fnExactPeopleOfSpec)

/-- ITS FALSE NEIGHBOUR: 'it returns false'. Refute it at one input. -/
def fnExactPeopleOfWrong : ChangeSpec := { name := "fnExactPeopleOf", fn := fun _ => fun
  | [d] => { results := [.lit (.bool false)], args := [d] }
  | _ => none }
def FnExactPeopleOfWrongFalsely : Prop := fnExactPeopleOfRow.holds Try.pinned (OpenSpec.ofChange fnExactPeopleOfWrong)

/-- 'laws.FnExactListPeople': WHATEVER THE INPUT: true; the input reads as it did. -/
def fnExactListPeopleSpec : ChangeSpec := { name := "fnExactListPeople", fn := fun _ => fun
  | [d] => { results := [.lit (.bool true)], args := [d] }
  | _ => none }
def fnExactListPeopleRow : OpenClaim := { program := "ytgepgmmahapebaa", sum := "72adf355bcdde601216d2fdec230a032a6cbec2b636960fb3b9c0c75da936c38", func := "loop.example/g01361/laws.FnExactListPeople", spec := "fnExactListPeople", unfollowed := true, recurses := true, apart := false }
def FnExactListPeopleSaid : Prop := fnExactListPeopleRow.holds Try.pinned (OpenSpec.ofChange fnExactListPeopleSpec)

/-- ITS FALSE NEIGHBOUR: 'it returns false'. Refute it at one input. -/
def fnExactListPeopleWrong : ChangeSpec := { name := "fnExactListPeople", fn := fun _ => fun
  | [d] => { results := [.lit (.bool false)], args := [d] }
  | _ => none }
def FnExactListPeopleWrongFalsely : Prop := fnExactListPeopleRow.holds Try.pinned (OpenSpec.ofChange fnExactListPeopleWrong)

/-- 'laws.FnExactValidRecords': WHATEVER THE INPUT: true; the input reads as it did. -/
def fnExactValidRecordsSpec : ChangeSpec := { name := "fnExactValidRecords", fn := fun _ => fun
  | [d1, d2, d3] => { results := [.lit (.bool true)], args := [d1, d2, d3] }
  | _ => none }
def fnExactValidRecordsRow : OpenClaim := { program := "ytgepgmmahapebaa", sum := "72adf355bcdde601216d2fdec230a032a6cbec2b636960fb3b9c0c75da936c38", func := "loop.example/g01361/laws.FnExactValidRecords", spec := "fnExactValidRecords", unfollowed := true, recurses := true, apart := false }
def FnExactValidRecordsSaid : Prop := fnExactValidRecordsRow.holds Try.pinned (OpenSpec.ofChange fnExactValidRecordsSpec)

/-- ITS FALSE NEIGHBOUR: 'it returns false'. Refute it at one input. -/
def fnExactValidRecordsWrong : ChangeSpec := { name := "fnExactValidRecords", fn := fun _ => fun
  | [d1, d2, d3] => { results := [.lit (.bool false)], args := [d1, d2, d3] }
  | _ => none }
def FnExactValidRecordsWrongFalsely : Prop := fnExactValidRecordsRow.holds Try.pinned (OpenSpec.ofChange fnExactValidRecordsWrong)

/-- 'laws.FnExactCountsAllow': WHATEVER THE INPUT: true; the input reads as it did. -/
def fnExactCountsAllowSpec : ChangeSpec := { name := "fnExactCountsAllow", fn := fun _ => fun
  | [d1, d2] => { results := [.lit (.bool true)], args := [d1, d2] }
  | _ => none }
def fnExactCountsAllowRow : OpenClaim := { program := "ytgepgmmahapebaa", sum := "72adf355bcdde601216d2fdec230a032a6cbec2b636960fb3b9c0c75da936c38", func := "loop.example/g01361/laws.FnExactCountsAllow", spec := "fnExactCountsAllow", unfollowed := true, recurses := true, apart := false }
def FnExactCountsAllowSaid : Prop := fnExactCountsAllowRow.holds Try.pinned (OpenSpec.ofChange fnExactCountsAllowSpec)

/-- ITS FALSE NEIGHBOUR: 'it returns false'. Refute it at one input. -/
def fnExactCountsAllowWrong : ChangeSpec := { name := "fnExactCountsAllow", fn := fun _ => fun
  | [d1, d2] => { results := [.lit (.bool false)], args := [d1, d2] }
  | _ => none }
def FnExactCountsAllowWrongFalsely : Prop := fnExactCountsAllowRow.holds Try.pinned (OpenSpec.ofChange fnExactCountsAllowWrong)

/-- 'laws.FnExactSameLog': WHATEVER THE INPUT: true; the input reads as it did. -/
def fnExactSameLogSpec : ChangeSpec := { name := "fnExactSameLog", fn := fun _ => fun
  | [d1, d2] => { results := [.lit (.bool true)], args := [d1, d2] }
  | _ => none }
def fnExactSameLogRow : OpenClaim := { program := "ytgepgmmahapebaa", sum := "72adf355bcdde601216d2fdec230a032a6cbec2b636960fb3b9c0c75da936c38", func := "loop.example/g01361/laws.FnExactSameLog", spec := "fnExactSameLog", apart := false }
def FnExactSameLogSaid : Prop := fnExactSameLogRow.holds Try.pinned (OpenSpec.ofChange fnExactSameLogSpec)

/-- ITS FALSE NEIGHBOUR: 'it returns false'. Refute it at one input. -/
def fnExactSameLogWrong : ChangeSpec := { name := "fnExactSameLog", fn := fun _ => fun
  | [d1, d2] => { results := [.lit (.bool false)], args := [d1, d2] }
  | _ => none }
def FnExactSameLogWrongFalsely : Prop := fnExactSameLogRow.holds Try.pinned (OpenSpec.ofChange fnExactSameLogWrong)

/-- 'laws.FnExactValidLog': WHATEVER THE INPUT: true; the input reads as it did. -/
def fnExactValidLogSpec : ChangeSpec := { name := "fnExactValidLog", fn := fun _ => fun
  | [d] => { results := [.lit (.bool true)], args := [d] }
  | _ => none }
def fnExactValidLogRow : OpenClaim := { program := "ytgepgmmahapebaa", sum := "72adf355bcdde601216d2fdec230a032a6cbec2b636960fb3b9c0c75da936c38", func := "loop.example/g01361/laws.FnExactValidLog", spec := "fnExactValidLog", apart := false }
def FnExactValidLogSaid : Prop := fnExactValidLogRow.holds Try.pinned (OpenSpec.ofChange fnExactValidLogSpec)

/-- ITS FALSE NEIGHBOUR: 'it returns false'. Refute it at one input. -/
def fnExactValidLogWrong : ChangeSpec := { name := "fnExactValidLog", fn := fun _ => fun
  | [d] => { results := [.lit (.bool false)], args := [d] }
  | _ => none }
def FnExactValidLogWrongFalsely : Prop := fnExactValidLogRow.holds Try.pinned (OpenSpec.ofChange fnExactValidLogWrong)

/-- 'laws.FnExactWaysFor': WHATEVER THE INPUT: true; the input reads as it did. -/
def fnExactWaysForSpec : ChangeSpec := { name := "fnExactWaysFor", fn := fun _ => fun
  | [d1, d2] => { results := [.lit (.bool true)], args := [d1, d2] }
  | _ => none }
def fnExactWaysForRow : OpenClaim := { program := "ytgepgmmahapebaa", sum := "72adf355bcdde601216d2fdec230a032a6cbec2b636960fb3b9c0c75da936c38", func := "loop.example/g01361/laws.FnExactWaysFor", spec := "fnExactWaysFor", unfollowed := true, recurses := true, apart := false }
def FnExactWaysForSaid : Prop := fnExactWaysForRow.holds Try.pinned (OpenSpec.ofChange fnExactWaysForSpec)

/-- ITS FALSE NEIGHBOUR: 'it returns false'. Refute it at one input. -/
def fnExactWaysForWrong : ChangeSpec := { name := "fnExactWaysFor", fn := fun _ => fun
  | [d1, d2] => { results := [.lit (.bool false)], args := [d1, d2] }
  | _ => none }
def FnExactWaysForWrongFalsely : Prop := fnExactWaysForRow.holds Try.pinned (OpenSpec.ofChange fnExactWaysForWrong)

/-- 'laws.FnExactIsWhole': WHATEVER THE INPUT: true; the input reads as it did. -/
def fnExactIsWholeSpec : ChangeSpec := { name := "fnExactIsWhole", fn := fun _ => fun
  | [d] => { results := [.lit (.bool true)], args := [d] }
  | _ => none }
def fnExactIsWholeRow : OpenClaim := { program := "ytgepgmmahapebaa", sum := "72adf355bcdde601216d2fdec230a032a6cbec2b636960fb3b9c0c75da936c38", func := "loop.example/g01361/laws.FnExactIsWhole", spec := "fnExactIsWhole", apart := false }
def FnExactIsWholeSaid : Prop := fnExactIsWholeRow.holds Try.pinned (OpenSpec.ofChange fnExactIsWholeSpec)

/-- ITS FALSE NEIGHBOUR: 'it returns false'. Refute it at one input. -/
def fnExactIsWholeWrong : ChangeSpec := { name := "fnExactIsWhole", fn := fun _ => fun
  | [d] => { results := [.lit (.bool false)], args := [d] }
  | _ => none }
def FnExactIsWholeWrongFalsely : Prop := fnExactIsWholeRow.holds Try.pinned (OpenSpec.ofChange fnExactIsWholeWrong)

/-- 'laws.FnExactLostBefore': WHATEVER THE INPUT: true; the input reads as it did. -/
def fnExactLostBeforeSpec : ChangeSpec := { name := "fnExactLostBefore", fn := fun _ => fun
  | [d1, d2] => { results := [.lit (.bool true)], args := [d1, d2] }
  | _ => none }
def fnExactLostBeforeRow : OpenClaim := { program := "ytgepgmmahapebaa", sum := "72adf355bcdde601216d2fdec230a032a6cbec2b636960fb3b9c0c75da936c38", func := "loop.example/g01361/laws.FnExactLostBefore", spec := "fnExactLostBefore", apart := false }
def FnExactLostBeforeSaid : Prop := fnExactLostBeforeRow.holds Try.pinned (OpenSpec.ofChange fnExactLostBeforeSpec)

/-- ITS FALSE NEIGHBOUR: 'it returns false'. Refute it at one input. -/
def fnExactLostBeforeWrong : ChangeSpec := { name := "fnExactLostBefore", fn := fun _ => fun
  | [d1, d2] => { results := [.lit (.bool false)], args := [d1, d2] }
  | _ => none }
def FnExactLostBeforeWrongFalsely : Prop := fnExactLostBeforeRow.holds Try.pinned (OpenSpec.ofChange fnExactLostBeforeWrong)

/-- 'laws.FnExactLastSeen': WHATEVER THE INPUT: true; the input reads as it did. -/
def fnExactLastSeenSpec : ChangeSpec := { name := "fnExactLastSeen", fn := fun _ => fun
  | [d1, d2] => { results := [.lit (.bool true)], args := [d1, d2] }
  | _ => none }
def fnExactLastSeenRow : OpenClaim := { program := "ytgepgmmahapebaa", sum := "72adf355bcdde601216d2fdec230a032a6cbec2b636960fb3b9c0c75da936c38", func := "loop.example/g01361/laws.FnExactLastSeen", spec := "fnExactLastSeen", unfollowed := true, recurses := true, apart := false }
def FnExactLastSeenSaid : Prop := fnExactLastSeenRow.holds Try.pinned (OpenSpec.ofChange fnExactLastSeenSpec)

/-- ITS FALSE NEIGHBOUR: 'it returns false'. Refute it at one input. -/
def fnExactLastSeenWrong : ChangeSpec := { name := "fnExactLastSeen", fn := fun _ => fun
  | [d1, d2] => { results := [.lit (.bool false)], args := [d1, d2] }
  | _ => none }
def FnExactLastSeenWrongFalsely : Prop := fnExactLastSeenRow.holds Try.pinned (OpenSpec.ofChange fnExactLastSeenWrong)

/- THE SECOND FORM. 'bulk': how many values and letters a reading holds, each counted each time it is reached (what is shared counts as often as it is met; a slice's spare places count too). A statement '..UptoSaid' is the law's where the arguments, and the package variables that the reading takes, are together of bulk at most 1048576: NARROWER than '..Said'. Prove '..Said' where nothing that the law and all that it calls make is longer than what came in: it says more and counts as full. Else prove '..UptoSaid'. A law counts once. -/
mutual
def uptoBulk {H : Type} : DataW H → Nat
  | .lit (.string bytes) => bytes.length + 1
  | .lit _ => 1
  | .nil => 1
  | .ptr d => uptoBulk d + 1
  | .slice elems spare => uptoBulkAll elems + uptoBulkAll spare + 1
  | .agg parts => uptoBulkAll parts + 1
  | .iface _ d => uptoBulk d + 1
  | .map entries => uptoBulkEntries entries + 1
  | .held _ => 1
def uptoBulkAll {H : Type} : List (DataW H) → Nat
  | [] => 0
  | d :: r => uptoBulk d + uptoBulkAll r
def uptoBulkEntries {H : Type} : List (Lit × DataW H) → Nat
  | [] => 0
  | x :: r => uptoBulkEntry x + uptoBulkEntries r
def uptoBulkEntry {H : Type} : Lit × DataW H → Nat
  | (.string bytes, d) => bytes.length + uptoBulk d + 1
  | (_, d) => uptoBulk d + 1
 end
def uptoSmall : (H : Type) → List (DataW H) → Bool := fun _ ds => decide (uptoBulkAll ds ≤ 1048576)
def OpenSpec.upto (s : _root_.Go.ChangeSpec) : _root_.Go.OpenSpec := { _root_.Go.OpenSpec.ofChange s with cond := some uptoSmall }

/-- 'laws.FnExactHasPerson', WHERE WHAT IT READS IS OF BULK AT MOST 1048576: true; the input reads as it did. -/
def fnExactHasPersonUptoRow : OpenClaim := { program := "ytgepgmmahapebaa", sum := "72adf355bcdde601216d2fdec230a032a6cbec2b636960fb3b9c0c75da936c38", func := "loop.example/g01361/laws.FnExactHasPerson", spec := "fnExactHasPerson", apart := false, narrowed := true }
def FnExactHasPersonUptoSaid : Prop := fnExactHasPersonUptoRow.holds Try.pinned (OpenSpec.upto fnExactHasPersonSpec)

/-- 'laws.FnExactCountPeople', WHERE WHAT IT READS IS OF BULK AT MOST 1048576: true; the input reads as it did. -/
def fnExactCountPeopleUptoRow : OpenClaim := { program := "ytgepgmmahapebaa", sum := "72adf355bcdde601216d2fdec230a032a6cbec2b636960fb3b9c0c75da936c38", func := "loop.example/g01361/laws.FnExactCountPeople", spec := "fnExactCountPeople", apart := false, narrowed := true }
def FnExactCountPeopleUptoSaid : Prop := fnExactCountPeopleUptoRow.holds Try.pinned (OpenSpec.upto fnExactCountPeopleSpec)

/-- 'laws.FnExactPeopleOf', WHERE WHAT IT READS IS OF BULK AT MOST 1048576: true; the input reads as it did. -/
def fnExactPeopleOfUptoRow : OpenClaim := { program := "ytgepgmmahapebaa", sum := "72adf355bcdde601216d2fdec230a032a6cbec2b636960fb3b9c0c75da936c38", func := "loop.example/g01361/laws.FnExactPeopleOf", spec := "fnExactPeopleOf", unfollowed := true, recurses := true, apart := false, narrowed := true }
def FnExactPeopleOfUptoSaid : Prop := fnExactPeopleOfUptoRow.holds Try.pinned (OpenSpec.upto fnExactPeopleOfSpec)

/-- 'laws.FnExactListPeople', WHERE WHAT IT READS IS OF BULK AT MOST 1048576: true; the input reads as it did. -/
def fnExactListPeopleUptoRow : OpenClaim := { program := "ytgepgmmahapebaa", sum := "72adf355bcdde601216d2fdec230a032a6cbec2b636960fb3b9c0c75da936c38", func := "loop.example/g01361/laws.FnExactListPeople", spec := "fnExactListPeople", unfollowed := true, recurses := true, apart := false, narrowed := true }
def FnExactListPeopleUptoSaid : Prop := fnExactListPeopleUptoRow.holds Try.pinned (OpenSpec.upto fnExactListPeopleSpec)

/-- 'laws.FnExactValidRecords', WHERE WHAT IT READS IS OF BULK AT MOST 1048576: true; the input reads as it did. -/
def fnExactValidRecordsUptoRow : OpenClaim := { program := "ytgepgmmahapebaa", sum := "72adf355bcdde601216d2fdec230a032a6cbec2b636960fb3b9c0c75da936c38", func := "loop.example/g01361/laws.FnExactValidRecords", spec := "fnExactValidRecords", unfollowed := true, recurses := true, apart := false, narrowed := true }
def FnExactValidRecordsUptoSaid : Prop := fnExactValidRecordsUptoRow.holds Try.pinned (OpenSpec.upto fnExactValidRecordsSpec)

/-- 'laws.FnExactCountsAllow', WHERE WHAT IT READS IS OF BULK AT MOST 1048576: true; the input reads as it did. -/
def fnExactCountsAllowUptoRow : OpenClaim := { program := "ytgepgmmahapebaa", sum := "72adf355bcdde601216d2fdec230a032a6cbec2b636960fb3b9c0c75da936c38", func := "loop.example/g01361/laws.FnExactCountsAllow", spec := "fnExactCountsAllow", unfollowed := true, recurses := true, apart := false, narrowed := true }
def FnExactCountsAllowUptoSaid : Prop := fnExactCountsAllowUptoRow.holds Try.pinned (OpenSpec.upto fnExactCountsAllowSpec)

/-- 'laws.FnExactSameLog', WHERE WHAT IT READS IS OF BULK AT MOST 1048576: true; the input reads as it did. -/
def fnExactSameLogUptoRow : OpenClaim := { program := "ytgepgmmahapebaa", sum := "72adf355bcdde601216d2fdec230a032a6cbec2b636960fb3b9c0c75da936c38", func := "loop.example/g01361/laws.FnExactSameLog", spec := "fnExactSameLog", apart := false, narrowed := true }
def FnExactSameLogUptoSaid : Prop := fnExactSameLogUptoRow.holds Try.pinned (OpenSpec.upto fnExactSameLogSpec)

/-- 'laws.FnExactValidLog', WHERE WHAT IT READS IS OF BULK AT MOST 1048576: true; the input reads as it did. -/
def fnExactValidLogUptoRow : OpenClaim := { program := "ytgepgmmahapebaa", sum := "72adf355bcdde601216d2fdec230a032a6cbec2b636960fb3b9c0c75da936c38", func := "loop.example/g01361/laws.FnExactValidLog", spec := "fnExactValidLog", apart := false, narrowed := true }
def FnExactValidLogUptoSaid : Prop := fnExactValidLogUptoRow.holds Try.pinned (OpenSpec.upto fnExactValidLogSpec)

/-- 'laws.FnExactWaysFor', WHERE WHAT IT READS IS OF BULK AT MOST 1048576: true; the input reads as it did. -/
def fnExactWaysForUptoRow : OpenClaim := { program := "ytgepgmmahapebaa", sum := "72adf355bcdde601216d2fdec230a032a6cbec2b636960fb3b9c0c75da936c38", func := "loop.example/g01361/laws.FnExactWaysFor", spec := "fnExactWaysFor", unfollowed := true, recurses := true, apart := false, narrowed := true }
def FnExactWaysForUptoSaid : Prop := fnExactWaysForUptoRow.holds Try.pinned (OpenSpec.upto fnExactWaysForSpec)

/-- 'laws.FnExactIsWhole', WHERE WHAT IT READS IS OF BULK AT MOST 1048576: true; the input reads as it did. -/
def fnExactIsWholeUptoRow : OpenClaim := { program := "ytgepgmmahapebaa", sum := "72adf355bcdde601216d2fdec230a032a6cbec2b636960fb3b9c0c75da936c38", func := "loop.example/g01361/laws.FnExactIsWhole", spec := "fnExactIsWhole", apart := false, narrowed := true }
def FnExactIsWholeUptoSaid : Prop := fnExactIsWholeUptoRow.holds Try.pinned (OpenSpec.upto fnExactIsWholeSpec)

/-- 'laws.FnExactLostBefore', WHERE WHAT IT READS IS OF BULK AT MOST 1048576: true; the input reads as it did. -/
def fnExactLostBeforeUptoRow : OpenClaim := { program := "ytgepgmmahapebaa", sum := "72adf355bcdde601216d2fdec230a032a6cbec2b636960fb3b9c0c75da936c38", func := "loop.example/g01361/laws.FnExactLostBefore", spec := "fnExactLostBefore", apart := false, narrowed := true }
def FnExactLostBeforeUptoSaid : Prop := fnExactLostBeforeUptoRow.holds Try.pinned (OpenSpec.upto fnExactLostBeforeSpec)

/-- 'laws.FnExactLastSeen', WHERE WHAT IT READS IS OF BULK AT MOST 1048576: true; the input reads as it did. -/
def fnExactLastSeenUptoRow : OpenClaim := { program := "ytgepgmmahapebaa", sum := "72adf355bcdde601216d2fdec230a032a6cbec2b636960fb3b9c0c75da936c38", func := "loop.example/g01361/laws.FnExactLastSeen", spec := "fnExactLastSeen", unfollowed := true, recurses := true, apart := false, narrowed := true }
def FnExactLastSeenUptoSaid : Prop := fnExactLastSeenUptoRow.holds Try.pinned (OpenSpec.upto fnExactLastSeenSpec)

end Rows
end Go.Proofs.Ytgepgmmahapebaa
