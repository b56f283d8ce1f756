/-
  NARROWER THAN 'FOR EVERY INPUT', by the rows' own cells (each row's printed sentence says how): FnExactHear: laid · FnExactPassOn: laid · FnExactRoundUntil: laid · FnExactNobodyBut: laid · FnExactHeardAll: laid · FnExactChangedBy: laid · FnExactAllBut: laid · FnExactStaysSame: laid · FnExactOriginsIn: laid · FnSuspects: laid · FnExactPastsOf: laid · FnExactFirstWords: laid.
  DERIVED. THE GIVEN ROWS OF THIS SEAT. 12 by the template 'for every input the law returns true; each argument reads behind the call as it read before'; 0 by the template 'total and deterministic' (their statements: YtnfemoncclpkcaaDoorTotals.lean).
  GIVEN WITH THE SEED: the statements are not yours to turn. If you find one false, say at which input.
  Laid BY PROGRAM, IN A SANDBOX (cutbox-rows.mjs): the forced cells as the released guide's own fill.sh prints them over the translation f63f7069a6d20926… (all of the seat's roots in one cut). By AI agents, Wed Nov 11 2026. No macro, syntax, notation, axiom, sorry.
-/
import Derived.Test.YtnfemoncclpkcaaDoorChecked
import GoSem.PinnedTables
import GoSem.Claim
import GoSem.ClaimJoined
import GoSem.ClaimMapViews
import Derived.JoinedTies
import Derived.KernelRfl
namespace Go.Proofs.YtnfemoncclpkcaaDoor
/- THE CELL 'sum', in the pinned program and in every row, IS THE sha256 OF THE DUMP (.gsa) THAT YtnfemoncclpkcaaDoorProg.lean LOADS. Nothing in Lean hashes anything: it is a label: what it is worth is what the hold of that sum in a sandbox is worth. -/
noncomputable def Tryd.pinned : Pinned := { name := "ytnfemoncclpkcaadoor", sum := "f63f7069a6d209261804ee39bbf95fd97e008ead493a8236e33493b55c695667", checked := Tryd.checked }
namespace Rows
def none {H : Type} : Left H := { results := [], args := [] }

/- WHAT THE LISTED PACKAGE-LEVEL VARIABLES READ AS WHEN THE CALL BEGINS. Each datum BY PROGRAM (the guide's laid-datum.mjs) off the statement by which the dump's own 'gosem.cut.vars' lays the variable. In a bare row this is a premise. The card (YtnfemoncclpkcaaDoorCards.lean) ties it to the program's text. -/
def laid_unicode_utf8_acceptRanges {H : Type} : DataW H := .agg [.agg [.lit (.int .u8 128), .lit (.int .u8 191)], .agg [.lit (.int .u8 160), .lit (.int .u8 191)], .agg [.lit (.int .u8 128), .lit (.int .u8 159)], .agg [.lit (.int .u8 144), .lit (.int .u8 191)], .agg [.lit (.int .u8 128), .lit (.int .u8 143)], .agg [.lit (.int .u8 0), .lit (.int .u8 0)], .agg [.lit (.int .u8 0), .lit (.int .u8 0)], .agg [.lit (.int .u8 0), .lit (.int .u8 0)], .agg [.lit (.int .u8 0), .lit (.int .u8 0)], .agg [.lit (.int .u8 0), .lit (.int .u8 0)], .agg [.lit (.int .u8 0), .lit (.int .u8 0)], .agg [.lit (.int .u8 0), .lit (.int .u8 0)], .agg [.lit (.int .u8 0), .lit (.int .u8 0)], .agg [.lit (.int .u8 0), .lit (.int .u8 0)], .agg [.lit (.int .u8 0), .lit (.int .u8 0)], .agg [.lit (.int .u8 0), .lit (.int .u8 0)]]
/-- One of Go's own tables, pinned by name: the form's constant. -/
def laid_unicode_utf8_first : DataW Unit := Go.Pinned.utf8First

/-- 'laws.FnExactHear': WHATEVER THE INPUT: true; the input reads as it did. -/
def fnExactHearSpec : ChangeSpec := { name := "fnExactHear", fn := fun _ => fun
  | [d1, d2] => { results := [.lit (.bool true)], args := [d1, d2] }
  | _ => none }
def fnExactHearRow : OpenClaim := { program := "ytnfemoncclpkcaadoor", sum := "f63f7069a6d209261804ee39bbf95fd97e008ead493a8236e33493b55c695667", func := "loop.example/g01361/laws.FnExactHear", spec := "fnExactHear", inPlace := ["internal/bytealg.CountString", "internal/bytealg.IndexByteString", "internal/bytealg.IndexString", "internal/abi.NoEscape", "internal/bytealg.MakeNoZero"], named := ["internal/bytealg.MaxLen", "unicode/utf8.first", "unicode/utf8.acceptRanges"], apart := false, laid := [("unicode/utf8.acceptRanges", laid_unicode_utf8_acceptRanges), ("unicode/utf8.first", laid_unicode_utf8_first)] }
def FnExactHearSaid : Prop := fnExactHearRow.holds Tryd.pinned (OpenSpec.ofChange fnExactHearSpec)

/-- ITS FALSE NEIGHBOUR: 'it returns false'. Refute it at one input. -/
def fnExactHearWrong : ChangeSpec := { name := "fnExactHear", fn := fun _ => fun
  | [d1, d2] => { results := [.lit (.bool false)], args := [d1, d2] }
  | _ => none }
def FnExactHearWrongFalsely : Prop := fnExactHearRow.holds Tryd.pinned (OpenSpec.ofChange fnExactHearWrong)

/-- 'laws.FnExactPassOn': WHATEVER THE INPUT: true; the input reads as it did. -/
def fnExactPassOnSpec : ChangeSpec := { name := "fnExactPassOn", fn := fun _ => fun
  | [d1, d2] => { results := [.lit (.bool true)], args := [d1, d2] }
  | _ => none }
def fnExactPassOnRow : OpenClaim := { program := "ytnfemoncclpkcaadoor", sum := "f63f7069a6d209261804ee39bbf95fd97e008ead493a8236e33493b55c695667", func := "loop.example/g01361/laws.FnExactPassOn", spec := "fnExactPassOn", inPlace := ["internal/bytealg.CountString", "internal/bytealg.IndexByteString", "internal/bytealg.IndexString", "internal/abi.NoEscape", "internal/bytealg.MakeNoZero"], unfollowed := true, recurses := true, named := ["internal/bytealg.MaxLen", "unicode/utf8.first", "unicode/utf8.acceptRanges"], apart := false, laid := [("unicode/utf8.acceptRanges", laid_unicode_utf8_acceptRanges), ("unicode/utf8.first", laid_unicode_utf8_first)] }
def FnExactPassOnSaid : Prop := fnExactPassOnRow.holds Tryd.pinned (OpenSpec.ofChange fnExactPassOnSpec)

/-- ITS FALSE NEIGHBOUR: 'it returns false'. Refute it at one input. -/
def fnExactPassOnWrong : ChangeSpec := { name := "fnExactPassOn", fn := fun _ => fun
  | [d1, d2] => { results := [.lit (.bool false)], args := [d1, d2] }
  | _ => none }
def FnExactPassOnWrongFalsely : Prop := fnExactPassOnRow.holds Tryd.pinned (OpenSpec.ofChange fnExactPassOnWrong)

/-- 'laws.FnExactRoundUntil': WHATEVER THE INPUT: true; the input reads as it did. -/
def fnExactRoundUntilSpec : ChangeSpec := { name := "fnExactRoundUntil", fn := fun _ => fun
  | [d1, d2] => { results := [.lit (.bool true)], args := [d1, d2] }
  | _ => none }
def fnExactRoundUntilRow : OpenClaim := { program := "ytnfemoncclpkcaadoor", sum := "f63f7069a6d209261804ee39bbf95fd97e008ead493a8236e33493b55c695667", func := "loop.example/g01361/laws.FnExactRoundUntil", spec := "fnExactRoundUntil", inPlace := ["internal/bytealg.CountString", "internal/bytealg.IndexByteString", "internal/bytealg.IndexString", "internal/abi.NoEscape", "internal/bytealg.MakeNoZero"], unfollowed := true, recurses := true, named := ["internal/bytealg.MaxLen", "unicode/utf8.first", "unicode/utf8.acceptRanges"], apart := false, laid := [("unicode/utf8.acceptRanges", laid_unicode_utf8_acceptRanges), ("unicode/utf8.first", laid_unicode_utf8_first)] }
def FnExactRoundUntilSaid : Prop := fnExactRoundUntilRow.holds Tryd.pinned (OpenSpec.ofChange fnExactRoundUntilSpec)

/-- ITS FALSE NEIGHBOUR: 'it returns false'. Refute it at one input. -/
def fnExactRoundUntilWrong : ChangeSpec := { name := "fnExactRoundUntil", fn := fun _ => fun
  | [d1, d2] => { results := [.lit (.bool false)], args := [d1, d2] }
  | _ => none }
def FnExactRoundUntilWrongFalsely : Prop := fnExactRoundUntilRow.holds Tryd.pinned (OpenSpec.ofChange fnExactRoundUntilWrong)

/-- 'laws.FnExactNobodyBut': WHATEVER THE INPUT: true; the input reads as it did. -/
def fnExactNobodyButSpec : ChangeSpec := { name := "fnExactNobodyBut", fn := fun _ => fun
  | [d1, d2, d3] => { results := [.lit (.bool true)], args := [d1, d2, d3] }
  | _ => none }
def fnExactNobodyButRow : OpenClaim := { program := "ytnfemoncclpkcaadoor", sum := "f63f7069a6d209261804ee39bbf95fd97e008ead493a8236e33493b55c695667", func := "loop.example/g01361/laws.FnExactNobodyBut", spec := "fnExactNobodyBut", inPlace := ["internal/bytealg.CountString", "internal/bytealg.IndexByteString", "internal/bytealg.IndexString", "internal/abi.NoEscape", "internal/bytealg.MakeNoZero"], unfollowed := true, recurses := true, named := ["internal/bytealg.MaxLen", "unicode/utf8.first", "unicode/utf8.acceptRanges"], apart := false, laid := [("unicode/utf8.acceptRanges", laid_unicode_utf8_acceptRanges), ("unicode/utf8.first", laid_unicode_utf8_first)] }
def FnExactNobodyButSaid : Prop := fnExactNobodyButRow.holds Tryd.pinned (OpenSpec.ofChange fnExactNobodyButSpec)

/-- ITS FALSE NEIGHBOUR: 'it returns false'. Refute it at one input. -/
def fnExactNobodyButWrong : ChangeSpec := { name := "fnExactNobodyBut", fn := fun _ => fun
  | [d1, d2, d3] => { results := [.lit (.bool false)], args := [d1, d2, d3] }
  | _ => none }
def FnExactNobodyButWrongFalsely : Prop := fnExactNobodyButRow.holds Tryd.pinned (OpenSpec.ofChange fnExactNobodyButWrong)

/-- 'laws.FnExactHeardAll': WHATEVER THE INPUT: true; the input reads as it did. -/
def fnExactHeardAllSpec : ChangeSpec := { name := "fnExactHeardAll", fn := fun _ => fun
  | [d1, d2] => { results := [.lit (.bool true)], args := [d1, d2] }
  | _ => none }
def fnExactHeardAllRow : OpenClaim := { program := "ytnfemoncclpkcaadoor", sum := "f63f7069a6d209261804ee39bbf95fd97e008ead493a8236e33493b55c695667", func := "loop.example/g01361/laws.FnExactHeardAll", spec := "fnExactHeardAll", inPlace := ["internal/bytealg.CountString", "internal/bytealg.IndexByteString", "internal/bytealg.IndexString", "internal/abi.NoEscape", "internal/bytealg.MakeNoZero"], unfollowed := true, recurses := true, named := ["internal/bytealg.MaxLen", "unicode/utf8.first", "unicode/utf8.acceptRanges"], apart := false, laid := [("unicode/utf8.acceptRanges", laid_unicode_utf8_acceptRanges), ("unicode/utf8.first", laid_unicode_utf8_first)] }
def FnExactHeardAllSaid : Prop := fnExactHeardAllRow.holds Tryd.pinned (OpenSpec.ofChange fnExactHeardAllSpec)

/-- ITS FALSE NEIGHBOUR: 'it returns false'. Refute it at one input. -/
def fnExactHeardAllWrong : ChangeSpec := { name := "fnExactHeardAll", fn := fun _ => fun
  | [d1, d2] => { results := [.lit (.bool false)], args := [d1, d2] }
  | _ => none }
def FnExactHeardAllWrongFalsely : Prop := fnExactHeardAllRow.holds Tryd.pinned (OpenSpec.ofChange fnExactHeardAllWrong)

/-- 'laws.FnExactChangedBy': WHATEVER THE INPUT: true; the input reads as it did. -/
def fnExactChangedBySpec : ChangeSpec := { name := "fnExactChangedBy", fn := fun _ => fun
  | [d1, d2] => { results := [.lit (.bool true)], args := [d1, d2] }
  | _ => none }
def fnExactChangedByRow : OpenClaim := { program := "ytnfemoncclpkcaadoor", sum := "f63f7069a6d209261804ee39bbf95fd97e008ead493a8236e33493b55c695667", func := "loop.example/g01361/laws.FnExactChangedBy", spec := "fnExactChangedBy", inPlace := ["internal/bytealg.CountString", "internal/bytealg.IndexByteString", "internal/bytealg.IndexString", "internal/abi.NoEscape", "internal/bytealg.MakeNoZero"], unfollowed := true, recurses := true, named := ["internal/bytealg.MaxLen", "unicode/utf8.first", "unicode/utf8.acceptRanges"], apart := false, laid := [("unicode/utf8.acceptRanges", laid_unicode_utf8_acceptRanges), ("unicode/utf8.first", laid_unicode_utf8_first)] }
def FnExactChangedBySaid : Prop := fnExactChangedByRow.holds Tryd.pinned (OpenSpec.ofChange fnExactChangedBySpec)

/-- ITS FALSE NEIGHBOUR: 'it returns false'. Refute it at one input. -/
def fnExactChangedByWrong : ChangeSpec := { name := "fnExactChangedBy", fn := fun _ => fun
  | [d1, d2] => { results := [.lit (.bool false)], args := [d1, d2] }
  | _ => none }
def FnExactChangedByWrongFalsely : Prop := fnExactChangedByRow.holds Tryd.pinned (OpenSpec.ofChange fnExactChangedByWrong)

/-- 'laws.FnExactAllBut': WHATEVER THE INPUT: true; the input reads as it did. -/
def fnExactAllButSpec : ChangeSpec := { name := "fnExactAllBut", fn := fun _ => fun
  | [d1, d2, d3] => { results := [.lit (.bool true)], args := [d1, d2, d3] }
  | _ => none }
def fnExactAllButRow : OpenClaim := { program := "ytnfemoncclpkcaadoor", sum := "f63f7069a6d209261804ee39bbf95fd97e008ead493a8236e33493b55c695667", func := "loop.example/g01361/laws.FnExactAllBut", spec := "fnExactAllBut", inPlace := ["internal/bytealg.CountString", "internal/bytealg.IndexByteString", "internal/bytealg.IndexString", "internal/abi.NoEscape", "internal/bytealg.MakeNoZero"], unfollowed := true, recurses := true, named := ["internal/bytealg.MaxLen", "unicode/utf8.first", "unicode/utf8.acceptRanges"], apart := false, laid := [("unicode/utf8.acceptRanges", laid_unicode_utf8_acceptRanges), ("unicode/utf8.first", laid_unicode_utf8_first)] }
def FnExactAllButSaid : Prop := fnExactAllButRow.holds Tryd.pinned (OpenSpec.ofChange fnExactAllButSpec)

/-- ITS FALSE NEIGHBOUR: 'it returns false'. Refute it at one input. -/
def fnExactAllButWrong : ChangeSpec := { name := "fnExactAllBut", fn := fun _ => fun
  | [d1, d2, d3] => { results := [.lit (.bool false)], args := [d1, d2, d3] }
  | _ => none }
def FnExactAllButWrongFalsely : Prop := fnExactAllButRow.holds Tryd.pinned (OpenSpec.ofChange fnExactAllButWrong)

/-- 'laws.FnExactStaysSame': WHATEVER THE INPUT: true; the input reads as it did. -/
def fnExactStaysSameSpec : ChangeSpec := { name := "fnExactStaysSame", fn := fun _ => fun
  | [d1, d2] => { results := [.lit (.bool true)], args := [d1, d2] }
  | _ => none }
def fnExactStaysSameRow : OpenClaim := { program := "ytnfemoncclpkcaadoor", sum := "f63f7069a6d209261804ee39bbf95fd97e008ead493a8236e33493b55c695667", func := "loop.example/g01361/laws.FnExactStaysSame", spec := "fnExactStaysSame", inPlace := ["internal/bytealg.CountString", "internal/bytealg.IndexByteString", "internal/bytealg.IndexString", "internal/abi.NoEscape", "internal/bytealg.MakeNoZero"], unfollowed := true, recurses := true, named := ["internal/bytealg.MaxLen", "unicode/utf8.first", "unicode/utf8.acceptRanges"], apart := false, laid := [("unicode/utf8.acceptRanges", laid_unicode_utf8_acceptRanges), ("unicode/utf8.first", laid_unicode_utf8_first)] }
def FnExactStaysSameSaid : Prop := fnExactStaysSameRow.holds Tryd.pinned (OpenSpec.ofChange fnExactStaysSameSpec)

/-- ITS FALSE NEIGHBOUR: 'it returns false'. Refute it at one input. -/
def fnExactStaysSameWrong : ChangeSpec := { name := "fnExactStaysSame", fn := fun _ => fun
  | [d1, d2] => { results := [.lit (.bool false)], args := [d1, d2] }
  | _ => none }
def FnExactStaysSameWrongFalsely : Prop := fnExactStaysSameRow.holds Tryd.pinned (OpenSpec.ofChange fnExactStaysSameWrong)

/-- 'laws.FnExactOriginsIn': WHATEVER THE INPUT: true; the input reads as it did. -/
def fnExactOriginsInSpec : ChangeSpec := { name := "fnExactOriginsIn", fn := fun _ => fun
  | [d1, d2, d3] => { results := [.lit (.bool true)], args := [d1, d2, d3] }
  | _ => none }
def fnExactOriginsInRow : OpenClaim := { program := "ytnfemoncclpkcaadoor", sum := "f63f7069a6d209261804ee39bbf95fd97e008ead493a8236e33493b55c695667", func := "loop.example/g01361/laws.FnExactOriginsIn", spec := "fnExactOriginsIn", inPlace := ["internal/bytealg.CountString", "internal/bytealg.IndexByteString", "internal/bytealg.IndexString", "internal/abi.NoEscape", "internal/bytealg.MakeNoZero"], unfollowed := true, recurses := true, named := ["internal/bytealg.MaxLen", "unicode/utf8.first", "unicode/utf8.acceptRanges"], apart := false, laid := [("unicode/utf8.acceptRanges", laid_unicode_utf8_acceptRanges), ("unicode/utf8.first", laid_unicode_utf8_first)] }
def FnExactOriginsInSaid : Prop := fnExactOriginsInRow.holds Tryd.pinned (OpenSpec.ofChange fnExactOriginsInSpec)

/-- ITS FALSE NEIGHBOUR: 'it returns false'. Refute it at one input. -/
def fnExactOriginsInWrong : ChangeSpec := { name := "fnExactOriginsIn", fn := fun _ => fun
  | [d1, d2, d3] => { results := [.lit (.bool false)], args := [d1, d2, d3] }
  | _ => none }
def FnExactOriginsInWrongFalsely : Prop := fnExactOriginsInRow.holds Tryd.pinned (OpenSpec.ofChange fnExactOriginsInWrong)

/-- 'laws.FnSuspects': WHATEVER THE INPUT: true; the input reads as it did. -/
def fnSuspectsSpec : ChangeSpec := { name := "fnSuspects", fn := fun _ => fun
  | [d1, d2] => { results := [.lit (.bool true)], args := [d1, d2] }
  | _ => none }
def fnSuspectsRow : OpenClaim := { program := "ytnfemoncclpkcaadoor", sum := "f63f7069a6d209261804ee39bbf95fd97e008ead493a8236e33493b55c695667", func := "loop.example/g01361/laws.FnSuspects", spec := "fnSuspects", inPlace := ["internal/bytealg.CountString", "internal/bytealg.IndexByteString", "internal/bytealg.IndexString", "internal/abi.NoEscape", "internal/bytealg.MakeNoZero"], unfollowed := true, recurses := true, named := ["internal/bytealg.MaxLen", "unicode/utf8.first", "unicode/utf8.acceptRanges"], apart := false, laid := [("unicode/utf8.acceptRanges", laid_unicode_utf8_acceptRanges), ("unicode/utf8.first", laid_unicode_utf8_first)] }
def FnSuspectsSaid : Prop := fnSuspectsRow.holds Tryd.pinned (OpenSpec.ofChange fnSuspectsSpec)

/-- ITS FALSE NEIGHBOUR: 'it returns false'. Refute it at one input. -/
def fnSuspectsWrong : ChangeSpec := { name := "fnSuspects", fn := fun _ => fun
  | [d1, d2] => { results := [.lit (.bool false)], args := [d1, d2] }
  | _ => none }
def FnSuspectsWrongFalsely : Prop := fnSuspectsRow.holds Tryd.pinned (OpenSpec.ofChange fnSuspectsWrong)

/-- 'laws.FnExactPastsOf': WHATEVER THE INPUT: true; the input reads as it did. -/
def fnExactPastsOfSpec : ChangeSpec := { name := "fnExactPastsOf", fn := fun _ => fun
  | [d1, d2] => { results := [.lit (.bool true)], args := [d1, d2] }
  | _ => none }
def fnExactPastsOfRow : OpenClaim := { program := "ytnfemoncclpkcaadoor", sum := "f63f7069a6d209261804ee39bbf95fd97e008ead493a8236e33493b55c695667", func := "loop.example/g01361/laws.FnExactPastsOf", spec := "fnExactPastsOf", inPlace := ["internal/bytealg.CountString", "internal/bytealg.IndexByteString", "internal/bytealg.IndexString", "internal/abi.NoEscape", "internal/bytealg.MakeNoZero"], unfollowed := true, recurses := true, named := ["internal/bytealg.MaxLen", "unicode/utf8.first", "unicode/utf8.acceptRanges"], apart := false, laid := [("unicode/utf8.acceptRanges", laid_unicode_utf8_acceptRanges), ("unicode/utf8.first", laid_unicode_utf8_first)] }
def FnExactPastsOfSaid : Prop := fnExactPastsOfRow.holds Tryd.pinned (OpenSpec.ofChange fnExactPastsOfSpec)

/-- ITS FALSE NEIGHBOUR: 'it returns false'. Refute it at one input. -/
def fnExactPastsOfWrong : ChangeSpec := { name := "fnExactPastsOf", fn := fun _ => fun
  | [d1, d2] => { results := [.lit (.bool false)], args := [d1, d2] }
  | _ => none }
def FnExactPastsOfWrongFalsely : Prop := fnExactPastsOfRow.holds Tryd.pinned (OpenSpec.ofChange fnExactPastsOfWrong)

/-- 'laws.FnExactFirstWords': WHATEVER THE INPUT: true; the input reads as it did. -/
def fnExactFirstWordsSpec : ChangeSpec := { name := "fnExactFirstWords", fn := fun _ => fun
  | [d1, d2] => { results := [.lit (.bool true)], args := [d1, d2] }
  | _ => none }
def fnExactFirstWordsRow : OpenClaim := { program := "ytnfemoncclpkcaadoor", sum := "f63f7069a6d209261804ee39bbf95fd97e008ead493a8236e33493b55c695667", func := "loop.example/g01361/laws.FnExactFirstWords", spec := "fnExactFirstWords", inPlace := ["internal/bytealg.CountString", "internal/bytealg.IndexByteString", "internal/bytealg.IndexString", "internal/abi.NoEscape", "internal/bytealg.MakeNoZero"], unfollowed := true, recurses := true, named := ["internal/bytealg.MaxLen", "unicode/utf8.first", "unicode/utf8.acceptRanges"], apart := false, laid := [("unicode/utf8.acceptRanges", laid_unicode_utf8_acceptRanges), ("unicode/utf8.first", laid_unicode_utf8_first)] }
def FnExactFirstWordsSaid : Prop := fnExactFirstWordsRow.holds Tryd.pinned (OpenSpec.ofChange fnExactFirstWordsSpec)

/-- ITS FALSE NEIGHBOUR: 'it returns false'. Refute it at one input. -/
def fnExactFirstWordsWrong : ChangeSpec := { name := "fnExactFirstWords", fn := fun _ => fun
  | [d1, d2] => { results := [.lit (.bool false)], args := [d1, d2] }
  | _ => none }
def FnExactFirstWordsWrongFalsely : Prop := fnExactFirstWordsRow.holds Tryd.pinned (OpenSpec.ofChange fnExactFirstWordsWrong)

/- THE SECOND FORM. 'bulk': how many values and letters a reading holds, each counted each time it is reached (what is shared counts as often as it is met; a slice's spare places count too). A statement '..UptoSaid' is the law's where the arguments, and the package variables that the reading takes, are together of bulk at most 1048576: NARROWER than '..Said'. Prove '..Said' where nothing that the law and all that it calls make is longer than what came in: it says more and counts as full. Else prove '..UptoSaid'. A law counts once. -/
mutual
def uptoBulk {H : Type} : DataW H → Nat
  | .lit (.string bytes) => bytes.length + 1
  | .lit _ => 1
  | .nil => 1
  | .ptr d => uptoBulk d + 1
  | .slice elems spare => uptoBulkAll elems + uptoBulkAll spare + 1
  | .agg parts => uptoBulkAll parts + 1
  | .iface _ d => uptoBulk d + 1
  | .map entries => uptoBulkEntries entries + 1
  | .held _ => 1
def uptoBulkAll {H : Type} : List (DataW H) → Nat
  | [] => 0
  | d :: r => uptoBulk d + uptoBulkAll r
def uptoBulkEntries {H : Type} : List (Lit × DataW H) → Nat
  | [] => 0
  | x :: r => uptoBulkEntry x + uptoBulkEntries r
def uptoBulkEntry {H : Type} : Lit × DataW H → Nat
  | (.string bytes, d) => bytes.length + uptoBulk d + 1
  | (_, d) => uptoBulk d + 1
 end
def uptoSmall : (H : Type) → List (DataW H) → Bool := fun _ ds => decide (uptoBulkAll ds ≤ 1048576)
def OpenSpec.upto (s : _root_.Go.ChangeSpec) : _root_.Go.OpenSpec := { _root_.Go.OpenSpec.ofChange s with cond := some uptoSmall }

/-- 'laws.FnExactHear', WHERE WHAT IT READS IS OF BULK AT MOST 1048576: true; the input reads as it did. -/
def fnExactHearUptoRow : OpenClaim := { program := "ytnfemoncclpkcaadoor", sum := "f63f7069a6d209261804ee39bbf95fd97e008ead493a8236e33493b55c695667", func := "loop.example/g01361/laws.FnExactHear", spec := "fnExactHear", inPlace := ["internal/bytealg.CountString", "internal/bytealg.IndexByteString", "internal/bytealg.IndexString", "internal/abi.NoEscape", "internal/bytealg.MakeNoZero"], named := ["internal/bytealg.MaxLen", "unicode/utf8.first", "unicode/utf8.acceptRanges"], apart := false, laid := [("unicode/utf8.acceptRanges", laid_unicode_utf8_acceptRanges), ("unicode/utf8.first", laid_unicode_utf8_first)], narrowed := true }
def FnExactHearUptoSaid : Prop := fnExactHearUptoRow.holds Tryd.pinned (OpenSpec.upto fnExactHearSpec)

/-- 'laws.FnExactPassOn', WHERE WHAT IT READS IS OF BULK AT MOST 1048576: true; the input reads as it did. -/
def fnExactPassOnUptoRow : OpenClaim := { program := "ytnfemoncclpkcaadoor", sum := "f63f7069a6d209261804ee39bbf95fd97e008ead493a8236e33493b55c695667", func := "loop.example/g01361/laws.FnExactPassOn", spec := "fnExactPassOn", inPlace := ["internal/bytealg.CountString", "internal/bytealg.IndexByteString", "internal/bytealg.IndexString", "internal/abi.NoEscape", "internal/bytealg.MakeNoZero"], unfollowed := true, recurses := true, named := ["internal/bytealg.MaxLen", "unicode/utf8.first", "unicode/utf8.acceptRanges"], apart := false, laid := [("unicode/utf8.acceptRanges", laid_unicode_utf8_acceptRanges), ("unicode/utf8.first", laid_unicode_utf8_first)], narrowed := true }
def FnExactPassOnUptoSaid : Prop := fnExactPassOnUptoRow.holds Tryd.pinned (OpenSpec.upto fnExactPassOnSpec)

/-- 'laws.FnExactRoundUntil', WHERE WHAT IT READS IS OF BULK AT MOST 1048576: true; the input reads as it did. -/
def fnExactRoundUntilUptoRow : OpenClaim := { program := "ytnfemoncclpkcaadoor", sum := "f63f7069a6d209261804ee39bbf95fd97e008ead493a8236e33493b55c695667", func := "loop.example/g01361/laws.FnExactRoundUntil", spec := "fnExactRoundUntil", inPlace := ["internal/bytealg.CountString", "internal/bytealg.IndexByteString", "internal/bytealg.IndexString", "internal/abi.NoEscape", "internal/bytealg.MakeNoZero"], unfollowed := true, recurses := true, named := ["internal/bytealg.MaxLen", "unicode/utf8.first", "unicode/utf8.acceptRanges"], apart := false, laid := [("unicode/utf8.acceptRanges", laid_unicode_utf8_acceptRanges), ("unicode/utf8.first", laid_unicode_utf8_first)], narrowed := true }
def FnExactRoundUntilUptoSaid : Prop := fnExactRoundUntilUptoRow.holds Tryd.pinned (OpenSpec.upto fnExactRoundUntilSpec)

/-- 'laws.FnExactNobodyBut', WHERE WHAT IT READS IS OF BULK AT MOST 1048576: true; the input reads as it did. -/
def fnExactNobodyButUptoRow : OpenClaim := { program := "ytnfemoncclpkcaadoor", sum := "f63f7069a6d209261804ee39bbf95fd97e008ead493a8236e33493b55c695667", func := "loop.example/g01361/laws.FnExactNobodyBut", spec := "fnExactNobodyBut", inPlace := ["internal/bytealg.CountString", "internal/bytealg.IndexByteString", "internal/bytealg.IndexString", "internal/abi.NoEscape", "internal/bytealg.MakeNoZero"], unfollowed := true, recurses := true, named := ["internal/bytealg.MaxLen", "unicode/utf8.first", "unicode/utf8.acceptRanges"], apart := false, laid := [("unicode/utf8.acceptRanges", laid_unicode_utf8_acceptRanges), ("unicode/utf8.first", laid_unicode_utf8_first)], narrowed := true }
def FnExactNobodyButUptoSaid : Prop := fnExactNobodyButUptoRow.holds Tryd.pinned (OpenSpec.upto fnExactNobodyButSpec)

/-- 'laws.FnExactHeardAll', WHERE WHAT IT READS IS OF BULK AT MOST 1048576: true; the input reads as it did. -/
def fnExactHeardAllUptoRow : OpenClaim := { program := "ytnfemoncclpkcaadoor", sum := "f63f7069a6d209261804ee39bbf95fd97e008ead493a8236e33493b55c695667", func := "loop.example/g01361/laws.FnExactHeardAll", spec := "fnExactHeardAll", inPlace := ["internal/bytealg.CountString", "internal/bytealg.IndexByteString", "internal/bytealg.IndexString", "internal/abi.NoEscape", "internal/bytealg.MakeNoZero"], unfollowed := true, recurses := true, named := ["internal/bytealg.MaxLen", "unicode/utf8.first", "unicode/utf8.acceptRanges"], apart := false, laid := [("unicode/utf8.acceptRanges", laid_unicode_utf8_acceptRanges), ("unicode/utf8.first", laid_unicode_utf8_first)], narrowed := true }
def FnExactHeardAllUptoSaid : Prop := fnExactHeardAllUptoRow.holds Tryd.pinned (OpenSpec.upto fnExactHeardAllSpec)

/-- 'laws.FnExactChangedBy', WHERE WHAT IT READS IS OF BULK AT MOST 1048576: true; the input reads as it did. -/
def fnExactChangedByUptoRow : OpenClaim := { program := "ytnfemoncclpkcaadoor", sum := "f63f7069a6d209261804ee39bbf95fd97e008ead493a8236e33493b55c695667", func := "loop.example/g01361/laws.FnExactChangedBy", spec := "fnExactChangedBy", inPlace := ["internal/bytealg.CountString", "internal/bytealg.IndexByteString", "internal/bytealg.IndexString", "internal/abi.NoEscape", "internal/bytealg.MakeNoZero"], unfollowed := true, recurses := true, named := ["internal/bytealg.MaxLen", "unicode/utf8.first", "unicode/utf8.acceptRanges"], apart := false, laid := [("unicode/utf8.acceptRanges", laid_unicode_utf8_acceptRanges), ("unicode/utf8.first", laid_unicode_utf8_first)], narrowed := true }
def FnExactChangedByUptoSaid : Prop := fnExactChangedByUptoRow.holds Tryd.pinned (OpenSpec.upto fnExactChangedBySpec)

/-- 'laws.FnExactAllBut', WHERE WHAT IT READS IS OF BULK AT MOST 1048576: true; the input reads as it did. -/
def fnExactAllButUptoRow : OpenClaim := { program := "ytnfemoncclpkcaadoor", sum := "f63f7069a6d209261804ee39bbf95fd97e008ead493a8236e33493b55c695667", func := "loop.example/g01361/laws.FnExactAllBut", spec := "fnExactAllBut", inPlace := ["internal/bytealg.CountString", "internal/bytealg.IndexByteString", "internal/bytealg.IndexString", "internal/abi.NoEscape", "internal/bytealg.MakeNoZero"], unfollowed := true, recurses := true, named := ["internal/bytealg.MaxLen", "unicode/utf8.first", "unicode/utf8.acceptRanges"], apart := false, laid := [("unicode/utf8.acceptRanges", laid_unicode_utf8_acceptRanges), ("unicode/utf8.first", laid_unicode_utf8_first)], narrowed := true }
def FnExactAllButUptoSaid : Prop := fnExactAllButUptoRow.holds Tryd.pinned (OpenSpec.upto fnExactAllButSpec)

/-- 'laws.FnExactStaysSame', WHERE WHAT IT READS IS OF BULK AT MOST 1048576: true; the input reads as it did. -/
def fnExactStaysSameUptoRow : OpenClaim := { program := "ytnfemoncclpkcaadoor", sum := "f63f7069a6d209261804ee39bbf95fd97e008ead493a8236e33493b55c695667", func := "loop.example/g01361/laws.FnExactStaysSame", spec := "fnExactStaysSame", inPlace := ["internal/bytealg.CountString", "internal/bytealg.IndexByteString", "internal/bytealg.IndexString", "internal/abi.NoEscape", "internal/bytealg.MakeNoZero"], unfollowed := true, recurses := true, named := ["internal/bytealg.MaxLen", "unicode/utf8.first", "unicode/utf8.acceptRanges"], apart := false, laid := [("unicode/utf8.acceptRanges", laid_unicode_utf8_acceptRanges), ("unicode/utf8.first", laid_unicode_utf8_first)], narrowed := true }
def FnExactStaysSameUptoSaid : Prop := fnExactStaysSameUptoRow.holds Tryd.pinned (OpenSpec.upto fnExactStaysSameSpec)

/-- 'laws.FnExactOriginsIn', WHERE WHAT IT READS IS OF BULK AT MOST 1048576: true; the input reads as it did. -/
def fnExactOriginsInUptoRow : OpenClaim := { program := "ytnfemoncclpkcaadoor", sum := "f63f7069a6d209261804ee39bbf95fd97e008ead493a8236e33493b55c695667", func := "loop.example/g01361/laws.FnExactOriginsIn", spec := "fnExactOriginsIn", inPlace := ["internal/bytealg.CountString", "internal/bytealg.IndexByteString", "internal/bytealg.IndexString", "internal/abi.NoEscape", "internal/bytealg.MakeNoZero"], unfollowed := true, recurses := true, named := ["internal/bytealg.MaxLen", "unicode/utf8.first", "unicode/utf8.acceptRanges"], apart := false, laid := [("unicode/utf8.acceptRanges", laid_unicode_utf8_acceptRanges), ("unicode/utf8.first", laid_unicode_utf8_first)], narrowed := true }
def FnExactOriginsInUptoSaid : Prop := fnExactOriginsInUptoRow.holds Tryd.pinned (OpenSpec.upto fnExactOriginsInSpec)

/-- 'laws.FnSuspects', WHERE WHAT IT READS IS OF BULK AT MOST 1048576: true; the input reads as it did. -/
def fnSuspectsUptoRow : OpenClaim := { program := "ytnfemoncclpkcaadoor", sum := "f63f7069a6d209261804ee39bbf95fd97e008ead493a8236e33493b55c695667", func := "loop.example/g01361/laws.FnSuspects", spec := "fnSuspects", inPlace := ["internal/bytealg.CountString", "internal/bytealg.IndexByteString", "internal/bytealg.IndexString", "internal/abi.NoEscape", "internal/bytealg.MakeNoZero"], unfollowed := true, recurses := true, named := ["internal/bytealg.MaxLen", "unicode/utf8.first", "unicode/utf8.acceptRanges"], apart := false, laid := [("unicode/utf8.acceptRanges", laid_unicode_utf8_acceptRanges), ("unicode/utf8.first", laid_unicode_utf8_first)], narrowed := true }
def FnSuspectsUptoSaid : Prop := fnSuspectsUptoRow.holds Tryd.pinned (OpenSpec.upto fnSuspectsSpec)

/-- 'laws.FnExactPastsOf', WHERE WHAT IT READS IS OF BULK AT MOST 1048576: true; the input reads as it did. -/
def fnExactPastsOfUptoRow : OpenClaim := { program := "ytnfemoncclpkcaadoor", sum := "f63f7069a6d209261804ee39bbf95fd97e008ead493a8236e33493b55c695667", func := "loop.example/g01361/laws.FnExactPastsOf", spec := "fnExactPastsOf", inPlace := ["internal/bytealg.CountString", "internal/bytealg.IndexByteString", "internal/bytealg.IndexString", "internal/abi.NoEscape", "internal/bytealg.MakeNoZero"], unfollowed := true, recurses := true, named := ["internal/bytealg.MaxLen", "unicode/utf8.first", "unicode/utf8.acceptRanges"], apart := false, laid := [("unicode/utf8.acceptRanges", laid_unicode_utf8_acceptRanges), ("unicode/utf8.first", laid_unicode_utf8_first)], narrowed := true }
def FnExactPastsOfUptoSaid : Prop := fnExactPastsOfUptoRow.holds Tryd.pinned (OpenSpec.upto fnExactPastsOfSpec)

/-- 'laws.FnExactFirstWords', WHERE WHAT IT READS IS OF BULK AT MOST 1048576: true; the input reads as it did. -/
def fnExactFirstWordsUptoRow : OpenClaim := { program := "ytnfemoncclpkcaadoor", sum := "f63f7069a6d209261804ee39bbf95fd97e008ead493a8236e33493b55c695667", func := "loop.example/g01361/laws.FnExactFirstWords", spec := "fnExactFirstWords", inPlace := ["internal/bytealg.CountString", "internal/bytealg.IndexByteString", "internal/bytealg.IndexString", "internal/abi.NoEscape", "internal/bytealg.MakeNoZero"], unfollowed := true, recurses := true, named := ["internal/bytealg.MaxLen", "unicode/utf8.first", "unicode/utf8.acceptRanges"], apart := false, laid := [("unicode/utf8.acceptRanges", laid_unicode_utf8_acceptRanges), ("unicode/utf8.first", laid_unicode_utf8_first)], narrowed := true }
def FnExactFirstWordsUptoSaid : Prop := fnExactFirstWordsUptoRow.holds Tryd.pinned (OpenSpec.upto fnExactFirstWordsSpec)

end Rows
end Go.Proofs.YtnfemoncclpkcaaDoor
