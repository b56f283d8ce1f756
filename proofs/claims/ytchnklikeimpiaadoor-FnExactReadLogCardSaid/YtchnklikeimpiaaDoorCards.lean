/-
  DERIVED. GIVEN WITH THE SEED: THE CARDS: each row of YtchnklikeimpiaaDoorRows.lean that lists a variable, with what it lists TIED to the program's text (the seventh form; the later family's looks); each row that meets fmt, with fmt's text TOLD by the authors' own Lean function (tested against real Go, not proved from fmt's source: count such statements apart). THE CARD IS WHAT COUNTS. Prove the row's statement (the work); the ties are given (YtchnklikeimpiaaDoorTie.lean); close each card by the builder's one call (the guide's Derived/Test/ToyasCard.lean, 'card_holds'). Laid BY PROGRAM, IN A SANDBOX (cutbox-door.mjs). By AI agents, Wed Nov 11 2026. No macro, syntax, notation, axiom, sorry.
-/
import Derived.Test.YtchnklikeimpiaaDoorRows
import GoSem.ClaimSeven
namespace Go.Proofs.YtchnklikeimpiaaDoor
namespace Rows

/-- THE TIED CARD OF 'laws.FnExactReadHabit'. -/
def fnExactReadHabitCard : Claim7 := { stood := { row := fnExactReadHabitRow, standIns := [], harness := (true, "cba4e9412d1d9ae125554b2aa16a891f72f6e9181033c3beaec5e1458f7124c0"), looks := true }, kinds := [], alts := [], laidByText := true, laidKinds := [.data, .pinned], laidTests := true, laidLooks := .later }
def FnExactReadHabitCardSaid : Prop := Claim7.holds Tryd.pinned (.plain (OpenSpec.ofChange fnExactReadHabitSpec)) fnExactReadHabitCard

/-- THE TIED CARD OF 'laws.FnExactReadRope'. -/
def fnExactReadRopeCard : Claim7 := { stood := { row := fnExactReadRopeRow, standIns := [], harness := (true, "cba4e9412d1d9ae125554b2aa16a891f72f6e9181033c3beaec5e1458f7124c0"), looks := true }, kinds := [], alts := [], laidByText := true, laidKinds := [.data, .data, .data, .data, .sentinel, .sentinel, .pinned], laidTests := true, laidLooks := .later }
def FnExactReadRopeCardSaid : Prop := Claim7.holds Tryd.pinned (.plain (OpenSpec.ofChange fnExactReadRopeSpec)) fnExactReadRopeCard

/-- THE TIED CARD OF 'laws.FnExactReadLog'. -/
def fnExactReadLogCard : Claim7 := { stood := { row := fnExactReadLogRow, standIns := [], harness := (true, "cba4e9412d1d9ae125554b2aa16a891f72f6e9181033c3beaec5e1458f7124c0"), looks := true }, kinds := [], alts := [], laidByText := true, laidKinds := [.data, .data, .data, .data, .sentinel, .sentinel, .pinned], laidTests := true, laidLooks := .later }
def FnExactReadLogCardSaid : Prop := Claim7.holds Tryd.pinned (.plain (OpenSpec.ofChange fnExactReadLogSpec)) fnExactReadLogCard

/-- THE SECOND FORM's CARD OF 'laws.FnExactReadHabit'. -/
def fnExactReadHabitUptoCard : Claim7 := { stood := { row := fnExactReadHabitUptoRow, standIns := [], harness := (true, "cba4e9412d1d9ae125554b2aa16a891f72f6e9181033c3beaec5e1458f7124c0"), looks := true }, kinds := [], alts := [], laidByText := true, laidKinds := [.data, .pinned], laidTests := true, laidLooks := .later }
def FnExactReadHabitUptoCardSaid : Prop := Claim7.holds Tryd.pinned (.plain (OpenSpec.upto fnExactReadHabitSpec)) fnExactReadHabitUptoCard

/-- THE SECOND FORM's CARD OF 'laws.FnExactReadRope'. -/
def fnExactReadRopeUptoCard : Claim7 := { stood := { row := fnExactReadRopeUptoRow, standIns := [], harness := (true, "cba4e9412d1d9ae125554b2aa16a891f72f6e9181033c3beaec5e1458f7124c0"), looks := true }, kinds := [], alts := [], laidByText := true, laidKinds := [.data, .data, .data, .data, .sentinel, .sentinel, .pinned], laidTests := true, laidLooks := .later }
def FnExactReadRopeUptoCardSaid : Prop := Claim7.holds Tryd.pinned (.plain (OpenSpec.upto fnExactReadRopeSpec)) fnExactReadRopeUptoCard

/-- THE SECOND FORM's CARD OF 'laws.FnExactReadLog'. -/
def fnExactReadLogUptoCard : Claim7 := { stood := { row := fnExactReadLogUptoRow, standIns := [], harness := (true, "cba4e9412d1d9ae125554b2aa16a891f72f6e9181033c3beaec5e1458f7124c0"), looks := true }, kinds := [], alts := [], laidByText := true, laidKinds := [.data, .data, .data, .data, .sentinel, .sentinel, .pinned], laidTests := true, laidLooks := .later }
def FnExactReadLogUptoCardSaid : Prop := Claim7.holds Tryd.pinned (.plain (OpenSpec.upto fnExactReadLogSpec)) fnExactReadLogUptoCard
end Rows
end Go.Proofs.YtchnklikeimpiaaDoor
