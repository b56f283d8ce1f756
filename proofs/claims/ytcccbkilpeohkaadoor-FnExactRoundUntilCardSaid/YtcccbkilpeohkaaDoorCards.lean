/-
  DERIVED. GIVEN WITH THE SEED: THE CARDS: each row of YtcccbkilpeohkaaDoorRows.lean that lists a variable, with what it lists TIED to the program's text (the seventh form; the later family's looks); each row that meets fmt, with fmt's text TOLD by the authors' own Lean function (tested against real Go, not proved from fmt's source: count such statements apart). THE CARD IS WHAT COUNTS. Prove the row's statement (the work); the ties are given (YtcccbkilpeohkaaDoorTie.lean); close each card by the builder's one call (the guide's Derived/Test/ToyasCard.lean, 'card_holds'). Laid BY PROGRAM, IN A SANDBOX (cutbox-door.mjs). By AI agents, Wed Nov 11 2026. No macro, syntax, notation, axiom, sorry.
-/
import Derived.Test.YtcccbkilpeohkaaDoorRows
import GoSem.ClaimSeven
namespace Go.Proofs.YtcccbkilpeohkaaDoor
namespace Rows

/-- THE TIED CARD OF 'laws.FnExactRoundUntil'. -/
def fnExactRoundUntilCard : Claim7 := { stood := { row := fnExactRoundUntilRow, standIns := [], harness := (true, "efc6c69dec27b1ddd4fcb7fe2f75cdfdec479a8aeec5f5560308bd0d28fa2278"), looks := false }, kinds := [], alts := [], laidByText := true, laidKinds := [.data, .pinned], laidTests := true, laidLooks := .later }
def FnExactRoundUntilCardSaid : Prop := Claim7.holds Tryd.pinned (.plain (OpenSpec.ofChange fnExactRoundUntilSpec)) fnExactRoundUntilCard

/-- THE SECOND FORM's CARD OF 'laws.FnExactRoundUntil'. -/
def fnExactRoundUntilUptoCard : Claim7 := { stood := { row := fnExactRoundUntilUptoRow, standIns := [], harness := (true, "efc6c69dec27b1ddd4fcb7fe2f75cdfdec479a8aeec5f5560308bd0d28fa2278"), looks := false }, kinds := [], alts := [], laidByText := true, laidKinds := [.data, .pinned], laidTests := true, laidLooks := .later }
def FnExactRoundUntilUptoCardSaid : Prop := Claim7.holds Tryd.pinned (.plain (OpenSpec.upto fnExactRoundUntilSpec)) fnExactRoundUntilUptoCard
end Rows
end Go.Proofs.YtcccbkilpeohkaaDoor
