/-
  DERIVED. GIVEN WITH THE SEED: THE CARDS: each row of YtelgmojnndbgmaaDoorRows.lean that lists a variable, with what it lists TIED to the program's text (the seventh form; the later family's looks); each row that meets fmt, with fmt's text TOLD by the authors' own Lean function (tested against real Go, not proved from fmt's source: count such statements apart). THE CARD IS WHAT COUNTS. Prove the row's statement (the work); the ties are given (YtelgmojnndbgmaaDoorTie.lean); close each card by the builder's one call (the guide's Derived/Test/ToyasCard.lean, 'card_holds'). Laid BY PROGRAM, IN A SANDBOX (cutbox-door.mjs). By AI agents, Wed Nov 11 2026. No macro, syntax, notation, axiom, sorry.
-/
import Derived.Test.YtelgmojnndbgmaaDoorRows
import GoSem.ClaimSeven
namespace Go.Proofs.YtelgmojnndbgmaaDoor
namespace Rows

/-- THE TIED CARD OF 'laws.FnExactAllBut'. -/
def fnExactAllButCard : Claim7 := { stood := { row := fnExactAllButRow, standIns := [], harness := (true, "2b71f015b6ce5c13bb8705425f771a71c101eef6c8d7195d551e44776161cd94"), looks := false }, kinds := [], alts := [], laidByText := true, laidKinds := [.data, .pinned], laidTests := true, laidLooks := .later }
def FnExactAllButCardSaid : Prop := Claim7.holds Tryd.pinned (.plain (OpenSpec.ofChange fnExactAllButSpec)) fnExactAllButCard

/-- THE TIED CARD OF 'laws.FnExactLogText'. -/
def fnExactLogTextCard : Claim7 := { stood := { row := fnExactLogTextRow, standIns := [], harness := (true, "2b71f015b6ce5c13bb8705425f771a71c101eef6c8d7195d551e44776161cd94"), looks := false }, kinds := [], alts := [], laidByText := true, laidKinds := [.data, .data, .data], laidTests := true, laidLooks := .later }
def FnExactLogTextCardSaid : Prop := Claim7.holds Tryd.pinned (.plain (OpenSpec.ofChange fnExactLogTextSpec)) fnExactLogTextCard

/-- THE SECOND FORM's CARD OF 'laws.FnExactAllBut'. -/
def fnExactAllButUptoCard : Claim7 := { stood := { row := fnExactAllButUptoRow, standIns := [], harness := (true, "2b71f015b6ce5c13bb8705425f771a71c101eef6c8d7195d551e44776161cd94"), looks := false }, kinds := [], alts := [], laidByText := true, laidKinds := [.data, .pinned], laidTests := true, laidLooks := .later }
def FnExactAllButUptoCardSaid : Prop := Claim7.holds Tryd.pinned (.plain (OpenSpec.upto fnExactAllButSpec)) fnExactAllButUptoCard

/-- THE SECOND FORM's CARD OF 'laws.FnExactLogText'. -/
def fnExactLogTextUptoCard : Claim7 := { stood := { row := fnExactLogTextUptoRow, standIns := [], harness := (true, "2b71f015b6ce5c13bb8705425f771a71c101eef6c8d7195d551e44776161cd94"), looks := false }, kinds := [], alts := [], laidByText := true, laidKinds := [.data, .data, .data], laidTests := true, laidLooks := .later }
def FnExactLogTextUptoCardSaid : Prop := Claim7.holds Tryd.pinned (.plain (OpenSpec.upto fnExactLogTextSpec)) fnExactLogTextUptoCard
end Rows
end Go.Proofs.YtelgmojnndbgmaaDoor
