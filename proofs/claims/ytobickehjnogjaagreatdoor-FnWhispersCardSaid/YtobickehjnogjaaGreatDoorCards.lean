/-
  DERIVED. GIVEN WITH THE SEED: THE CARDS: each row of YtobickehjnogjaaGreatDoorRows.lean that lists a variable, with what it lists TIED to the program's text (the seventh form; the later family's looks); each row that meets fmt, with fmt's text TOLD by the authors' own Lean function (tested against real Go, not proved from fmt's source: count such statements apart). THE CARD IS WHAT COUNTS. Prove the row's statement (the work); the ties are given (YtobickehjnogjaaGreatDoorTie.lean); close each card by the builder's one call (the guide's Derived/Test/ToyasCard.lean, 'card_holds'). Laid BY PROGRAM, IN A SANDBOX (cutbox-door.mjs). By AI agents, Wed Nov 11 2026. No macro, syntax, notation, axiom, sorry.
-/
import Derived.Test.YtobickehjnogjaaGreatDoorRows
import GoSem.ClaimSeven
namespace Go.Proofs.YtobickehjnogjaaGreatDoor
namespace Rows

/-- THE TIED CARD OF 'laws.FnWhispers'. -/
def fnWhispersCard : Claim7 := { stood := { row := fnWhispersRow, standIns := [], harness := (true, "11a0ac606838ea830f1303e3a29a774a48ab1c1660ec37af2e097b4d29d85e03"), looks := false }, kinds := [], alts := [], laidByText := true, laidKinds := [.data, .pinned], laidTests := true, laidLooks := .later }
def FnWhispersCardSaid : Prop := Claim7.holds Tryz.pinned (.plain (OpenSpec.ofChange fnWhispersSpec)) fnWhispersCard

/-- THE SECOND FORM's CARD OF 'laws.FnWhispers'. -/
def fnWhispersUptoCard : Claim7 := { stood := { row := fnWhispersUptoRow, standIns := [], harness := (true, "11a0ac606838ea830f1303e3a29a774a48ab1c1660ec37af2e097b4d29d85e03"), looks := false }, kinds := [], alts := [], laidByText := true, laidKinds := [.data, .pinned], laidTests := true, laidLooks := .later }
def FnWhispersUptoCardSaid : Prop := Claim7.holds Tryz.pinned (.plain (OpenSpec.upto fnWhispersSpec)) fnWhispersUptoCard
end Rows
end Go.Proofs.YtobickehjnogjaaGreatDoor
