/-
  DERIVED. GIVEN WITH THE SEED: THE CARDS: each row of YtlggjfhoecaelaaGreatDoorRows.lean that lists a variable, with what it lists TIED to the program's text (the seventh form; the later family's looks); each row that meets fmt, with fmt's text TOLD by the authors' own Lean function (tested against real Go, not proved from fmt's source: count such statements apart). THE CARD IS WHAT COUNTS. Prove the row's statement (the work); the ties are given (YtlggjfhoecaelaaGreatDoorTie.lean); close each card by the builder's one call (the guide's Derived/Test/ToyasCard.lean, 'card_holds'). Laid BY PROGRAM, IN A SANDBOX (cutbox-door.mjs). By AI agents, Wed Nov 11 2026. No macro, syntax, notation, axiom, sorry.
-/
import Derived.Test.YtlggjfhoecaelaaGreatDoorRows
import GoSem.ClaimSeven
namespace Go.Proofs.YtlggjfhoecaelaaGreatDoor
namespace Rows

/-- THE TIED CARD OF 'laws.FnRopes'. -/
def fnRopesCard : Claim7 := { stood := { row := fnRopesRow, standIns := [], harness := (true, "96fe851e514e29024039cf55c97952ba5c76720c74e47aed945f5b83e6a25f17"), looks := true }, kinds := [], alts := [], laidByText := true, laidKinds := [.data, .data, .data, .data, .sentinel, .sentinel, .pinned], laidTests := true, laidLooks := .later }
def FnRopesCardSaid : Prop := Claim7.holds Tryz.pinned (.plain (OpenSpec.ofChange fnRopesSpec)) fnRopesCard

/-- THE SECOND FORM's CARD OF 'laws.FnRopes'. -/
def fnRopesUptoCard : Claim7 := { stood := { row := fnRopesUptoRow, standIns := [], harness := (true, "96fe851e514e29024039cf55c97952ba5c76720c74e47aed945f5b83e6a25f17"), looks := true }, kinds := [], alts := [], laidByText := true, laidKinds := [.data, .data, .data, .data, .sentinel, .sentinel, .pinned], laidTests := true, laidLooks := .later }
def FnRopesUptoCardSaid : Prop := Claim7.holds Tryz.pinned (.plain (OpenSpec.upto fnRopesSpec)) fnRopesUptoCard
end Rows
end Go.Proofs.YtlggjfhoecaelaaGreatDoor
