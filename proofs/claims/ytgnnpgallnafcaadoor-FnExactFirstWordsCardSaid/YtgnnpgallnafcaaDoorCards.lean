/-
  DERIVED. GIVEN WITH THE SEED: THE CARDS: each row of YtgnnpgallnafcaaDoorRows.lean that lists a variable, with what it lists TIED to the program's text (the seventh form; the later family's looks); each row that meets fmt, with fmt's text TOLD by the authors' own Lean function (tested against real Go, not proved from fmt's source: count such statements apart). THE CARD IS WHAT COUNTS. Prove the row's statement (the work); the ties are given (YtgnnpgallnafcaaDoorTie.lean); close each card by the builder's one call (the guide's Derived/Test/ToyasCard.lean, 'card_holds'). Laid BY PROGRAM, IN A SANDBOX (cutbox-door.mjs). By AI agents, Wed Nov 11 2026. No macro, syntax, notation, axiom, sorry.
-/
import Derived.Test.YtgnnpgallnafcaaDoorRows
import GoSem.ClaimSeven
namespace Go.Proofs.YtgnnpgallnafcaaDoor
namespace Rows

/-- THE TIED CARD OF 'laws.FnExactPastsOf'. -/
def fnExactPastsOfCard : Claim7 := { stood := { row := fnExactPastsOfRow, standIns := [], harness := (true, "98822608476bf80f78f9a9f6e0eb028f31075fcd37e4e51682bcdc555ef9286c"), looks := false }, kinds := [], alts := [], laidByText := true, laidKinds := [.data, .pinned], laidTests := true, laidLooks := .later }
def FnExactPastsOfCardSaid : Prop := Claim7.holds Tryd.pinned (.plain (OpenSpec.ofChange fnExactPastsOfSpec)) fnExactPastsOfCard

/-- THE TIED CARD OF 'laws.FnExactFirstWords'. -/
def fnExactFirstWordsCard : Claim7 := { stood := { row := fnExactFirstWordsRow, standIns := [], harness := (true, "98822608476bf80f78f9a9f6e0eb028f31075fcd37e4e51682bcdc555ef9286c"), looks := false }, kinds := [], alts := [], laidByText := true, laidKinds := [.data, .pinned], laidTests := true, laidLooks := .later }
def FnExactFirstWordsCardSaid : Prop := Claim7.holds Tryd.pinned (.plain (OpenSpec.ofChange fnExactFirstWordsSpec)) fnExactFirstWordsCard

/-- THE SECOND FORM's CARD OF 'laws.FnExactPastsOf'. -/
def fnExactPastsOfUptoCard : Claim7 := { stood := { row := fnExactPastsOfUptoRow, standIns := [], harness := (true, "98822608476bf80f78f9a9f6e0eb028f31075fcd37e4e51682bcdc555ef9286c"), looks := false }, kinds := [], alts := [], laidByText := true, laidKinds := [.data, .pinned], laidTests := true, laidLooks := .later }
def FnExactPastsOfUptoCardSaid : Prop := Claim7.holds Tryd.pinned (.plain (OpenSpec.upto fnExactPastsOfSpec)) fnExactPastsOfUptoCard

/-- THE SECOND FORM's CARD OF 'laws.FnExactFirstWords'. -/
def fnExactFirstWordsUptoCard : Claim7 := { stood := { row := fnExactFirstWordsUptoRow, standIns := [], harness := (true, "98822608476bf80f78f9a9f6e0eb028f31075fcd37e4e51682bcdc555ef9286c"), looks := false }, kinds := [], alts := [], laidByText := true, laidKinds := [.data, .pinned], laidTests := true, laidLooks := .later }
def FnExactFirstWordsUptoCardSaid : Prop := Claim7.holds Tryd.pinned (.plain (OpenSpec.upto fnExactFirstWordsSpec)) fnExactFirstWordsUptoCard
end Rows
end Go.Proofs.YtgnnpgallnafcaaDoor
