/-
  DERIVED. GIVEN WITH THE SEED: THE CARDS: each row of YtjifmnffbfpdoaaDoorRows.lean that lists a variable, with what it lists TIED to the program's text (the seventh form; the later family's looks); each row that meets fmt, with fmt's text TOLD by the authors' own Lean function (tested against real Go, not proved from fmt's source: count such statements apart). THE CARD IS WHAT COUNTS. Prove the row's statement (the work); the ties are given (YtjifmnffbfpdoaaDoorTie.lean); close each card by the builder's one call (the guide's Derived/Test/ToyasCard.lean, 'card_holds'). Laid BY PROGRAM, IN A SANDBOX (cutbox-door.mjs). By AI agents, Wed Nov 11 2026. No macro, syntax, notation, axiom, sorry.
-/
import Derived.Test.YtjifmnffbfpdoaaDoorRows
import GoSem.ClaimSeven
namespace Go.Proofs.YtjifmnffbfpdoaaDoor
namespace Rows

/-- THE TIED CARD OF 'laws.FnSuspects'. -/
def fnSuspectsCard : Claim7 := { stood := { row := fnSuspectsRow, standIns := [], harness := (true, "4bb865039cf42abfb3c57d882fd4d926e1272e99dd4388b13879580358d1a704"), looks := false }, kinds := [], alts := [], laidByText := true, laidKinds := [.data, .pinned], laidTests := true, laidLooks := .later }
def FnSuspectsCardSaid : Prop := Claim7.holds Tryd.pinned (.plain (OpenSpec.ofChange fnSuspectsSpec)) fnSuspectsCard

/-- THE SECOND FORM's CARD OF 'laws.FnSuspects'. -/
def fnSuspectsUptoCard : Claim7 := { stood := { row := fnSuspectsUptoRow, standIns := [], harness := (true, "4bb865039cf42abfb3c57d882fd4d926e1272e99dd4388b13879580358d1a704"), looks := false }, kinds := [], alts := [], laidByText := true, laidKinds := [.data, .pinned], laidTests := true, laidLooks := .later }
def FnSuspectsUptoCardSaid : Prop := Claim7.holds Tryd.pinned (.plain (OpenSpec.upto fnSuspectsSpec)) fnSuspectsUptoCard
end Rows
end Go.Proofs.YtjifmnffbfpdoaaDoor
