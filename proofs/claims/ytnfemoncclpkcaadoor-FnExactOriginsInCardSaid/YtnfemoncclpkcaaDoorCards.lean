/-
  DERIVED. GIVEN WITH THE SEED: THE CARDS: each row of YtnfemoncclpkcaaDoorRows.lean that lists a variable, with what it lists TIED to the program's text (the seventh form; the later family's looks); each row that meets fmt, with fmt's text TOLD by the authors' own Lean function (tested against real Go, not proved from fmt's source: count such statements apart). THE CARD IS WHAT COUNTS. Prove the row's statement (the work); the ties are given (YtnfemoncclpkcaaDoorTie.lean); close each card by the builder's one call (the guide's Derived/Test/ToyasCard.lean, 'card_holds'). Laid BY PROGRAM, IN A SANDBOX (cutbox-door.mjs). By AI agents, Wed Nov 11 2026. No macro, syntax, notation, axiom, sorry.
-/
import Derived.Test.YtnfemoncclpkcaaDoorRows
import GoSem.ClaimSeven
namespace Go.Proofs.YtnfemoncclpkcaaDoor
namespace Rows

/-- THE TIED CARD OF 'laws.FnExactHear'. -/
def fnExactHearCard : Claim7 := { stood := { row := fnExactHearRow, standIns := [], harness := (true, "e84baaa2c9b956c6f97383a2ae650d71e1ce7d1e0af893126bcc4b4f56af967b"), looks := false }, kinds := [], alts := [], laidByText := true, laidKinds := [.data, .pinned], laidTests := true, laidLooks := .later }
def FnExactHearCardSaid : Prop := Claim7.holds Tryd.pinned (.plain (OpenSpec.ofChange fnExactHearSpec)) fnExactHearCard

/-- THE TIED CARD OF 'laws.FnExactPassOn'. -/
def fnExactPassOnCard : Claim7 := { stood := { row := fnExactPassOnRow, standIns := [], harness := (true, "e84baaa2c9b956c6f97383a2ae650d71e1ce7d1e0af893126bcc4b4f56af967b"), looks := false }, kinds := [], alts := [], laidByText := true, laidKinds := [.data, .pinned], laidTests := true, laidLooks := .later }
def FnExactPassOnCardSaid : Prop := Claim7.holds Tryd.pinned (.plain (OpenSpec.ofChange fnExactPassOnSpec)) fnExactPassOnCard

/-- THE TIED CARD OF 'laws.FnExactRoundUntil'. -/
def fnExactRoundUntilCard : Claim7 := { stood := { row := fnExactRoundUntilRow, standIns := [], harness := (true, "e84baaa2c9b956c6f97383a2ae650d71e1ce7d1e0af893126bcc4b4f56af967b"), looks := false }, kinds := [], alts := [], laidByText := true, laidKinds := [.data, .pinned], laidTests := true, laidLooks := .later }
def FnExactRoundUntilCardSaid : Prop := Claim7.holds Tryd.pinned (.plain (OpenSpec.ofChange fnExactRoundUntilSpec)) fnExactRoundUntilCard

/-- THE TIED CARD OF 'laws.FnExactNobodyBut'. -/
def fnExactNobodyButCard : Claim7 := { stood := { row := fnExactNobodyButRow, standIns := [], harness := (true, "e84baaa2c9b956c6f97383a2ae650d71e1ce7d1e0af893126bcc4b4f56af967b"), looks := false }, kinds := [], alts := [], laidByText := true, laidKinds := [.data, .pinned], laidTests := true, laidLooks := .later }
def FnExactNobodyButCardSaid : Prop := Claim7.holds Tryd.pinned (.plain (OpenSpec.ofChange fnExactNobodyButSpec)) fnExactNobodyButCard

/-- THE TIED CARD OF 'laws.FnExactHeardAll'. -/
def fnExactHeardAllCard : Claim7 := { stood := { row := fnExactHeardAllRow, standIns := [], harness := (true, "e84baaa2c9b956c6f97383a2ae650d71e1ce7d1e0af893126bcc4b4f56af967b"), looks := false }, kinds := [], alts := [], laidByText := true, laidKinds := [.data, .pinned], laidTests := true, laidLooks := .later }
def FnExactHeardAllCardSaid : Prop := Claim7.holds Tryd.pinned (.plain (OpenSpec.ofChange fnExactHeardAllSpec)) fnExactHeardAllCard

/-- THE TIED CARD OF 'laws.FnExactChangedBy'. -/
def fnExactChangedByCard : Claim7 := { stood := { row := fnExactChangedByRow, standIns := [], harness := (true, "e84baaa2c9b956c6f97383a2ae650d71e1ce7d1e0af893126bcc4b4f56af967b"), looks := false }, kinds := [], alts := [], laidByText := true, laidKinds := [.data, .pinned], laidTests := true, laidLooks := .later }
def FnExactChangedByCardSaid : Prop := Claim7.holds Tryd.pinned (.plain (OpenSpec.ofChange fnExactChangedBySpec)) fnExactChangedByCard

/-- THE TIED CARD OF 'laws.FnExactAllBut'. -/
def fnExactAllButCard : Claim7 := { stood := { row := fnExactAllButRow, standIns := [], harness := (true, "e84baaa2c9b956c6f97383a2ae650d71e1ce7d1e0af893126bcc4b4f56af967b"), looks := false }, kinds := [], alts := [], laidByText := true, laidKinds := [.data, .pinned], laidTests := true, laidLooks := .later }
def FnExactAllButCardSaid : Prop := Claim7.holds Tryd.pinned (.plain (OpenSpec.ofChange fnExactAllButSpec)) fnExactAllButCard

/-- THE TIED CARD OF 'laws.FnExactStaysSame'. -/
def fnExactStaysSameCard : Claim7 := { stood := { row := fnExactStaysSameRow, standIns := [], harness := (true, "e84baaa2c9b956c6f97383a2ae650d71e1ce7d1e0af893126bcc4b4f56af967b"), looks := false }, kinds := [], alts := [], laidByText := true, laidKinds := [.data, .pinned], laidTests := true, laidLooks := .later }
def FnExactStaysSameCardSaid : Prop := Claim7.holds Tryd.pinned (.plain (OpenSpec.ofChange fnExactStaysSameSpec)) fnExactStaysSameCard

/-- THE TIED CARD OF 'laws.FnExactOriginsIn'. -/
def fnExactOriginsInCard : Claim7 := { stood := { row := fnExactOriginsInRow, standIns := [], harness := (true, "e84baaa2c9b956c6f97383a2ae650d71e1ce7d1e0af893126bcc4b4f56af967b"), looks := false }, kinds := [], alts := [], laidByText := true, laidKinds := [.data, .pinned], laidTests := true, laidLooks := .later }
def FnExactOriginsInCardSaid : Prop := Claim7.holds Tryd.pinned (.plain (OpenSpec.ofChange fnExactOriginsInSpec)) fnExactOriginsInCard

/-- THE TIED CARD OF 'laws.FnSuspects'. -/
def fnSuspectsCard : Claim7 := { stood := { row := fnSuspectsRow, standIns := [], harness := (true, "e84baaa2c9b956c6f97383a2ae650d71e1ce7d1e0af893126bcc4b4f56af967b"), looks := false }, kinds := [], alts := [], laidByText := true, laidKinds := [.data, .pinned], laidTests := true, laidLooks := .later }
def FnSuspectsCardSaid : Prop := Claim7.holds Tryd.pinned (.plain (OpenSpec.ofChange fnSuspectsSpec)) fnSuspectsCard

/-- THE TIED CARD OF 'laws.FnExactPastsOf'. -/
def fnExactPastsOfCard : Claim7 := { stood := { row := fnExactPastsOfRow, standIns := [], harness := (true, "e84baaa2c9b956c6f97383a2ae650d71e1ce7d1e0af893126bcc4b4f56af967b"), looks := false }, kinds := [], alts := [], laidByText := true, laidKinds := [.data, .pinned], laidTests := true, laidLooks := .later }
def FnExactPastsOfCardSaid : Prop := Claim7.holds Tryd.pinned (.plain (OpenSpec.ofChange fnExactPastsOfSpec)) fnExactPastsOfCard

/-- THE TIED CARD OF 'laws.FnExactFirstWords'. -/
def fnExactFirstWordsCard : Claim7 := { stood := { row := fnExactFirstWordsRow, standIns := [], harness := (true, "e84baaa2c9b956c6f97383a2ae650d71e1ce7d1e0af893126bcc4b4f56af967b"), looks := false }, kinds := [], alts := [], laidByText := true, laidKinds := [.data, .pinned], laidTests := true, laidLooks := .later }
def FnExactFirstWordsCardSaid : Prop := Claim7.holds Tryd.pinned (.plain (OpenSpec.ofChange fnExactFirstWordsSpec)) fnExactFirstWordsCard

/-- THE SECOND FORM's CARD OF 'laws.FnExactHear'. -/
def fnExactHearUptoCard : Claim7 := { stood := { row := fnExactHearUptoRow, standIns := [], harness := (true, "e84baaa2c9b956c6f97383a2ae650d71e1ce7d1e0af893126bcc4b4f56af967b"), looks := false }, kinds := [], alts := [], laidByText := true, laidKinds := [.data, .pinned], laidTests := true, laidLooks := .later }
def FnExactHearUptoCardSaid : Prop := Claim7.holds Tryd.pinned (.plain (OpenSpec.upto fnExactHearSpec)) fnExactHearUptoCard

/-- THE SECOND FORM's CARD OF 'laws.FnExactPassOn'. -/
def fnExactPassOnUptoCard : Claim7 := { stood := { row := fnExactPassOnUptoRow, standIns := [], harness := (true, "e84baaa2c9b956c6f97383a2ae650d71e1ce7d1e0af893126bcc4b4f56af967b"), looks := false }, kinds := [], alts := [], laidByText := true, laidKinds := [.data, .pinned], laidTests := true, laidLooks := .later }
def FnExactPassOnUptoCardSaid : Prop := Claim7.holds Tryd.pinned (.plain (OpenSpec.upto fnExactPassOnSpec)) fnExactPassOnUptoCard

/-- THE SECOND FORM's CARD OF 'laws.FnExactRoundUntil'. -/
def fnExactRoundUntilUptoCard : Claim7 := { stood := { row := fnExactRoundUntilUptoRow, standIns := [], harness := (true, "e84baaa2c9b956c6f97383a2ae650d71e1ce7d1e0af893126bcc4b4f56af967b"), looks := false }, kinds := [], alts := [], laidByText := true, laidKinds := [.data, .pinned], laidTests := true, laidLooks := .later }
def FnExactRoundUntilUptoCardSaid : Prop := Claim7.holds Tryd.pinned (.plain (OpenSpec.upto fnExactRoundUntilSpec)) fnExactRoundUntilUptoCard

/-- THE SECOND FORM's CARD OF 'laws.FnExactNobodyBut'. -/
def fnExactNobodyButUptoCard : Claim7 := { stood := { row := fnExactNobodyButUptoRow, standIns := [], harness := (true, "e84baaa2c9b956c6f97383a2ae650d71e1ce7d1e0af893126bcc4b4f56af967b"), looks := false }, kinds := [], alts := [], laidByText := true, laidKinds := [.data, .pinned], laidTests := true, laidLooks := .later }
def FnExactNobodyButUptoCardSaid : Prop := Claim7.holds Tryd.pinned (.plain (OpenSpec.upto fnExactNobodyButSpec)) fnExactNobodyButUptoCard

/-- THE SECOND FORM's CARD OF 'laws.FnExactHeardAll'. -/
def fnExactHeardAllUptoCard : Claim7 := { stood := { row := fnExactHeardAllUptoRow, standIns := [], harness := (true, "e84baaa2c9b956c6f97383a2ae650d71e1ce7d1e0af893126bcc4b4f56af967b"), looks := false }, kinds := [], alts := [], laidByText := true, laidKinds := [.data, .pinned], laidTests := true, laidLooks := .later }
def FnExactHeardAllUptoCardSaid : Prop := Claim7.holds Tryd.pinned (.plain (OpenSpec.upto fnExactHeardAllSpec)) fnExactHeardAllUptoCard

/-- THE SECOND FORM's CARD OF 'laws.FnExactChangedBy'. -/
def fnExactChangedByUptoCard : Claim7 := { stood := { row := fnExactChangedByUptoRow, standIns := [], harness := (true, "e84baaa2c9b956c6f97383a2ae650d71e1ce7d1e0af893126bcc4b4f56af967b"), looks := false }, kinds := [], alts := [], laidByText := true, laidKinds := [.data, .pinned], laidTests := true, laidLooks := .later }
def FnExactChangedByUptoCardSaid : Prop := Claim7.holds Tryd.pinned (.plain (OpenSpec.upto fnExactChangedBySpec)) fnExactChangedByUptoCard

/-- THE SECOND FORM's CARD OF 'laws.FnExactAllBut'. -/
def fnExactAllButUptoCard : Claim7 := { stood := { row := fnExactAllButUptoRow, standIns := [], harness := (true, "e84baaa2c9b956c6f97383a2ae650d71e1ce7d1e0af893126bcc4b4f56af967b"), looks := false }, kinds := [], alts := [], laidByText := true, laidKinds := [.data, .pinned], laidTests := true, laidLooks := .later }
def FnExactAllButUptoCardSaid : Prop := Claim7.holds Tryd.pinned (.plain (OpenSpec.upto fnExactAllButSpec)) fnExactAllButUptoCard

/-- THE SECOND FORM's CARD OF 'laws.FnExactStaysSame'. -/
def fnExactStaysSameUptoCard : Claim7 := { stood := { row := fnExactStaysSameUptoRow, standIns := [], harness := (true, "e84baaa2c9b956c6f97383a2ae650d71e1ce7d1e0af893126bcc4b4f56af967b"), looks := false }, kinds := [], alts := [], laidByText := true, laidKinds := [.data, .pinned], laidTests := true, laidLooks := .later }
def FnExactStaysSameUptoCardSaid : Prop := Claim7.holds Tryd.pinned (.plain (OpenSpec.upto fnExactStaysSameSpec)) fnExactStaysSameUptoCard

/-- THE SECOND FORM's CARD OF 'laws.FnExactOriginsIn'. -/
def fnExactOriginsInUptoCard : Claim7 := { stood := { row := fnExactOriginsInUptoRow, standIns := [], harness := (true, "e84baaa2c9b956c6f97383a2ae650d71e1ce7d1e0af893126bcc4b4f56af967b"), looks := false }, kinds := [], alts := [], laidByText := true, laidKinds := [.data, .pinned], laidTests := true, laidLooks := .later }
def FnExactOriginsInUptoCardSaid : Prop := Claim7.holds Tryd.pinned (.plain (OpenSpec.upto fnExactOriginsInSpec)) fnExactOriginsInUptoCard

/-- THE SECOND FORM's CARD OF 'laws.FnSuspects'. -/
def fnSuspectsUptoCard : Claim7 := { stood := { row := fnSuspectsUptoRow, standIns := [], harness := (true, "e84baaa2c9b956c6f97383a2ae650d71e1ce7d1e0af893126bcc4b4f56af967b"), looks := false }, kinds := [], alts := [], laidByText := true, laidKinds := [.data, .pinned], laidTests := true, laidLooks := .later }
def FnSuspectsUptoCardSaid : Prop := Claim7.holds Tryd.pinned (.plain (OpenSpec.upto fnSuspectsSpec)) fnSuspectsUptoCard

/-- THE SECOND FORM's CARD OF 'laws.FnExactPastsOf'. -/
def fnExactPastsOfUptoCard : Claim7 := { stood := { row := fnExactPastsOfUptoRow, standIns := [], harness := (true, "e84baaa2c9b956c6f97383a2ae650d71e1ce7d1e0af893126bcc4b4f56af967b"), looks := false }, kinds := [], alts := [], laidByText := true, laidKinds := [.data, .pinned], laidTests := true, laidLooks := .later }
def FnExactPastsOfUptoCardSaid : Prop := Claim7.holds Tryd.pinned (.plain (OpenSpec.upto fnExactPastsOfSpec)) fnExactPastsOfUptoCard

/-- THE SECOND FORM's CARD OF 'laws.FnExactFirstWords'. -/
def fnExactFirstWordsUptoCard : Claim7 := { stood := { row := fnExactFirstWordsUptoRow, standIns := [], harness := (true, "e84baaa2c9b956c6f97383a2ae650d71e1ce7d1e0af893126bcc4b4f56af967b"), looks := false }, kinds := [], alts := [], laidByText := true, laidKinds := [.data, .pinned], laidTests := true, laidLooks := .later }
def FnExactFirstWordsUptoCardSaid : Prop := Claim7.holds Tryd.pinned (.plain (OpenSpec.upto fnExactFirstWordsSpec)) fnExactFirstWordsUptoCard
end Rows
end Go.Proofs.YtnfemoncclpkcaaDoor
