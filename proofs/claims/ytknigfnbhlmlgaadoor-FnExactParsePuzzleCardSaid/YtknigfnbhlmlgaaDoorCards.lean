/-
  DERIVED. GIVEN WITH THE SEED: THE CARDS: each row of YtknigfnbhlmlgaaDoorRows.lean that lists a variable, with what it lists TIED to the program's text (the seventh form; the later family's looks); each row that meets fmt, with fmt's text TOLD by the authors' own Lean function (tested against real Go, not proved from fmt's source: count such statements apart). THE CARD IS WHAT COUNTS. Prove the row's statement (the work); the ties are given (YtknigfnbhlmlgaaDoorTie.lean); close each card by the builder's one call (the guide's Derived/Test/ToyasCard.lean, 'card_holds'). Laid BY PROGRAM, IN A SANDBOX (cutbox-door.mjs). By AI agents, Wed Nov 11 2026. No macro, syntax, notation, axiom, sorry.
-/
import Derived.Test.YtknigfnbhlmlgaaDoorRows
import GoSem.ClaimSeven
namespace Go.Proofs.YtknigfnbhlmlgaaDoor
namespace Rows

/-- THE TIED CARD OF 'laws.FnExactBornText'. -/
def fnExactBornTextCard : Claim7 := { stood := { row := fnExactBornTextRow, standIns := [], harness := (true, "b61bc7c34dab51d5acb03b3e7f5b1cc9621fe39059dca35beea97ceb8e4c72e4"), looks := true }, kinds := [], alts := [], laidByText := true, laidKinds := [.data, .data, .data], laidTests := true, laidLooks := .later }
def FnExactBornTextCardSaid : Prop := Claim7.holds Tryd.pinned (.plain (OpenSpec.ofChange fnExactBornTextSpec)) fnExactBornTextCard

/-- THE TIED CARD OF 'laws.FnExactBirthsText'. -/
def fnExactBirthsTextCard : Claim7 := { stood := { row := fnExactBirthsTextRow, standIns := [], harness := (true, "b61bc7c34dab51d5acb03b3e7f5b1cc9621fe39059dca35beea97ceb8e4c72e4"), looks := true }, kinds := [], alts := [], laidByText := true, laidKinds := [.data, .data, .data], laidTests := true, laidLooks := .later }
def FnExactBirthsTextCardSaid : Prop := Claim7.holds Tryd.pinned (.plain (OpenSpec.ofChange fnExactBirthsTextSpec)) fnExactBirthsTextCard

/-- THE TIED CARD OF 'laws.FnExactPuzzleText'. -/
def fnExactPuzzleTextCard : Claim7 := { stood := { row := fnExactPuzzleTextRow, standIns := [], harness := (true, "b61bc7c34dab51d5acb03b3e7f5b1cc9621fe39059dca35beea97ceb8e4c72e4"), looks := true }, kinds := [], alts := [], laidByText := true, laidKinds := [.data, .data, .data], laidTests := true, laidLooks := .later }
def FnExactPuzzleTextCardSaid : Prop := Claim7.holds Tryd.pinned (.plain (OpenSpec.ofChange fnExactPuzzleTextSpec)) fnExactPuzzleTextCard

/-- THE TIED CARD OF 'laws.FnExactParseBorn'. -/
def fnExactParseBornCard : Claim7 := { stood := { row := fnExactParseBornRow, standIns := [], harness := (true, "b61bc7c34dab51d5acb03b3e7f5b1cc9621fe39059dca35beea97ceb8e4c72e4"), looks := true }, kinds := [], alts := [], laidByText := true, laidKinds := [.data, .data, .data, .data, .sentinel, .sentinel, .pinned], laidTests := true, laidLooks := .later }
def FnExactParseBornCardSaid : Prop := Claim7.holds Tryd.pinned (.plain (OpenSpec.ofChange fnExactParseBornSpec)) fnExactParseBornCard

/-- THE TIED CARD OF 'laws.FnExactParsePuzzle'. -/
def fnExactParsePuzzleCard : Claim7 := { stood := { row := fnExactParsePuzzleRow, standIns := [], harness := (true, "b61bc7c34dab51d5acb03b3e7f5b1cc9621fe39059dca35beea97ceb8e4c72e4"), looks := true }, kinds := [], alts := [], laidByText := true, laidKinds := [.data, .data, .data, .data, .sentinel, .sentinel, .pinned], laidTests := true, laidLooks := .later }
def FnExactParsePuzzleCardSaid : Prop := Claim7.holds Tryd.pinned (.plain (OpenSpec.ofChange fnExactParsePuzzleSpec)) fnExactParsePuzzleCard

/-- THE SECOND FORM's CARD OF 'laws.FnExactBornText'. -/
def fnExactBornTextUptoCard : Claim7 := { stood := { row := fnExactBornTextUptoRow, standIns := [], harness := (true, "b61bc7c34dab51d5acb03b3e7f5b1cc9621fe39059dca35beea97ceb8e4c72e4"), looks := true }, kinds := [], alts := [], laidByText := true, laidKinds := [.data, .data, .data], laidTests := true, laidLooks := .later }
def FnExactBornTextUptoCardSaid : Prop := Claim7.holds Tryd.pinned (.plain (OpenSpec.upto fnExactBornTextSpec)) fnExactBornTextUptoCard

/-- THE SECOND FORM's CARD OF 'laws.FnExactBirthsText'. -/
def fnExactBirthsTextUptoCard : Claim7 := { stood := { row := fnExactBirthsTextUptoRow, standIns := [], harness := (true, "b61bc7c34dab51d5acb03b3e7f5b1cc9621fe39059dca35beea97ceb8e4c72e4"), looks := true }, kinds := [], alts := [], laidByText := true, laidKinds := [.data, .data, .data], laidTests := true, laidLooks := .later }
def FnExactBirthsTextUptoCardSaid : Prop := Claim7.holds Tryd.pinned (.plain (OpenSpec.upto fnExactBirthsTextSpec)) fnExactBirthsTextUptoCard

/-- THE SECOND FORM's CARD OF 'laws.FnExactPuzzleText'. -/
def fnExactPuzzleTextUptoCard : Claim7 := { stood := { row := fnExactPuzzleTextUptoRow, standIns := [], harness := (true, "b61bc7c34dab51d5acb03b3e7f5b1cc9621fe39059dca35beea97ceb8e4c72e4"), looks := true }, kinds := [], alts := [], laidByText := true, laidKinds := [.data, .data, .data], laidTests := true, laidLooks := .later }
def FnExactPuzzleTextUptoCardSaid : Prop := Claim7.holds Tryd.pinned (.plain (OpenSpec.upto fnExactPuzzleTextSpec)) fnExactPuzzleTextUptoCard

/-- THE SECOND FORM's CARD OF 'laws.FnExactParseBorn'. -/
def fnExactParseBornUptoCard : Claim7 := { stood := { row := fnExactParseBornUptoRow, standIns := [], harness := (true, "b61bc7c34dab51d5acb03b3e7f5b1cc9621fe39059dca35beea97ceb8e4c72e4"), looks := true }, kinds := [], alts := [], laidByText := true, laidKinds := [.data, .data, .data, .data, .sentinel, .sentinel, .pinned], laidTests := true, laidLooks := .later }
def FnExactParseBornUptoCardSaid : Prop := Claim7.holds Tryd.pinned (.plain (OpenSpec.upto fnExactParseBornSpec)) fnExactParseBornUptoCard

/-- THE SECOND FORM's CARD OF 'laws.FnExactParsePuzzle'. -/
def fnExactParsePuzzleUptoCard : Claim7 := { stood := { row := fnExactParsePuzzleUptoRow, standIns := [], harness := (true, "b61bc7c34dab51d5acb03b3e7f5b1cc9621fe39059dca35beea97ceb8e4c72e4"), looks := true }, kinds := [], alts := [], laidByText := true, laidKinds := [.data, .data, .data, .data, .sentinel, .sentinel, .pinned], laidTests := true, laidLooks := .later }
def FnExactParsePuzzleUptoCardSaid : Prop := Claim7.holds Tryd.pinned (.plain (OpenSpec.upto fnExactParsePuzzleSpec)) fnExactParsePuzzleUptoCard
end Rows
end Go.Proofs.YtknigfnbhlmlgaaDoor
