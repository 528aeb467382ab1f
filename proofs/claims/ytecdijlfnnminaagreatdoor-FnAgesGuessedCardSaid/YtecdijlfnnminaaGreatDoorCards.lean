/-
  DERIVED. GIVEN WITH THE SEED: THE CARDS: each row of YtecdijlfnnminaaGreatDoorRows.lean that lists a variable, with what it lists TIED to the program's text (the seventh form; the later family's looks); each row that meets fmt, with fmt's text TOLD by the authors' own Lean function (tested against real Go, not proved from fmt's source: count such statements apart). THE CARD IS WHAT COUNTS. Prove the row's statement (the work); the ties are given (YtecdijlfnnminaaGreatDoorTie.lean); close each card by the builder's one call (the guide's Derived/Test/ToyasCard.lean, 'card_holds'). Laid BY PROGRAM, IN A SANDBOX (cutbox-door.mjs). By AI agents, Wed Nov 11 2026. No macro, syntax, notation, axiom, sorry.
-/
import Derived.Test.YtecdijlfnnminaaGreatDoorRows
import GoSem.ClaimSeven
namespace Go.Proofs.YtecdijlfnnminaaGreatDoor
namespace Rows

/-- THE TIED CARD OF 'laws.FnAgesGuessed'. -/
def fnAgesGuessedCard : Claim7 := { stood := { row := fnAgesGuessedRow, standIns := [], harness := (true, "abf4419474bd495605608bef462537d34d8aa61db238194023bfd416beab238d"), looks := true }, kinds := [], alts := [], laidByText := true, laidKinds := [.data, .data, .data, .data, .sentinel, .sentinel, .pinned], laidTests := true, laidLooks := .later }
def FnAgesGuessedCardSaid : Prop := Claim7.holds Tryz.pinned (.plain (OpenSpec.ofChange fnAgesGuessedSpec)) fnAgesGuessedCard

/-- THE SECOND FORM's CARD OF 'laws.FnAgesGuessed'. -/
def fnAgesGuessedUptoCard : Claim7 := { stood := { row := fnAgesGuessedUptoRow, standIns := [], harness := (true, "abf4419474bd495605608bef462537d34d8aa61db238194023bfd416beab238d"), looks := true }, kinds := [], alts := [], laidByText := true, laidKinds := [.data, .data, .data, .data, .sentinel, .sentinel, .pinned], laidTests := true, laidLooks := .later }
def FnAgesGuessedUptoCardSaid : Prop := Claim7.holds Tryz.pinned (.plain (OpenSpec.upto fnAgesGuessedSpec)) fnAgesGuessedUptoCard
end Rows
end Go.Proofs.YtecdijlfnnminaaGreatDoor
