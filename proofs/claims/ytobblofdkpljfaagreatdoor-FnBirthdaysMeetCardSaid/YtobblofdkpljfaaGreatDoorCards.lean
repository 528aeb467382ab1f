/-
  DERIVED. GIVEN WITH THE SEED: THE CARDS: each row of YtobblofdkpljfaaGreatDoorRows.lean that lists a variable, with what it lists TIED to the program's text (the seventh form; the later family's looks); each row that meets fmt, with fmt's text TOLD by the authors' own Lean function (tested against real Go, not proved from fmt's source: count such statements apart). THE CARD IS WHAT COUNTS. Prove the row's statement (the work); the ties are given (YtobblofdkpljfaaGreatDoorTie.lean); close each card by the builder's one call (the guide's Derived/Test/ToyasCard.lean, 'card_holds'). Laid BY PROGRAM, IN A SANDBOX (cutbox-door.mjs). By AI agents, Wed Nov 11 2026. No macro, syntax, notation, axiom, sorry.
-/
import Derived.Test.YtobblofdkpljfaaGreatDoorRows
import GoSem.ClaimSeven
namespace Go.Proofs.YtobblofdkpljfaaGreatDoor
namespace Rows

/-- THE TIED CARD OF 'laws.FnBirthdaysMeet'. -/
def fnBirthdaysMeetCard : Claim7 := { stood := { row := fnBirthdaysMeetRow, standIns := [], harness := (true, "515aac6e6f6d602a22dd18403fd6f4824d197931066d1bb9f832c0bdf0091d87"), looks := true }, kinds := [], alts := [], laidByText := true, laidKinds := [.data, .data, .data, .data, .sentinel, .sentinel, .pinned], laidTests := true, laidLooks := .later }
def FnBirthdaysMeetCardSaid : Prop := Claim7.holds Tryz.pinned (.plain (OpenSpec.ofChange fnBirthdaysMeetSpec)) fnBirthdaysMeetCard

/-- THE SECOND FORM's CARD OF 'laws.FnBirthdaysMeet'. -/
def fnBirthdaysMeetUptoCard : Claim7 := { stood := { row := fnBirthdaysMeetUptoRow, standIns := [], harness := (true, "515aac6e6f6d602a22dd18403fd6f4824d197931066d1bb9f832c0bdf0091d87"), looks := true }, kinds := [], alts := [], laidByText := true, laidKinds := [.data, .data, .data, .data, .sentinel, .sentinel, .pinned], laidTests := true, laidLooks := .later }
def FnBirthdaysMeetUptoCardSaid : Prop := Claim7.holds Tryz.pinned (.plain (OpenSpec.upto fnBirthdaysMeetSpec)) fnBirthdaysMeetUptoCard
end Rows
end Go.Proofs.YtobblofdkpljfaaGreatDoor
