/-
  DERIVED. GIVEN WITH THE SEED: THE CARDS: each row of YtpnkeknmgfdpdaaGreatDoorRRRows.lean that lists a variable, with what it lists TIED to the program's text (the seventh form; the later family's looks); each row that meets fmt, with fmt's text TOLD by the authors' own Lean function (tested against real Go, not proved from fmt's source: count such statements apart). THE CARD IS WHAT COUNTS. Prove the row's statement (the work); the ties are given (YtpnkeknmgfdpdaaGreatDoorRRTie.lean); close each card by the builder's one call (the guide's Derived/Test/ToyasCard.lean, 'card_holds'). Laid BY PROGRAM, IN A SANDBOX (cutbox-door.mjs). By AI agents, Wed Nov 11 2026. No macro, syntax, notation, axiom, sorry.
-/
import Derived.Test.YtpnkeknmgfdpdaaGreatDoorRRRows
import GoSem.ClaimSeven
namespace Go.Proofs.YtpnkeknmgfdpdaaGreatDoorRR
namespace Rows

/-- THE TIED CARD OF 'laws.FnJubileesSummed'. -/
def fnJubileesSummedCard : Claim7 := { stood := { row := fnJubileesSummedRow, standIns := [], harness := (true, "34db2ca9ff8701d1eaec3cd19e6020d585b972ab847540992d3d2f27b35b753f"), looks := true }, kinds := [], alts := [], laidByText := true, laidKinds := [.data, .data, .data, .data, .sentinel, .sentinel, .pinned], laidTests := true, laidLooks := .later }
def FnJubileesSummedCardSaid : Prop := Claim7.holds Tryz.pinned (.plain (OpenSpec.ofChange fnJubileesSummedSpec)) fnJubileesSummedCard

/-- THE TIED CARD OF 'laws.FnBirthdaysMeet'. -/
def fnBirthdaysMeetCard : Claim7 := { stood := { row := fnBirthdaysMeetRow, standIns := [], harness := (true, "34db2ca9ff8701d1eaec3cd19e6020d585b972ab847540992d3d2f27b35b753f"), looks := true }, kinds := [], alts := [], laidByText := true, laidKinds := [.data, .data, .data, .data, .sentinel, .sentinel, .pinned], laidTests := true, laidLooks := .later }
def FnBirthdaysMeetCardSaid : Prop := Claim7.holds Tryz.pinned (.plain (OpenSpec.ofChange fnBirthdaysMeetSpec)) fnBirthdaysMeetCard

/-- THE SECOND FORM's CARD OF 'laws.FnJubileesSummed'. -/
def fnJubileesSummedUptoCard : Claim7 := { stood := { row := fnJubileesSummedUptoRow, standIns := [], harness := (true, "34db2ca9ff8701d1eaec3cd19e6020d585b972ab847540992d3d2f27b35b753f"), looks := true }, kinds := [], alts := [], laidByText := true, laidKinds := [.data, .data, .data, .data, .sentinel, .sentinel, .pinned], laidTests := true, laidLooks := .later }
def FnJubileesSummedUptoCardSaid : Prop := Claim7.holds Tryz.pinned (.plain (OpenSpec.upto fnJubileesSummedSpec)) fnJubileesSummedUptoCard

/-- THE SECOND FORM's CARD OF 'laws.FnBirthdaysMeet'. -/
def fnBirthdaysMeetUptoCard : Claim7 := { stood := { row := fnBirthdaysMeetUptoRow, standIns := [], harness := (true, "34db2ca9ff8701d1eaec3cd19e6020d585b972ab847540992d3d2f27b35b753f"), looks := true }, kinds := [], alts := [], laidByText := true, laidKinds := [.data, .data, .data, .data, .sentinel, .sentinel, .pinned], laidTests := true, laidLooks := .later }
def FnBirthdaysMeetUptoCardSaid : Prop := Claim7.holds Tryz.pinned (.plain (OpenSpec.upto fnBirthdaysMeetSpec)) fnBirthdaysMeetUptoCard
end Rows
end Go.Proofs.YtpnkeknmgfdpdaaGreatDoorRR
