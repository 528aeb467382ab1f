/-
  No cell of these rows narrows 'for every input' (looked for: loops, veiled, ifaces, maps, wideKeys, modest, calm, conditions, laid).
  DERIVED. THE GIVEN ROWS OF THIS SEAT. 12 by the template 'for every input the law returns true; each argument reads behind the call as it read before'; 0 by the template 'total and deterministic' (their statements: YtlkommjeflojjaaTotals.lean).
  GIVEN WITH THE SEED: the statements are not yours to turn. If you find one false, say at which input.
  Laid BY PROGRAM, IN A SANDBOX (cutbox-rows.mjs): the forced cells as the released guide's own fill.sh prints them over the translation 41064bf1ddda12f0… (all of the seat's roots in one cut). By AI agents, Wed Nov 11 2026. No macro, syntax, notation, axiom, sorry.
-/
import Derived.Test.YtlkommjeflojjaaChecked
import GoSem.Claim
import GoSem.ClaimJoined
import GoSem.ClaimMapViews
import Derived.JoinedTies
import Derived.KernelRfl
namespace Go.Proofs.Ytlkommjeflojjaa
/- THE CELL 'sum', in the pinned program and in every row, IS THE sha256 OF THE DUMP (.gsa) THAT YtlkommjeflojjaaProg.lean LOADS. Nothing in Lean hashes anything: it is a label: what it is worth is what the hold of that sum in a sandbox is worth. -/
noncomputable def Try.pinned : Pinned := { name := "ytlkommjeflojjaa", sum := "41064bf1ddda12f0fe4aff9f09689116a449c08f5e1f236493942b2f713f7b13", checked := Try.checked }
namespace Rows
def none {H : Type} : Left H := { results := [], args := [] }

/-- 'laws.FnExactOldestRound': WHATEVER THE INPUT: true; the input reads as it did. -/
def fnExactOldestRoundSpec : ChangeSpec := { name := "fnExactOldestRound", fn := fun _ => fun
  | [d1, d2, d3] => { results := [.lit (.bool true)], args := [d1, d2, d3] }
  | _ => none }
def fnExactOldestRoundRow : OpenClaim := { program := "ytlkommjeflojjaa", sum := "41064bf1ddda12f0fe4aff9f09689116a449c08f5e1f236493942b2f713f7b13", func := "loop.example/g01369/laws.FnExactOldestRound", spec := "fnExactOldestRound", unfollowed := true, recurses := true, apart := false }
def FnExactOldestRoundSaid : Prop := fnExactOldestRoundRow.holds Try.pinned (OpenSpec.ofChange fnExactOldestRoundSpec)

/-- ITS FALSE NEIGHBOUR: 'it returns false'. Refute it at one input. -/
def fnExactOldestRoundWrong : ChangeSpec := { name := "fnExactOldestRound", fn := fun _ => fun
  | [d1, d2, d3] => { results := [.lit (.bool false)], args := [d1, d2, d3] }
  | _ => none }
def FnExactOldestRoundWrongFalsely : Prop := fnExactOldestRoundRow.holds Try.pinned (OpenSpec.ofChange fnExactOldestRoundWrong)

/-- 'laws.FnExactTogetherJubilees': WHATEVER THE INPUT: true; the input reads as it did. -/
def fnExactTogetherJubileesSpec : ChangeSpec := { name := "fnExactTogetherJubilees", fn := fun _ => fun
  | [d1, d2] => { results := [.lit (.bool true)], args := [d1, d2] }
  | _ => none }
def fnExactTogetherJubileesRow : OpenClaim := { program := "ytlkommjeflojjaa", sum := "41064bf1ddda12f0fe4aff9f09689116a449c08f5e1f236493942b2f713f7b13", func := "loop.example/g01369/laws.FnExactTogetherJubilees", spec := "fnExactTogetherJubilees", unfollowed := true, recurses := true, apart := false }
def FnExactTogetherJubileesSaid : Prop := fnExactTogetherJubileesRow.holds Try.pinned (OpenSpec.ofChange fnExactTogetherJubileesSpec)

/-- ITS FALSE NEIGHBOUR: 'it returns false'. Refute it at one input. -/
def fnExactTogetherJubileesWrong : ChangeSpec := { name := "fnExactTogetherJubilees", fn := fun _ => fun
  | [d1, d2] => { results := [.lit (.bool false)], args := [d1, d2] }
  | _ => none }
def FnExactTogetherJubileesWrongFalsely : Prop := fnExactTogetherJubileesRow.holds Try.pinned (OpenSpec.ofChange fnExactTogetherJubileesWrong)

/-- 'laws.FnExactCountJubilees': WHATEVER THE INPUT: true; the input reads as it did. -/
def fnExactCountJubileesSpec : ChangeSpec := { name := "fnExactCountJubilees", fn := fun _ => fun
  | [d1, d2, d3, d4] => { results := [.lit (.bool true)], args := [d1, d2, d3, d4] }
  | _ => none }
def fnExactCountJubileesRow : OpenClaim := { program := "ytlkommjeflojjaa", sum := "41064bf1ddda12f0fe4aff9f09689116a449c08f5e1f236493942b2f713f7b13", func := "loop.example/g01369/laws.FnExactCountJubilees", spec := "fnExactCountJubilees", unfollowed := true, recurses := true, apart := false }
def FnExactCountJubileesSaid : Prop := fnExactCountJubileesRow.holds Try.pinned (OpenSpec.ofChange fnExactCountJubileesSpec)

/-- ITS FALSE NEIGHBOUR: 'it returns false'. Refute it at one input. -/
def fnExactCountJubileesWrong : ChangeSpec := { name := "fnExactCountJubilees", fn := fun _ => fun
  | [d1, d2, d3, d4] => { results := [.lit (.bool false)], args := [d1, d2, d3, d4] }
  | _ => none }
def FnExactCountJubileesWrongFalsely : Prop := fnExactCountJubileesRow.holds Try.pinned (OpenSpec.ofChange fnExactCountJubileesWrong)

/-- 'laws.FnExactMostJubilees': WHATEVER THE INPUT: true; the input reads as it did. -/
def fnExactMostJubileesSpec : ChangeSpec := { name := "fnExactMostJubilees", fn := fun _ => fun
  | [d1, d2, d3, d4] => { results := [.lit (.bool true)], args := [d1, d2, d3, d4] }
  | _ => none }
def fnExactMostJubileesRow : OpenClaim := { program := "ytlkommjeflojjaa", sum := "41064bf1ddda12f0fe4aff9f09689116a449c08f5e1f236493942b2f713f7b13", func := "loop.example/g01369/laws.FnExactMostJubilees", spec := "fnExactMostJubilees", unfollowed := true, recurses := true, apart := false }
def FnExactMostJubileesSaid : Prop := fnExactMostJubileesRow.holds Try.pinned (OpenSpec.ofChange fnExactMostJubileesSpec)

/-- ITS FALSE NEIGHBOUR: 'it returns false'. Refute it at one input. -/
def fnExactMostJubileesWrong : ChangeSpec := { name := "fnExactMostJubilees", fn := fun _ => fun
  | [d1, d2, d3, d4] => { results := [.lit (.bool false)], args := [d1, d2, d3, d4] }
  | _ => none }
def FnExactMostJubileesWrongFalsely : Prop := fnExactMostJubileesRow.holds Try.pinned (OpenSpec.ofChange fnExactMostJubileesWrong)

/-- 'laws.FnExactRoundSums': WHATEVER THE INPUT: true; the input reads as it did. -/
def fnExactRoundSumsSpec : ChangeSpec := { name := "fnExactRoundSums", fn := fun _ => fun
  | [d1, d2, d3, d4] => { results := [.lit (.bool true)], args := [d1, d2, d3, d4] }
  | _ => none }
def fnExactRoundSumsRow : OpenClaim := { program := "ytlkommjeflojjaa", sum := "41064bf1ddda12f0fe4aff9f09689116a449c08f5e1f236493942b2f713f7b13", func := "loop.example/g01369/laws.FnExactRoundSums", spec := "fnExactRoundSums", unfollowed := true, recurses := true, apart := false }
def FnExactRoundSumsSaid : Prop := fnExactRoundSumsRow.holds Try.pinned (OpenSpec.ofChange fnExactRoundSumsSpec)

/-- ITS FALSE NEIGHBOUR: 'it returns false'. Refute it at one input. -/
def fnExactRoundSumsWrong : ChangeSpec := { name := "fnExactRoundSums", fn := fun _ => fun
  | [d1, d2, d3, d4] => { results := [.lit (.bool false)], args := [d1, d2, d3, d4] }
  | _ => none }
def FnExactRoundSumsWrongFalsely : Prop := fnExactRoundSumsRow.holds Try.pinned (OpenSpec.ofChange fnExactRoundSumsWrong)

/-- 'laws.FnExactLongestQuiet': WHATEVER THE INPUT: true; the input reads as it did. -/
def fnExactLongestQuietSpec : ChangeSpec := { name := "fnExactLongestQuiet", fn := fun _ => fun
  | [d1, d2, d3, d4] => { results := [.lit (.bool true)], args := [d1, d2, d3, d4] }
  | _ => none }
def fnExactLongestQuietRow : OpenClaim := { program := "ytlkommjeflojjaa", sum := "41064bf1ddda12f0fe4aff9f09689116a449c08f5e1f236493942b2f713f7b13", func := "loop.example/g01369/laws.FnExactLongestQuiet", spec := "fnExactLongestQuiet", unfollowed := true, recurses := true, apart := false }
def FnExactLongestQuietSaid : Prop := fnExactLongestQuietRow.holds Try.pinned (OpenSpec.ofChange fnExactLongestQuietSpec)

/-- ITS FALSE NEIGHBOUR: 'it returns false'. Refute it at one input. -/
def fnExactLongestQuietWrong : ChangeSpec := { name := "fnExactLongestQuiet", fn := fun _ => fun
  | [d1, d2, d3, d4] => { results := [.lit (.bool false)], args := [d1, d2, d3, d4] }
  | _ => none }
def FnExactLongestQuietWrongFalsely : Prop := fnExactLongestQuietRow.holds Try.pinned (OpenSpec.ofChange fnExactLongestQuietWrong)

/-- 'laws.FnExactFirstDesk': WHATEVER THE INPUT: true; the input reads as it did. -/
def fnExactFirstDeskSpec : ChangeSpec := { name := "fnExactFirstDesk", fn := fun _ => fun
  | [] => { results := [.lit (.bool true)], args := [] }
  | _ => none }
def fnExactFirstDeskRow : OpenClaim := { program := "ytlkommjeflojjaa", sum := "41064bf1ddda12f0fe4aff9f09689116a449c08f5e1f236493942b2f713f7b13", func := "loop.example/g01369/laws.FnExactFirstDesk", spec := "fnExactFirstDesk", apart := false }
def FnExactFirstDeskSaid : Prop := fnExactFirstDeskRow.holds Try.pinned (OpenSpec.ofChange fnExactFirstDeskSpec)

/-- ITS FALSE NEIGHBOUR: 'it returns false'. Refute it at one input. -/
def fnExactFirstDeskWrong : ChangeSpec := { name := "fnExactFirstDesk", fn := fun _ => fun
  | [] => { results := [.lit (.bool false)], args := [] }
  | _ => none }
def FnExactFirstDeskWrongFalsely : Prop := fnExactFirstDeskRow.holds Try.pinned (OpenSpec.ofChange fnExactFirstDeskWrong)

/-- 'laws.FnExactCalendarOf': WHATEVER THE INPUT: true; the input reads as it did. -/
def fnExactCalendarOfSpec : ChangeSpec := { name := "fnExactCalendarOf", fn := fun _ => fun
  | [d1, d2, d3, d4] => { results := [.lit (.bool true)], args := [d1, d2, d3, d4] }
  | _ => none }
def fnExactCalendarOfRow : OpenClaim := { program := "ytlkommjeflojjaa", sum := "41064bf1ddda12f0fe4aff9f09689116a449c08f5e1f236493942b2f713f7b13", func := "loop.example/g01369/laws.FnExactCalendarOf", spec := "fnExactCalendarOf", unfollowed := true, recurses := true, apart := false }
def FnExactCalendarOfSaid : Prop := fnExactCalendarOfRow.holds Try.pinned (OpenSpec.ofChange fnExactCalendarOfSpec)

/-- ITS FALSE NEIGHBOUR: 'it returns false'. Refute it at one input. -/
def fnExactCalendarOfWrong : ChangeSpec := { name := "fnExactCalendarOf", fn := fun _ => fun
  | [d1, d2, d3, d4] => { results := [.lit (.bool false)], args := [d1, d2, d3, d4] }
  | _ => none }
def FnExactCalendarOfWrongFalsely : Prop := fnExactCalendarOfRow.holds Try.pinned (OpenSpec.ofChange fnExactCalendarOfWrong)

/-- 'laws.FnExactAddClue': WHATEVER THE INPUT: true; the input reads as it did. -/
def fnExactAddClueSpec : ChangeSpec := { name := "fnExactAddClue", fn := fun _ => fun
  | [d1, d2] => { results := [.lit (.bool true)], args := [d1, d2] }
  | _ => none }
def fnExactAddClueRow : OpenClaim := { program := "ytlkommjeflojjaa", sum := "41064bf1ddda12f0fe4aff9f09689116a449c08f5e1f236493942b2f713f7b13", func := "loop.example/g01369/laws.FnExactAddClue", spec := "fnExactAddClue", unfollowed := true, recurses := true, apart := false }
def FnExactAddClueSaid : Prop := fnExactAddClueRow.holds Try.pinned (OpenSpec.ofChange fnExactAddClueSpec)

/-- ITS FALSE NEIGHBOUR: 'it returns false'. Refute it at one input. -/
def fnExactAddClueWrong : ChangeSpec := { name := "fnExactAddClue", fn := fun _ => fun
  | [d1, d2] => { results := [.lit (.bool false)], args := [d1, d2] }
  | _ => none }
def FnExactAddClueWrongFalsely : Prop := fnExactAddClueRow.holds Try.pinned (OpenSpec.ofChange fnExactAddClueWrong)

/-- 'laws.FnExactDropClue': WHATEVER THE INPUT: true; the input reads as it did. -/
def fnExactDropClueSpec : ChangeSpec := { name := "fnExactDropClue", fn := fun _ => fun
  | [d1, d2] => { results := [.lit (.bool true)], args := [d1, d2] }
  | _ => none }
def fnExactDropClueRow : OpenClaim := { program := "ytlkommjeflojjaa", sum := "41064bf1ddda12f0fe4aff9f09689116a449c08f5e1f236493942b2f713f7b13", func := "loop.example/g01369/laws.FnExactDropClue", spec := "fnExactDropClue", unfollowed := true, recurses := true, apart := false }
def FnExactDropClueSaid : Prop := fnExactDropClueRow.holds Try.pinned (OpenSpec.ofChange fnExactDropClueSpec)

/-- ITS FALSE NEIGHBOUR: 'it returns false'. Refute it at one input. -/
def fnExactDropClueWrong : ChangeSpec := { name := "fnExactDropClue", fn := fun _ => fun
  | [d1, d2] => { results := [.lit (.bool false)], args := [d1, d2] }
  | _ => none }
def FnExactDropClueWrongFalsely : Prop := fnExactDropClueRow.holds Try.pinned (OpenSpec.ofChange fnExactDropClueWrong)

/-- 'laws.FnExactIsDesk': WHATEVER THE INPUT: true; the input reads as it did. -/
def fnExactIsDeskSpec : ChangeSpec := { name := "fnExactIsDesk", fn := fun _ => fun
  | [d] => { results := [.lit (.bool true)], args := [d] }
  | _ => none }
def fnExactIsDeskRow : OpenClaim := { program := "ytlkommjeflojjaa", sum := "41064bf1ddda12f0fe4aff9f09689116a449c08f5e1f236493942b2f713f7b13", func := "loop.example/g01369/laws.FnExactIsDesk", spec := "fnExactIsDesk", inPlace := ["internal/bytealg.IndexByteString"], unfollowed := true, recurses := true, apart := false }
def FnExactIsDeskSaid : Prop := fnExactIsDeskRow.holds Try.pinned (OpenSpec.ofChange fnExactIsDeskSpec)

/-- ITS FALSE NEIGHBOUR: 'it returns false'. Refute it at one input. -/
def fnExactIsDeskWrong : ChangeSpec := { name := "fnExactIsDesk", fn := fun _ => fun
  | [d] => { results := [.lit (.bool false)], args := [d] }
  | _ => none }
def FnExactIsDeskWrongFalsely : Prop := fnExactIsDeskRow.holds Try.pinned (OpenSpec.ofChange fnExactIsDeskWrong)

/-- 'laws.FnExactDoesFit': WHATEVER THE INPUT: true; the input reads as it did. -/
def fnExactDoesFitSpec : ChangeSpec := { name := "fnExactDoesFit", fn := fun _ => fun
  | [d1, d2] => { results := [.lit (.bool true)], args := [d1, d2] }
  | _ => none }
def fnExactDoesFitRow : OpenClaim := { program := "ytlkommjeflojjaa", sum := "41064bf1ddda12f0fe4aff9f09689116a449c08f5e1f236493942b2f713f7b13", func := "loop.example/g01369/laws.FnExactDoesFit", spec := "fnExactDoesFit", unfollowed := true, recurses := true, apart := false }
def FnExactDoesFitSaid : Prop := fnExactDoesFitRow.holds Try.pinned (OpenSpec.ofChange fnExactDoesFitSpec)

/-- ITS FALSE NEIGHBOUR: 'it returns false'. Refute it at one input. -/
def fnExactDoesFitWrong : ChangeSpec := { name := "fnExactDoesFit", fn := fun _ => fun
  | [d1, d2] => { results := [.lit (.bool false)], args := [d1, d2] }
  | _ => none }
def FnExactDoesFitWrongFalsely : Prop := fnExactDoesFitRow.holds Try.pinned (OpenSpec.ofChange fnExactDoesFitWrong)

/- THE SECOND FORM. 'bulk': how many values and letters a reading holds, each counted each time it is reached (what is shared counts as often as it is met; a slice's spare places count too). A statement '..UptoSaid' is the law's where the arguments, and the package variables that the reading takes, are together of bulk at most 1048576: NARROWER than '..Said'. Prove '..Said' where nothing that the law and all that it calls make is longer than what came in: it says more and counts as full. Else prove '..UptoSaid'. A law counts once. -/
mutual
def uptoBulk {H : Type} : DataW H → Nat
  | .lit (.string bytes) => bytes.length + 1
  | .lit _ => 1
  | .nil => 1
  | .ptr d => uptoBulk d + 1
  | .slice elems spare => uptoBulkAll elems + uptoBulkAll spare + 1
  | .agg parts => uptoBulkAll parts + 1
  | .iface _ d => uptoBulk d + 1
  | .map entries => uptoBulkEntries entries + 1
  | .held _ => 1
def uptoBulkAll {H : Type} : List (DataW H) → Nat
  | [] => 0
  | d :: r => uptoBulk d + uptoBulkAll r
def uptoBulkEntries {H : Type} : List (Lit × DataW H) → Nat
  | [] => 0
  | x :: r => uptoBulkEntry x + uptoBulkEntries r
def uptoBulkEntry {H : Type} : Lit × DataW H → Nat
  | (.string bytes, d) => bytes.length + uptoBulk d + 1
  | (_, d) => uptoBulk d + 1
 end
def uptoSmall : (H : Type) → List (DataW H) → Bool := fun _ ds => decide (uptoBulkAll ds ≤ 1048576)
def OpenSpec.upto (s : _root_.Go.ChangeSpec) : _root_.Go.OpenSpec := { _root_.Go.OpenSpec.ofChange s with cond := some uptoSmall }

/-- 'laws.FnExactOldestRound', WHERE WHAT IT READS IS OF BULK AT MOST 1048576: true; the input reads as it did. -/
def fnExactOldestRoundUptoRow : OpenClaim := { program := "ytlkommjeflojjaa", sum := "41064bf1ddda12f0fe4aff9f09689116a449c08f5e1f236493942b2f713f7b13", func := "loop.example/g01369/laws.FnExactOldestRound", spec := "fnExactOldestRound", unfollowed := true, recurses := true, apart := false, narrowed := true }
def FnExactOldestRoundUptoSaid : Prop := fnExactOldestRoundUptoRow.holds Try.pinned (OpenSpec.upto fnExactOldestRoundSpec)

/-- 'laws.FnExactTogetherJubilees', WHERE WHAT IT READS IS OF BULK AT MOST 1048576: true; the input reads as it did. -/
def fnExactTogetherJubileesUptoRow : OpenClaim := { program := "ytlkommjeflojjaa", sum := "41064bf1ddda12f0fe4aff9f09689116a449c08f5e1f236493942b2f713f7b13", func := "loop.example/g01369/laws.FnExactTogetherJubilees", spec := "fnExactTogetherJubilees", unfollowed := true, recurses := true, apart := false, narrowed := true }
def FnExactTogetherJubileesUptoSaid : Prop := fnExactTogetherJubileesUptoRow.holds Try.pinned (OpenSpec.upto fnExactTogetherJubileesSpec)

/-- 'laws.FnExactCountJubilees', WHERE WHAT IT READS IS OF BULK AT MOST 1048576: true; the input reads as it did. -/
def fnExactCountJubileesUptoRow : OpenClaim := { program := "ytlkommjeflojjaa", sum := "41064bf1ddda12f0fe4aff9f09689116a449c08f5e1f236493942b2f713f7b13", func := "loop.example/g01369/laws.FnExactCountJubilees", spec := "fnExactCountJubilees", unfollowed := true, recurses := true, apart := false, narrowed := true }
def FnExactCountJubileesUptoSaid : Prop := fnExactCountJubileesUptoRow.holds Try.pinned (OpenSpec.upto fnExactCountJubileesSpec)

/-- 'laws.FnExactMostJubilees', WHERE WHAT IT READS IS OF BULK AT MOST 1048576: true; the input reads as it did. -/
def fnExactMostJubileesUptoRow : OpenClaim := { program := "ytlkommjeflojjaa", sum := "41064bf1ddda12f0fe4aff9f09689116a449c08f5e1f236493942b2f713f7b13", func := "loop.example/g01369/laws.FnExactMostJubilees", spec := "fnExactMostJubilees", unfollowed := true, recurses := true, apart := false, narrowed := true }
def FnExactMostJubileesUptoSaid : Prop := fnExactMostJubileesUptoRow.holds Try.pinned (OpenSpec.upto fnExactMostJubileesSpec)

/-- 'laws.FnExactRoundSums', WHERE WHAT IT READS IS OF BULK AT MOST 1048576: true; the input reads as it did. -/
def fnExactRoundSumsUptoRow : OpenClaim := { program := "ytlkommjeflojjaa", sum := "41064bf1ddda12f0fe4aff9f09689116a449c08f5e1f236493942b2f713f7b13", func := "loop.example/g01369/laws.FnExactRoundSums", spec := "fnExactRoundSums", unfollowed := true, recurses := true, apart := false, narrowed := true }
def FnExactRoundSumsUptoSaid : Prop := fnExactRoundSumsUptoRow.holds Try.pinned (OpenSpec.upto fnExactRoundSumsSpec)

/-- 'laws.FnExactLongestQuiet', WHERE WHAT IT READS IS OF BULK AT MOST 1048576: true; the input reads as it did. -/
def fnExactLongestQuietUptoRow : OpenClaim := { program := "ytlkommjeflojjaa", sum := "41064bf1ddda12f0fe4aff9f09689116a449c08f5e1f236493942b2f713f7b13", func := "loop.example/g01369/laws.FnExactLongestQuiet", spec := "fnExactLongestQuiet", unfollowed := true, recurses := true, apart := false, narrowed := true }
def FnExactLongestQuietUptoSaid : Prop := fnExactLongestQuietUptoRow.holds Try.pinned (OpenSpec.upto fnExactLongestQuietSpec)

/-- 'laws.FnExactFirstDesk', WHERE WHAT IT READS IS OF BULK AT MOST 1048576: true; the input reads as it did. -/
def fnExactFirstDeskUptoRow : OpenClaim := { program := "ytlkommjeflojjaa", sum := "41064bf1ddda12f0fe4aff9f09689116a449c08f5e1f236493942b2f713f7b13", func := "loop.example/g01369/laws.FnExactFirstDesk", spec := "fnExactFirstDesk", apart := false, narrowed := true }
def FnExactFirstDeskUptoSaid : Prop := fnExactFirstDeskUptoRow.holds Try.pinned (OpenSpec.upto fnExactFirstDeskSpec)

/-- 'laws.FnExactCalendarOf', WHERE WHAT IT READS IS OF BULK AT MOST 1048576: true; the input reads as it did. -/
def fnExactCalendarOfUptoRow : OpenClaim := { program := "ytlkommjeflojjaa", sum := "41064bf1ddda12f0fe4aff9f09689116a449c08f5e1f236493942b2f713f7b13", func := "loop.example/g01369/laws.FnExactCalendarOf", spec := "fnExactCalendarOf", unfollowed := true, recurses := true, apart := false, narrowed := true }
def FnExactCalendarOfUptoSaid : Prop := fnExactCalendarOfUptoRow.holds Try.pinned (OpenSpec.upto fnExactCalendarOfSpec)

/-- 'laws.FnExactAddClue', WHERE WHAT IT READS IS OF BULK AT MOST 1048576: true; the input reads as it did. -/
def fnExactAddClueUptoRow : OpenClaim := { program := "ytlkommjeflojjaa", sum := "41064bf1ddda12f0fe4aff9f09689116a449c08f5e1f236493942b2f713f7b13", func := "loop.example/g01369/laws.FnExactAddClue", spec := "fnExactAddClue", unfollowed := true, recurses := true, apart := false, narrowed := true }
def FnExactAddClueUptoSaid : Prop := fnExactAddClueUptoRow.holds Try.pinned (OpenSpec.upto fnExactAddClueSpec)

/-- 'laws.FnExactDropClue', WHERE WHAT IT READS IS OF BULK AT MOST 1048576: true; the input reads as it did. -/
def fnExactDropClueUptoRow : OpenClaim := { program := "ytlkommjeflojjaa", sum := "41064bf1ddda12f0fe4aff9f09689116a449c08f5e1f236493942b2f713f7b13", func := "loop.example/g01369/laws.FnExactDropClue", spec := "fnExactDropClue", unfollowed := true, recurses := true, apart := false, narrowed := true }
def FnExactDropClueUptoSaid : Prop := fnExactDropClueUptoRow.holds Try.pinned (OpenSpec.upto fnExactDropClueSpec)

/-- 'laws.FnExactIsDesk', WHERE WHAT IT READS IS OF BULK AT MOST 1048576: true; the input reads as it did. -/
def fnExactIsDeskUptoRow : OpenClaim := { program := "ytlkommjeflojjaa", sum := "41064bf1ddda12f0fe4aff9f09689116a449c08f5e1f236493942b2f713f7b13", func := "loop.example/g01369/laws.FnExactIsDesk", spec := "fnExactIsDesk", inPlace := ["internal/bytealg.IndexByteString"], unfollowed := true, recurses := true, apart := false, narrowed := true }
def FnExactIsDeskUptoSaid : Prop := fnExactIsDeskUptoRow.holds Try.pinned (OpenSpec.upto fnExactIsDeskSpec)

/-- 'laws.FnExactDoesFit', WHERE WHAT IT READS IS OF BULK AT MOST 1048576: true; the input reads as it did. -/
def fnExactDoesFitUptoRow : OpenClaim := { program := "ytlkommjeflojjaa", sum := "41064bf1ddda12f0fe4aff9f09689116a449c08f5e1f236493942b2f713f7b13", func := "loop.example/g01369/laws.FnExactDoesFit", spec := "fnExactDoesFit", unfollowed := true, recurses := true, apart := false, narrowed := true }
def FnExactDoesFitUptoSaid : Prop := fnExactDoesFitUptoRow.holds Try.pinned (OpenSpec.upto fnExactDoesFitSpec)

end Rows
end Go.Proofs.Ytlkommjeflojjaa
