/- Chapter 9 (puzzles): all solutions of a puzzle, how many there are, and whether there is one alone. -/
import Derived.Test.YtennnaibnlmjlaaQhSol
import Derived.Test.YtennnaibnlmjlaaH0
import Derived.Test.YtennnaibnlmjlaaH15
namespace Go.Proofs.Ytennnaibnlmjlaa.Q
open Go.RowKit Go.Proofs.Ytennnaibnlmjlaa.H Go.Proofs.YtennnaibnlmjlaaW.PrintWords Go.Proofs.YtennnaibnlmjlaaW.PrintLast
set_option linter.unusedSimpArgs false

theorem Solutions_at (p : Int) (cl : List S55) : Big (fun k => impl_Solutions.f k p cl) (if puz p cl = true then (sols p cl, true) else ([], false)) := by
  unfold impl_Solutions.f
  refine Big.bind (IsPuzzle_at p cl) ?_
  cases h : puz p cl
  · simp only [Bool.false_eq_true, if_false]
    exact Big.some_ _
  · obtain ⟨hp, _, hg⟩ := puz_good h
    simp only [if_true]
    unfold impl_Puzzle_all.f
    exact Big.bind (Big.bind (solutions_at p hp cl hg) (Big.some_ _)) (Big.some_ _)
theorem iCount_at (p : Int) (cl : List S55) : Big (fun k => impl_CountSolutions.f k p cl) (if puz p cl = true then (((sols p cl).length : Int), true) else (0, false)) := by
  unfold impl_CountSolutions.f
  refine Big.bind (Solutions_at p cl) ?_
  cases h : puz p cl
  · simp only [Bool.false_eq_true, if_false]
    exact Big.some_ _
  · simp only [if_true]
    exact Big.some_ _
end Go.Proofs.Ytennnaibnlmjlaa.Q
