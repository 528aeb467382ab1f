/- Chapter 9 (puzzles): all solutions of a puzzle, and one of them. -/
import Derived.Test.YtennnaibnlmjlaaQvSol
import Derived.Test.YtennnaibnlmjlaaQvRdS
import Derived.Test.YtennnaibnlmjlaaV0
import Derived.Test.YtennnaibnlmjlaaV13
namespace Go.Proofs.Ytennnaibnlmjlaa.Q
open Go.RowKit Go.Proofs.Ytennnaibnlmjlaa.V Go.Proofs.YtennnaibnlmjlaaW.PrintWords Go.Proofs.YtennnaibnlmjlaaW.PrintLast
set_option linter.unusedSimpArgs false

theorem Solutions2_at (p : Int) (cl : List S55) : Big (fun k => impl_Solutions.f k p cl) (if puz p cl = true then (sols p cl, true) else ([], false)) := by
  unfold impl_Solutions.f
  refine Big.bind (IsPuzzle_at p cl) ?_
  cases h : puz p cl
  · simp only [Bool.false_eq_true, if_false]
    exact Big.some_ _
  · obtain ⟨hp, _, hg⟩ := puz_good h
    simp only [if_true]
    unfold impl_Puzzle_all.f
    exact Big.bind (Big.bind (solutions_at p hp cl hg) (Big.some_ _)) (Big.some_ _)
end Go.Proofs.Ytennnaibnlmjlaa.Q
