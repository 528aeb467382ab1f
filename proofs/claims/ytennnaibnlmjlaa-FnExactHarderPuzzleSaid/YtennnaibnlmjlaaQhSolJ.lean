/- Chapter 9 (puzzles): is there one solution alone? -/
import Derived.Test.YtennnaibnlmjlaaQhSolD
import Derived.Test.YtennnaibnlmjlaaH0
import Derived.Test.YtennnaibnlmjlaaH15
import Derived.Test.YtennnaibnlmjlaaH8
namespace Go.Proofs.Ytennnaibnlmjlaa.Q
open Go.RowKit Go.Proofs.Ytennnaibnlmjlaa.H Go.Proofs.YtennnaibnlmjlaaW.PrintWords Go.Proofs.YtennnaibnlmjlaaW.PrintLast
set_option linter.unusedSimpArgs false

theorem pzSolved_at (p : Int) (hp : 2 ≤ p ∧ p ≤ 3) (cl : List S55) (hg : good p cl) : Big (fun k => spec_pzSolved.f k p cl) (((sols p cl).length : Int) == 1) := by
  unfold spec_pzSolved.f
  exact Big.bind (pzAll_at p hp cl hg) (Big.some_ _)
theorem iSolved_at (p : Int) (cl : List S55) : Big (fun k => impl_IsSolved.f k p cl) (if puz p cl = true then (((sols p cl).length : Int) == 1, true) else (false, false)) := by
  unfold impl_IsSolved.f
  refine Big.bind (iCount_at p cl) ?_
  cases h : puz p cl
  · simp only [Bool.false_eq_true, if_false]
    exact Big.some_ _
  · simp only [if_true]
    exact Big.some_ _
end Go.Proofs.Ytennnaibnlmjlaa.Q
