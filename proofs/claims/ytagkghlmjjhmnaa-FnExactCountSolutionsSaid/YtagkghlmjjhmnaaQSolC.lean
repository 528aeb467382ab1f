/- Chapter 9 (puzzles): all solutions of a puzzle, how many there are, and whether there is one alone. -/
import Derived.Test.YtagkghlmjjhmnaaQSol
import Derived.Test.YtagkghlmjjhmnaaS0
import Derived.Test.YtagkghlmjjhmnaaS12
import Derived.Test.YtagkghlmjjhmnaaS6
namespace Go.Proofs.Ytagkghlmjjhmnaa.Q
open Go.RowKit Go.Proofs.Ytagkghlmjjhmnaa.S Go.Proofs.YtagkghlmjjhmnaaW.PrintWords Go.Proofs.YtagkghlmjjhmnaaW.PrintLast
set_option linter.unusedSimpArgs false

theorem Solutions_at (p : Int) (cl : List S75) : Big (fun k => impl_Solutions.f k p cl) (if puz p cl = true then (sols p cl, true) else ([], false)) := by
  unfold impl_Solutions.f
  refine Big.bind (IsPuzzle_at p cl) ?_
  cases h : puz p cl
  · simp only [Bool.false_eq_true, if_false]
    exact Big.some_ _
  · obtain ⟨hp, _, hg⟩ := puz_good h
    simp only [if_true]
    unfold impl_Puzzle_all.f
    exact Big.bind (Big.bind (solutions_at p hp cl hg) (Big.some_ _)) (Big.some_ _)
theorem sCount_at (p : Int) (cl : List S75) : Big (fun k => spec_CountSolutions.f k p cl) (if puz p cl = true then (((sols p cl).length : Int), true) else (0, false)) := by
  unfold spec_CountSolutions.f
  refine Big.bind (pzGood_at p cl) ?_
  cases h : puz p cl
  · simp only [Bool.false_eq_true, if_false]
    exact Big.some_ _
  · obtain ⟨hp, _, hg⟩ := puz_good h
    simp only [if_true]
    exact Big.bind (pzAll_at p hp cl hg) (Big.some_ _)
theorem iCount_at (p : Int) (cl : List S75) : Big (fun k => impl_CountSolutions.f k p cl) (if puz p cl = true then (((sols p cl).length : Int), true) else (0, false)) := by
  unfold impl_CountSolutions.f
  refine Big.bind (Solutions_at p cl) ?_
  cases h : puz p cl
  · simp only [Bool.false_eq_true, if_false]
    exact Big.some_ _
  · simp only [if_true]
    exact Big.some_ _
theorem CountSolutions_both (p : Int) (cl : List S75) : ∃ R : Int × Bool, Big (fun k => spec_CountSolutions.f k p cl) R ∧ Big (fun k => impl_CountSolutions.f k p cl) R := ⟨_, sCount_at p cl, iCount_at p cl⟩
end Go.Proofs.Ytagkghlmjjhmnaa.Q
