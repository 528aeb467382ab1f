/- Chapter 9 (puzzles): is there one solution alone? -/
import Derived.Test.YtagkghlmjjhmnaaQSolC
import Derived.Test.YtagkghlmjjhmnaaS0
import Derived.Test.YtagkghlmjjhmnaaS13
namespace Go.Proofs.Ytagkghlmjjhmnaa.Q
open Go.RowKit Go.Proofs.Ytagkghlmjjhmnaa.S Go.Proofs.YtagkghlmjjhmnaaW.PrintWords Go.Proofs.YtagkghlmjjhmnaaW.PrintLast
set_option linter.unusedSimpArgs false

theorem pzSolved_at (p : Int) (hp : 2 ≤ p ∧ p ≤ 3) (cl : List S75) (hg : good p cl) : Big (fun k => spec_pzSolved.f k p cl) (((sols p cl).length : Int) == 1) := by
  unfold spec_pzSolved.f
  exact Big.bind (pzAll_at p hp cl hg) (Big.some_ _)
theorem sSolved_at (p : Int) (cl : List S75) : Big (fun k => spec_IsSolved.f k p cl) (if puz p cl = true then (((sols p cl).length : Int) == 1, true) else (false, false)) := by
  unfold spec_IsSolved.f
  refine Big.bind (pzGood_at p cl) ?_
  cases h : puz p cl
  · simp only [Bool.false_eq_true, if_false]
    exact Big.some_ _
  · obtain ⟨hp, _, hg⟩ := puz_good h
    simp only [if_true]
    exact Big.bind (pzSolved_at p hp cl hg) (Big.some_ _)
theorem iSolved_at (p : Int) (cl : List S75) : Big (fun k => impl_IsSolved.f k p cl) (if puz p cl = true then (((sols p cl).length : Int) == 1, true) else (false, false)) := by
  unfold impl_IsSolved.f
  refine Big.bind (iCount_at p cl) ?_
  cases h : puz p cl
  · simp only [Bool.false_eq_true, if_false]
    exact Big.some_ _
  · simp only [if_true]
    exact Big.some_ _
theorem IsSolved_both (p : Int) (cl : List S75) : ∃ R : Bool × Bool, Big (fun k => spec_IsSolved.f k p cl) R ∧ Big (fun k => impl_IsSolved.f k p cl) R := ⟨_, sSolved_at p cl, iSolved_at p cl⟩
end Go.Proofs.Ytagkghlmjjhmnaa.Q
