/- Chapter 9 (puzzles): the first solution. -/
import Derived.Test.YtagkghlmjjhmnaaQSolV
import Derived.Test.YtagkghlmjjhmnaaS0
import Derived.Test.YtagkghlmjjhmnaaS22
namespace Go.Proofs.Ytagkghlmjjhmnaa.Q
open Go.RowKit Go.Proofs.Ytagkghlmjjhmnaa.S Go.Proofs.YtagkghlmjjhmnaaW.PrintWords Go.Proofs.YtagkghlmjjhmnaaW.PrintLast
set_option linter.unusedSimpArgs false

theorem FirstSolution_both (p : Int) (cl : List S75) : ∃ R : List Int × Bool, R.1.length ≤ 1048576 ∧ Big (fun k => spec_FirstSolution.f k p cl) R ∧ Big (fun k => impl_FirstSolution.f k p cl) R := by
  unfold spec_FirstSolution.f impl_FirstSolution.f
  have a := pzGood_at p cl
  have b := Solutions2_at p cl
  cases h : puz p cl
  · rw [h] at a b
    refine ⟨([], false), by simp, Big.bind a (by simp only [Bool.false_eq_true, if_false]; exact Big.some_ _), Big.bind b ?_⟩
    simp only [Bool.false_eq_true, if_false]
    exact Big.some_ _
  · rw [h] at a b
    obtain ⟨hp, hl, hg⟩ := puz_good h
    have hrow := sols_row p hp cl
    have hA := pzAll_at p hp cl hg
    simp only [if_true] at b
    generalize hS : sols p cl = S at *
    by_cases h0 : S.length = 0
    · refine ⟨([], false), by simp, Big.bind a ?_, Big.bind b ?_⟩
      · simp only [if_true]
        refine Big.bind hA ?_
        simp only [if_pos (show (S.length : Int) = 0 by omega)]
        exact Big.some_ _
      · simp only [if_true, if_pos (show (S.length : Int) = 0 by omega)]
        exact Big.some_ _
    · have hr := hrow _ (rdS_mem S 0 (by omega) (by omega))
      refine ⟨(rd_L4 S 0, true), by simp only; omega, Big.bind a ?_, Big.bind b ?_⟩
      · simp only [if_true]
        refine Big.bind hA ?_
        simp only [if_neg (show ¬ (S.length : Int) = 0 by omega), if_pos (show (0 : Int) < (S.length : Int) by omega)]
        exact Big.some_ _
      · simp only [if_true, if_neg (show ¬ (S.length : Int) = 0 by omega), if_pos (show (0 : Int) < (S.length : Int) by omega)]
        exact Big.some_ _
end Go.Proofs.Ytagkghlmjjhmnaa.Q
