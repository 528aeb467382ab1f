/- The exact law of BestClue: for all arguments the program returns what the reference returns, its arguments stay as they were, and what it returns is its own memory. No condition. -/
import Derived.Test.YtagkghlmjjhmnaaS17
import Derived.Test.YtagkghlmjjhmnaaQPuzH
import Derived.Test.YtagkghlmjjhmnaaQSolB
namespace Go.Proofs.Ytagkghlmjjhmnaa.Pure
open Go.RowKit Go.Proofs.Ytagkghlmjjhmnaa.S Go.Proofs.Ytagkghlmjjhmnaa.Q Go.Proofs.YtagkghlmjjhmnaaW.PrintWords Go.Proofs.YtagkghlmjjhmnaaW.PrintLast
set_option linter.unusedSimpArgs false
set_option linter.unusedVariables false

theorem FnExactBestClue : ∀ (a0_0 : Int) (l0_1 : List (S107)), (Lit.int .i64 a0_0).wf = true → l0_1.length ≤ maxLen → ∃ k, laws_FnExactBestClue.f k a0_0 l0_1 = some true := by
  intro p l _ hm
  by_cases hl : l.length ≤ 1048576
  · have T := toPuzzle_at p l hl
    have E := eqPuzzle_self p (l.map cv) (by rw [List.length_map]; omega)
    obtain ⟨R, S, I⟩ := BestClue_both p (l.map cv)
    refine Big.exists_ ?_
    unfold laws_FnExactBestClue.f
    simp only [szPuzzle_small p l hl, Option.bind_some, if_neg (show ¬ 1048576 - (l.length : Int) < 0 by omega)]
    repeat' first
      | exact Big.some_ _
      | refine Big.bind T ?_
      | refine Big.bind E ?_
      | refine Big.bind S ?_
      | refine Big.bind I ?_
      | (simp only [if_true, if_false, eq_self, bne_self_eq_false, Bool.false_eq_true])
      | (refine Big.succ ?_; simp only [laws_FnExactBestClue.j0])
  · exact ⟨0, by unfold laws_FnExactBestClue.f; rw [szPuzzle_big p l hl hm]; rfl⟩
end Go.Proofs.Ytagkghlmjjhmnaa.Pure
