/- The exact law of IsPuzzle: for all arguments the program returns what the reference returns. No condition. -/
import Derived.Test.YtgjhhjhcleofcaaQPuzH
import Derived.Test.YtgjhhjhcleofcaaY0
import Derived.Test.YtgjhhjhcleofcaaY1
import Derived.Test.YtgjhhjhcleofcaaY3
namespace Go.Proofs.Ytgjhhjhcleofcaa.Pure
open Go.RowKit Go.Proofs.Ytgjhhjhcleofcaa.Q Go.Proofs.Ytgjhhjhcleofcaa.Y Go.Proofs.YtgjhhjhcleofcaaW.PrintWords Go.Proofs.YtgjhhjhcleofcaaW.PrintLast
set_option linter.unusedSimpArgs false
theorem FnExactIsPuzzle : ∀ (a0_0 : Int) (l0_1 : List (S23)), (Lit.int .i64 a0_0).wf = true → l0_1.length ≤ maxLen → ∃ k, laws_FnExactIsPuzzle.f k a0_0 l0_1 = some true := by
  intro p l _ hm
  by_cases hl : l.length ≤ 1048576
  · have T := toPuzzle_at p l hl
    have S : Big (fun k => spec_IsPuzzle.f k p (l.map cv)) (puz p (l.map cv)) := by
      unfold spec_IsPuzzle.f
      exact Big.bind (pzGood_at p (l.map cv)) (Big.some_ _)
    have I := IsPuzzle_at p (l.map cv)
    have E := eqPuzzle_self p (l.map cv) (by rw [List.length_map]; omega)
    refine Big.exists_ ?_
    unfold laws_FnExactIsPuzzle.f
    simp only [szPuzzle_small p l hl, Option.bind_some, if_neg (show ¬ 1048576 - (l.length : Int) < 0 by omega)]
    refine Big.bind T ?_
    refine Big.bind S ?_
    refine Big.bind T ?_
    refine Big.bind I ?_
    simp only [bne_self_eq_false, Bool.false_eq_true, if_false]
    refine Big.bind T ?_
    refine Big.bind E ?_
    simp only [if_true]
    exact Big.some_ _
  · exact ⟨0, by unfold laws_FnExactIsPuzzle.f; rw [szPuzzle_big p l hl hm]; rfl⟩
end Go.Proofs.Ytgjhhjhcleofcaa.Pure
