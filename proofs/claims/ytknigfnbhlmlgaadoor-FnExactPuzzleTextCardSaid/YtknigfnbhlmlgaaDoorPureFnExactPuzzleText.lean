/- The exact law of PuzzleText: for all arguments the program returns what the reference returns. No condition. -/
import Derived.Test.YtknigfnbhlmlgaaDoorQyPuzT
import Derived.Test.YtknigfnbhlmlgaaDoorY0
import Derived.Test.YtknigfnbhlmlgaaDoorY9
namespace Go.Proofs.YtknigfnbhlmlgaaDoor.Pure
open Go.RowKit Go.Proofs.YtknigfnbhlmlgaaDoor.Q Go.Proofs.YtknigfnbhlmlgaaDoor.Y Go.Proofs.YtknigfnbhlmlgaaDoorW.PrintWords Go.Proofs.YtknigfnbhlmlgaaDoorW.PrintLast
set_option linter.unusedSimpArgs false
theorem FnExactPuzzleText : ∀ (a0_0 : Int) (l0_1 : List (S99)), (Lit.int .i64 a0_0).wf = true → l0_1.length ≤ maxLen → ∃ k, laws_FnExactPuzzleText.f k a0_0 l0_1 = some true := by
  intro p l _ hm
  by_cases hl : l.length ≤ 1048576
  · have T := toPuzzle_at p l hl
    have S := PuzzleText_spec p (l.map cv)
    have I := PuzzleText_impl p (l.map cv)
    have E := eqPuzzle_self p (l.map cv) (by rw [List.length_map]; omega)
    refine Big.exists_ ?_
    unfold laws_FnExactPuzzleText.f
    simp only [szPuzzle_small p l hl, Option.bind_some, if_neg (show ¬ 1048576 - (l.length : Int) < 0 by omega)]
    refine Big.bind T ?_
    refine Big.bind S ?_
    refine Big.bind T ?_
    refine Big.bind I ?_
    refine Big.pos rfl ?_
    rw [bne_self_eq_false]
    refine Big.succ ?_
    unfold laws_FnExactPuzzleText.j0
    refine Big.neg (by decide) ?_
    refine Big.bind T ?_
    refine Big.bind E ?_
    exact Big.pos rfl (Big.some_ _)
  · exact ⟨0, by unfold laws_FnExactPuzzleText.f; rw [szPuzzle_big p l hl hm]; rfl⟩
end Go.Proofs.YtknigfnbhlmlgaaDoor.Pure
