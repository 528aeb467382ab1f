/- The exact law of AddClue: for all arguments the program returns what the reference returns, its arguments stay as they were, and what it returns is its own memory. No condition. -/
import Derived.Test.YtlkommjeflojjaaQPuzN
import Derived.Test.YtlkommjeflojjaaQAdd
import Derived.Test.YtlkommjeflojjaaA0
import Derived.Test.YtlkommjeflojjaaA8
namespace Go.Proofs.Ytlkommjeflojjaa.Pure
open Go.RowKit Go.Proofs.Ytlkommjeflojjaa.Q Go.Proofs.Ytlkommjeflojjaa.A Go.Proofs.YtlkommjeflojjaaW.PrintWords Go.Proofs.YtlkommjeflojjaaW.PrintLast
set_option linter.unusedSimpArgs false
theorem FnExactAddClue : ∀ (a0_0 : Int) (l0_1 : List (S54)) (a1_0 : Int) (a1_1 : Int) (a1_2 : Int), (Lit.int .i64 a0_0).wf = true → (Lit.int .i64 a1_0).wf = true → (Lit.int .i64 a1_1).wf = true → (Lit.int .i64 a1_2).wf = true → l0_1.length ≤ maxLen → ∃ k, laws_FnExactAddClue.f k a0_0 l0_1 a1_0 a1_1 a1_2 = some true := by
  intro p l K A B _ _ _ _ hm
  by_cases hl : l.length ≤ 1048576
  · have T := toPuzzle_at p l hl
    have hm1 : (l.map cv).length ≤ 1048576 := by rw [List.length_map]; exact hl
    have E := eqPuzzle_self p (l.map cv) (by omega)
    obtain ⟨R, hR, S, I⟩ := AddClue_both p (l.map cv) K A B hm1
    have ER := eqPuzzle_self R.1 R.2.1 (by omega)
    obtain ⟨MP, _⟩ := markPuzzle_held p (l.map cv) hm1
    obtain ⟨MR, HR⟩ := markPuzzle_held R.1 R.2.1 hR
    refine Big.exists_ ?_
    unfold laws_FnExactAddClue.f
    simp only [szPuzzle_small p l hl, Option.bind_some, if_neg (show ¬ 1048576 - (l.length : Int) < 0 by omega)]
    refine Big.bind T ?_
    refine Big.bind S ?_
    refine Big.bind I ?_
    simp only [if_true]
    unfold laws_FnExactAddClue.rest
    refine Big.bind ER ?_
    simp only [if_true]
    refine Big.bind E ?_
    simp only [if_true]
    refine Big.bind MP ?_
    simp only [if_pos (show 0 ≤ 1 + 3 * ((l.map cv).length : Int) by omega)]
    refine Big.bind MR ?_
    refine Big.bind (HR R.1) ?_
    simp only [if_pos (show 0 ≤ 1 + 3 * (R.2.1.length : Int) ∧ 1 + 3 * (R.2.1.length : Int) = 1 + 3 * (R.2.1.length : Int) from ⟨by omega, rfl⟩)]
    exact Big.some_ _
  · exact ⟨0, by unfold laws_FnExactAddClue.f; rw [szPuzzle_big p l hl hm]; rfl⟩
end Go.Proofs.Ytlkommjeflojjaa.Pure
