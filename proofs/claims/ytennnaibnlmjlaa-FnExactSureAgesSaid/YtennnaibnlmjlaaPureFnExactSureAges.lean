/- The exact law of SureAges: for all arguments the program returns what the reference returns, its arguments stay as they were, and what it returns is its own memory. No condition. -/
import Derived.Test.YtennnaibnlmjlaaU16
import Derived.Test.YtennnaibnlmjlaaQuPuzH
import Derived.Test.YtennnaibnlmjlaaQuPuzM
import Derived.Test.YtennnaibnlmjlaaQuHarness
import Derived.Test.YtennnaibnlmjlaaQuHarnessE
import Derived.Test.YtennnaibnlmjlaaQuSolS
namespace Go.Proofs.Ytennnaibnlmjlaa.Pure
open Go.RowKit Go.Proofs.Ytennnaibnlmjlaa.U Go.Proofs.Ytennnaibnlmjlaa.Q Go.Proofs.YtennnaibnlmjlaaW.PrintWords Go.Proofs.YtennnaibnlmjlaaW.PrintLast
set_option linter.unusedSimpArgs false
set_option linter.unusedVariables false

theorem FnExactSureAges : ∀ (a0_0 : Int) (l0_1 : List (S81)), (Lit.int .i64 a0_0).wf = true → l0_1.length ≤ maxLen → ∃ k, laws_FnExactSureAges.f k a0_0 l0_1 = some true := by
  intro p l _ hm
  by_cases hl : l.length ≤ 1048576
  · have T := toPuzzle_at p l hl
    have E := eqPuzzle_self p (l.map cv) (by rw [List.length_map]; omega)
    obtain ⟨R, hR, S, I⟩ := SureAges_both p (l.map cv)
    obtain ⟨M, hM, MP⟩ := markPuzzle_at p (l.map cv) (by rw [List.length_map]; omega)
    have ER := eqIntS_self R.1 (by omega)
    have MR := markIntS_at R.1 1 (by omega) (by omega)
    have HR := heldIntS_at R.1.length 1 (by omega) (by omega)
    have nR : ¬ (1 + (R.1.length : Int) < 0) := by omega
    have nM : ¬ (M.1 < 0) := by omega
    refine Big.exists_ ?_
    unfold laws_FnExactSureAges.f
    simp only [szPuzzle_small p l hl, Option.bind_some, if_neg (show ¬ 1048576 - (l.length : Int) < 0 by omega)]
    repeat' first
      | exact Big.some_ _
      | refine Big.bind T ?_
      | refine Big.bind E ?_
      | refine Big.bind ER ?_
      | refine Big.bind MR ?_
      | refine Big.bind HR ?_
      | refine Big.bind MP ?_
      | refine Big.bind S ?_
      | refine Big.bind I ?_
      | (simp only [if_true, if_false, eq_self, bne_self_eq_false, Bool.false_eq_true, if_neg nR, if_neg nM])
      | (refine Big.succ ?_; simp only [laws_FnExactSureAges.j0, laws_FnExactSureAges.j1, laws_FnExactSureAges.j2])
  · exact ⟨0, by unfold laws_FnExactSureAges.f; rw [szPuzzle_big p l hl hm]; rfl⟩
end Go.Proofs.Ytennnaibnlmjlaa.Pure
