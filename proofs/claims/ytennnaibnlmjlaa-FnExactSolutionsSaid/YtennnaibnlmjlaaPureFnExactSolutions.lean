/- The exact law of Solutions: for all arguments the program returns what the reference returns, its arguments stay as they were, and what it returns is its own memory. No condition. -/
import Derived.Test.YtennnaibnlmjlaaQvPuzH
import Derived.Test.YtennnaibnlmjlaaQvPuzM
import Derived.Test.YtennnaibnlmjlaaQvSolA
import Derived.Test.YtennnaibnlmjlaaQvHarnessSS
import Derived.Test.YtennnaibnlmjlaaV0
import Derived.Test.YtennnaibnlmjlaaV15
namespace Go.Proofs.Ytennnaibnlmjlaa.Pure
open Go.RowKit Go.Proofs.Ytennnaibnlmjlaa.Q Go.Proofs.Ytennnaibnlmjlaa.V Go.Proofs.YtennnaibnlmjlaaW.PrintWords Go.Proofs.YtennnaibnlmjlaaW.PrintLast
set_option linter.unusedSimpArgs false
theorem FnExactSolutions : ∀ (a0_0 : Int) (l0_1 : List (S81)), (Lit.int .i64 a0_0).wf = true → l0_1.length ≤ maxLen → ∃ k, laws_FnExactSolutions.f k a0_0 l0_1 = some true := by
  intro p l _ hm
  by_cases hl : l.length ≤ 1048576
  · have T := toPuzzle_at p l hl
    have hm1 : (l.map cv).length ≤ 1048576 := by rw [List.length_map]; exact hl
    have E := eqPuzzle_self p (l.map cv) (by omega)
    obtain ⟨R, hR, hr, S, I⟩ := Solutions_both p (l.map cv)
    obtain ⟨M, hM, MP⟩ := markPuzzle_at p (l.map cv) hm1
    have hs := sumL_le 1000 R.1 hr
    have hs2 : R.1.length * 1000 ≤ 1000000 * 1000 := Nat.mul_le_mul_right _ hR
    have ER := eqIntSS_self R.1 hR (fun x hx => by have := hr x hx; omega)
    have MR := markIntSS_at R.1 1 (by omega) (by omega)
    have HR := heldIntSS_at R.1 1 (by omega) hR (by omega)
    refine Big.exists_ ?_
    unfold laws_FnExactSolutions.f
    simp only [szPuzzle_small p l hl, Option.bind_some, if_neg (show ¬ 1048576 - (l.length : Int) < 0 by omega)]
    refine Big.bind T ?_
    refine Big.bind S ?_
    refine Big.bind I ?_
    simp only [if_true]
    unfold laws_FnExactSolutions.rest
    refine Big.bind ER ?_
    simp only [if_true]
    refine Big.bind E ?_
    simp only [if_true]
    refine Big.bind MP ?_
    simp only [if_pos hM]
    refine Big.bind MR ?_
    refine Big.bind HR ?_
    simp only [if_pos (show 0 ≤ 1 + (sumL R.1 : Int) ∧ 1 + (sumL R.1 : Int) = 1 + (sumL R.1 : Int) from ⟨by omega, rfl⟩)]
    exact Big.some_ _
  · exact ⟨0, by unfold laws_FnExactSolutions.f; rw [szPuzzle_big p l hl hm]; rfl⟩
end Go.Proofs.Ytennnaibnlmjlaa.Pure
