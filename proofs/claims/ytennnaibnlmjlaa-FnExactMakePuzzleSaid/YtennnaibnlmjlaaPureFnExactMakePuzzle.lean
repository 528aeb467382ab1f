/- The exact law of MakePuzzle: for all arguments the program returns what the reference returns, its arguments stay as they were, and what it returns is its own memory. No condition. -/
import Derived.Test.YtennnaibnlmjlaaM11
import Derived.Test.YtennnaibnlmjlaaQmBig
import Derived.Test.YtennnaibnlmjlaaQmHarnessM
import Derived.Test.YtennnaibnlmjlaaQmHarnessE
import Derived.Test.YtennnaibnlmjlaaQmPuzN
import Derived.Test.YtennnaibnlmjlaaQmMake
import Derived.Test.YtennnaibnlmjlaaQmHarnessT
namespace Go.Proofs.Ytennnaibnlmjlaa.Pure
open Go.RowKit Go.Proofs.Ytennnaibnlmjlaa.M Go.Proofs.Ytennnaibnlmjlaa.Q Go.Proofs.YtennnaibnlmjlaaW.PrintWords Go.Proofs.YtennnaibnlmjlaaW.PrintLast
set_option linter.unusedSimpArgs false
set_option linter.unusedVariables false

theorem FnExactMakePuzzle : laws_FnExactMakePuzzle.Pure := by
  intro l a b
  intros
  by_cases hl : (l.length : Int) > 1048576
  · exact ⟨0, by unfold laws_FnExactMakePuzzle.f; simp only [if_pos hl]⟩
  · skip
    obtain ⟨R, hR, S, I⟩ := MakePuzzle_both l a b (by omega)
    have ER := eqPuzzle_self R.1 R.2.1 (by omega)
    obtain ⟨MR, HRA⟩ := markPuzzle_held R.1 R.2.1 hR
    have HR := HRA R.1
    have nR : ¬ (1 + 3 * (R.2.1.length : Int) < 0) := by omega
    have Tl := toIntS_id l (by omega)
    have El := eqIntS_self l (by omega)
    have Ml := markIntS_at l 1 (by omega) (by omega)
    have nl : ¬ (1 + (l.length : Int) < 0) := by omega
    refine Big.exists_ ?_
    unfold laws_FnExactMakePuzzle.f
    repeat' first
      | exact Big.some_ _
      | refine Big.bind ER ?_
      | refine Big.bind MR ?_
      | refine Big.bind HR ?_
      | refine Big.bind S ?_
      | refine Big.bind I ?_
      | refine Big.bind Tl ?_
      | refine Big.bind El ?_
      | refine Big.bind Ml ?_
      | (simp only [if_true, if_false, eq_self, bne_self_eq_false, Bool.false_eq_true, ite_self, if_neg hl, if_neg nR, if_neg nl])
      | (refine Big.succ ?_; simp only [laws_FnExactMakePuzzle.j0, laws_FnExactMakePuzzle.j1, laws_FnExactMakePuzzle.j2])
end Go.Proofs.Ytennnaibnlmjlaa.Pure
