/- The exact law of ParsePuzzle: for all texts the program returns what the reference returns, and what it returns is its own memory. No condition. -/
import Derived.Test.YtknigfnbhlmlgaaDoorQoParP
import Derived.Test.YtknigfnbhlmlgaaDoorQoPuzA
import Derived.Test.YtknigfnbhlmlgaaDoorO14
namespace Go.Proofs.YtknigfnbhlmlgaaDoor.Pure
open Go.RowKit Go.Proofs.YtknigfnbhlmlgaaDoor.Q Go.Proofs.YtknigfnbhlmlgaaDoor.O Go.Proofs.YtknigfnbhlmlgaaDoorW.PrintWords Go.Proofs.YtknigfnbhlmlgaaDoorW.PrintLast
set_option linter.unusedSimpArgs false
set_option linter.unusedVariables false
theorem FnExactParsePuzzle : ∀ (a0 : ByteArray), a0.size ≤ maxLen → ∃ k, laws_FnExactParsePuzzle.f k a0 = some true := by
  intro a _
  by_cases ha : (a.size : Int) > 1048576
  · exact ⟨0, by unfold laws_FnExactParsePuzzle.f; simp only [if_pos ha]⟩
  · obtain ⟨R, hR, S, I⟩ := ParsePuzzle_both a (by omega)
    have ER := eqPuzzle_self R.1 R.2.1 (by omega)
    obtain ⟨MR, HR0⟩ := markPuzzle_held R.1 R.2.1 hR
    have HR := HR0 R.1
    have nR : ¬ (1 + 3 * (R.2.1.length : Int) < 0) := by omega
    refine Big.exists_ ?_
    unfold laws_FnExactParsePuzzle.f
    repeat' first
      | exact Big.some_ _
      | refine Big.bind ER ?_
      | refine Big.bind MR ?_
      | refine Big.bind HR ?_
      | refine Big.bind S ?_
      | refine Big.bind I ?_
      | (simp only [if_true, if_false, eq_self, bne_self_eq_false, Bool.false_eq_true, ite_self, if_neg ha, if_neg nR])
      | (refine Big.succ ?_; simp only [laws_FnExactParsePuzzle.j0, laws_FnExactParsePuzzle.j1])
end Go.Proofs.YtknigfnbhlmlgaaDoor.Pure
