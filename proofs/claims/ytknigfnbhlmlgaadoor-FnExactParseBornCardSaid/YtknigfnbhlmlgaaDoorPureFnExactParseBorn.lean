/- The exact law of ParseBorn: for all texts the program returns what the reference returns, and what it returns is its own memory. No condition. -/
import Derived.Test.YtknigfnbhlmlgaaDoorQpParB
import Derived.Test.YtknigfnbhlmlgaaDoorQpHarness
import Derived.Test.YtknigfnbhlmlgaaDoorP6
namespace Go.Proofs.YtknigfnbhlmlgaaDoor.Pure
open Go.RowKit Go.Proofs.YtknigfnbhlmlgaaDoor.Q Go.Proofs.YtknigfnbhlmlgaaDoor.P Go.Proofs.YtknigfnbhlmlgaaDoorW.PrintWords Go.Proofs.YtknigfnbhlmlgaaDoorW.PrintLast
set_option linter.unusedSimpArgs false
set_option linter.unusedVariables false
theorem FnExactParseBorn : ∀ (a0 : ByteArray), a0.size ≤ maxLen → ∃ k, laws_FnExactParseBorn.f k a0 = some true := by
  intro a _
  by_cases ha : (a.size : Int) > 1048576
  · exact ⟨0, by unfold laws_FnExactParseBorn.f; simp only [if_pos ha]⟩
  · obtain ⟨R, hR, S, I⟩ := ParseBorn_both a (by omega)
    have ER := eqIntS_self R.1 (by omega)
    have MR := markIntS_at R.1 1 (by omega) (by omega)
    have HR := heldIntS_at R.1.length 1 (by omega) (by omega)
    have nR : ¬ (1 + (R.1.length : Int) < 0) := by omega
    refine Big.exists_ ?_
    unfold laws_FnExactParseBorn.f
    repeat' first
      | exact Big.some_ _
      | refine Big.bind ER ?_
      | refine Big.bind MR ?_
      | refine Big.bind HR ?_
      | refine Big.bind S ?_
      | refine Big.bind I ?_
      | (simp only [if_true, if_false, eq_self, bne_self_eq_false, Bool.false_eq_true, ite_self, if_neg ha, if_neg nR])
      | (refine Big.succ ?_; simp only [laws_FnExactParseBorn.j0, laws_FnExactParseBorn.j1])
end Go.Proofs.YtknigfnbhlmlgaaDoor.Pure
