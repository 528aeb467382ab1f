/- The exact law of Anniversaries: for all arguments the program returns what the reference returns, its arguments stay as they were, and what it returns is its own memory. No condition. -/
import Derived.Test.YtgjhhjhcleofcaaX11
import Derived.Test.YtgjhhjhcleofcaaQR1
namespace Go.Proofs.Ytgjhhjhcleofcaa.Pure
open Go.RowKit Go.Proofs.Ytgjhhjhcleofcaa.X Go.Proofs.Ytgjhhjhcleofcaa.Q Go.Proofs.YtgjhhjhcleofcaaW.PrintWords Go.Proofs.YtgjhhjhcleofcaaW.PrintLast
set_option linter.unusedSimpArgs false
set_option linter.unusedVariables false

theorem FnExactAnniversaries : laws_FnExactAnniversaries.Pure := by
  intro s f t e
  intros
  obtain ⟨R, hR, S, I⟩ := Anniversaries_both s f t e
  have ER := eqIntS_self R.1 (by omega)
  have MR := markIntS_at R.1 1 (by omega) (by omega)
  have HR := heldIntS_at R.1.length 1 (by omega) (by omega)
  have nR : ¬ (1 + (R.1.length : Int) < 0) := by omega
  refine Big.exists_ ?_
  unfold laws_FnExactAnniversaries.f
  repeat' first
    | exact Big.some_ _
    | refine Big.bind ER ?_
    | refine Big.bind MR ?_
    | refine Big.bind HR ?_
    | refine Big.bind S ?_
    | refine Big.bind I ?_
    | (simp only [if_true, if_false, eq_self, bne_self_eq_false, Bool.false_eq_true, ite_self, if_neg nR])
    | (refine Big.succ ?_; simp only [laws_FnExactAnniversaries.j0, laws_FnExactAnniversaries.j1])
end Go.Proofs.Ytgjhhjhcleofcaa.Pure
