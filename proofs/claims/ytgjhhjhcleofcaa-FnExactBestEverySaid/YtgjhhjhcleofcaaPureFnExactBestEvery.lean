/- The exact law of BestEvery: for all arguments the program returns what the reference returns, its arguments stay as they were, and what it returns is its own memory. No condition. -/
import Derived.Test.YtgjhhjhcleofcaaX24
import Derived.Test.YtgjhhjhcleofcaaQR2
namespace Go.Proofs.Ytgjhhjhcleofcaa.Pure
open Go.RowKit Go.Proofs.Ytgjhhjhcleofcaa.X Go.Proofs.Ytgjhhjhcleofcaa.Q Go.Proofs.YtgjhhjhcleofcaaW.PrintWords Go.Proofs.YtgjhhjhcleofcaaW.PrintLast
set_option linter.unusedSimpArgs false
set_option linter.unusedVariables false

theorem FnExactBestEvery : laws_FnExactBestEvery.Pure := by
  intro l y z
  intros
  by_cases hl : (l.length : Int) > 1048576
  · exact ⟨0, by unfold laws_FnExactBestEvery.f; simp only [if_pos hl]⟩
  · skip
    obtain ⟨R, S, I⟩ := BestEvery_both l y z (by omega)
    have Tl := toIntS_id l (by omega)
    have El := eqIntS_self l (by omega)
    have Ml := markIntS_at l 1 (by omega) (by omega)
    have nl : ¬ (1 + (l.length : Int) < 0) := by omega
    refine Big.exists_ ?_
    unfold laws_FnExactBestEvery.f
    repeat' first
      | exact Big.some_ _
      | refine Big.bind S ?_
      | refine Big.bind I ?_
      | refine Big.bind Tl ?_
      | refine Big.bind El ?_
      | refine Big.bind Ml ?_
      | (simp only [if_true, if_false, eq_self, bne_self_eq_false, Bool.false_eq_true, ite_self, if_neg hl, if_neg nl])
      | (refine Big.succ ?_; simp only [laws_FnExactBestEvery.j0])
end Go.Proofs.Ytgjhhjhcleofcaa.Pure
