/- The exact law of LongestQuiet: for all arguments the program returns what the reference returns, its arguments stay as they were, and what it returns is its own memory. No condition. -/
import Derived.Test.YtlkommjeflojjaaX22
import Derived.Test.YtlkommjeflojjaaQR4
namespace Go.Proofs.Ytlkommjeflojjaa.Pure
open Go.RowKit Go.Proofs.Ytlkommjeflojjaa.X Go.Proofs.Ytlkommjeflojjaa.Q Go.Proofs.YtlkommjeflojjaaW.PrintWords Go.Proofs.YtlkommjeflojjaaW.PrintLast
set_option linter.unusedSimpArgs false
set_option linter.unusedVariables false

theorem FnExactLongestQuiet : laws_FnExactLongestQuiet.Pure := by
  intro l f t e
  intros
  by_cases hl : (l.length : Int) > 1048576
  · exact ⟨0, by unfold laws_FnExactLongestQuiet.f; simp only [if_pos hl]⟩
  · skip
    obtain ⟨R, S, I⟩ := LongestQuiet_both l f t e (by omega)
    have Tl := toIntS_id l (by omega)
    have El := eqIntS_self l (by omega)
    have Ml := markIntS_at l 1 (by omega) (by omega)
    have nl : ¬ (1 + (l.length : Int) < 0) := by omega
    refine Big.exists_ ?_
    unfold laws_FnExactLongestQuiet.f
    repeat' first
      | exact Big.some_ _
      | refine Big.bind S ?_
      | refine Big.bind I ?_
      | refine Big.bind Tl ?_
      | refine Big.bind El ?_
      | refine Big.bind Ml ?_
      | (simp only [if_true, if_false, eq_self, bne_self_eq_false, Bool.false_eq_true, ite_self, if_neg hl, if_neg nl])
      | (refine Big.succ ?_; simp only [laws_FnExactLongestQuiet.j0])
end Go.Proofs.Ytlkommjeflojjaa.Pure
