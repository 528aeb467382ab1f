/- The exact law of DoesFit: for all arguments the program returns what the reference returns, and its arguments stay as they were. No condition. -/
import Derived.Test.YtlkommjeflojjaaQHid2
import Derived.Test.YtlkommjeflojjaaD1
import Derived.Test.YtlkommjeflojjaaD6
namespace Go.Proofs.Ytlkommjeflojjaa.Pure
open Go.RowKit Go.Proofs.Ytlkommjeflojjaa.Q Go.Proofs.Ytlkommjeflojjaa.D Go.Proofs.YtlkommjeflojjaaW.PrintWords Go.Proofs.YtlkommjeflojjaaW.PrintLast
set_option linter.unusedSimpArgs false
theorem FnExactDoesFit : ∀ (a0_0 : Int) (a0_1 : Int) (a0_2 : Int) (l1 : List Int), (Lit.int .i64 a0_0).wf = true → (Lit.int .i64 a0_1).wf = true → (Lit.int .i64 a0_2).wf = true → l1.length ≤ maxLen → (∀ p ∈ l1, (Lit.int .i64 p).wf = true) → ∃ k, laws_FnExactDoesFit.f k a0_0 a0_1 a0_2 l1 = some true := by
  intro K A B l _ _ _ _ _
  by_cases hl : (l.length : Int) > 1048576
  · exact ⟨0, by unfold laws_FnExactDoesFit.f; rw [if_pos hl]⟩
  · obtain ⟨R, S, I⟩ := DoesFit_both K A B l (by omega)
    have T := toIntS_id l (by omega)
    have E := eqIntS_self l (by omega)
    refine Big.exists_ ?_
    unfold laws_FnExactDoesFit.f
    simp only [if_neg hl, laws_toClue.f, Option.bind_some]
    refine Big.bind T ?_
    refine Big.bind S ?_
    refine Big.bind T ?_
    refine Big.bind I ?_
    simp only [bne_self_eq_false, Bool.false_eq_true, if_false]
    refine Big.succ ?_
    simp only [laws_FnExactDoesFit.j0, Bool.false_eq_true, if_false]
    refine Big.bind T ?_
    refine Big.bind E ?_
    simp only [if_true]
    exact Big.some_ _
end Go.Proofs.Ytlkommjeflojjaa.Pure
