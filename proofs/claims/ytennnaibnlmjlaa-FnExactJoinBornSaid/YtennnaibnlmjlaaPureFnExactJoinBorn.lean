/- The exact law of JoinBorn: for all arguments the program returns what the reference returns, its arguments stay as they were, and what it returns is its own memory. No condition. -/
import Derived.Test.YtennnaibnlmjlaaJ5
import Derived.Test.YtennnaibnlmjlaaQjBig
import Derived.Test.YtennnaibnlmjlaaQjHarness
import Derived.Test.YtennnaibnlmjlaaQjHarnessE
import Derived.Test.YtennnaibnlmjlaaQjJoin
import Derived.Test.YtennnaibnlmjlaaQjHarnessT
namespace Go.Proofs.Ytennnaibnlmjlaa.Pure
open Go.RowKit Go.Proofs.Ytennnaibnlmjlaa.J Go.Proofs.Ytennnaibnlmjlaa.Q Go.Proofs.YtennnaibnlmjlaaW.PrintWords Go.Proofs.YtennnaibnlmjlaaW.PrintLast
set_option linter.unusedSimpArgs false
set_option linter.unusedVariables false

theorem FnExactJoinBorn : laws_FnExactJoinBorn.Pure := by
  intro a b
  intros
  by_cases ha : (a.length : Int) > 1048576
  · exact ⟨0, by unfold laws_FnExactJoinBorn.f; simp only [if_pos ha]⟩
  · skip
    by_cases hb : (b.length : Int) > 1048576
    · exact ⟨0, by unfold laws_FnExactJoinBorn.f; simp only [if_neg ha, if_pos hb]⟩
    · skip
      obtain ⟨R, hR, S, I⟩ := JoinBorn_both a b (by omega) (by omega)
      have ER := eqIntS_self R.1 (by omega)
      have MR := markIntS_at R.1 1 (by omega) (by omega)
      have HR := heldIntS_at R.1.length 1 (by omega) (by omega)
      have nR : ¬ (1 + (R.1.length : Int) < 0) := by omega
      have Ta := toIntS_id a (by omega)
      have Ea := eqIntS_self a (by omega)
      have Ma := markIntS_at a 1 (by omega) (by omega)
      have na : ¬ (1 + (a.length : Int) < 0) := by omega
      have Tb := toIntS_id b (by omega)
      have Eb := eqIntS_self b (by omega)
      have Mb := markIntS_at b (1 + (a.length : Int)) (by omega) (by omega)
      have nb : ¬ ((1 + (a.length : Int)) + (b.length : Int) < 0) := by omega
      refine Big.exists_ ?_
      unfold laws_FnExactJoinBorn.f
      repeat' first
        | exact Big.some_ _
        | refine Big.bind ER ?_
        | refine Big.bind MR ?_
        | refine Big.bind HR ?_
        | refine Big.bind S ?_
        | refine Big.bind I ?_
        | refine Big.bind Ta ?_
        | refine Big.bind Ea ?_
        | refine Big.bind Ma ?_
        | refine Big.bind Tb ?_
        | refine Big.bind Eb ?_
        | refine Big.bind Mb ?_
        | (simp only [if_true, if_false, eq_self, bne_self_eq_false, Bool.false_eq_true, ite_self, if_neg ha, if_neg hb, if_neg nR, if_neg na, if_neg nb])
        | (refine Big.succ ?_; simp only [laws_FnExactJoinBorn.j0, laws_FnExactJoinBorn.j1, laws_FnExactJoinBorn.j2])
end Go.Proofs.Ytennnaibnlmjlaa.Pure
