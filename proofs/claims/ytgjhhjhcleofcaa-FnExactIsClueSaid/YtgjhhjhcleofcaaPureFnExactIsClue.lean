/- The exact law of IsClue: for all arguments the program returns what the reference returns. No condition. -/
import Derived.Test.YtgjhhjhcleofcaaQClue
import Derived.Test.YtgjhhjhcleofcaaX3
import Derived.Test.YtgjhhjhcleofcaaX5
namespace Go.Proofs.Ytgjhhjhcleofcaa.Pure
open Go.RowKit Go.Proofs.Ytgjhhjhcleofcaa.Q Go.Proofs.Ytgjhhjhcleofcaa.X Go.Proofs.YtgjhhjhcleofcaaW.PrintWords Go.Proofs.YtgjhhjhcleofcaaW.PrintLast
set_option linter.unusedSimpArgs false
theorem FnExactIsClue : ∀ (a0 : Int) (a1_0 : Int) (a1_1 : Int) (a1_2 : Int), (Lit.int .i64 a0).wf = true → (Lit.int .i64 a1_0).wf = true → (Lit.int .i64 a1_1).wf = true → (Lit.int .i64 a1_2).wf = true → ∃ k, laws_FnExactIsClue.f k a0 a1_0 a1_1 a1_2 = some true := by
  intro p K A B _ _ _ _
  have S := sIsClue_at p K A B
  have I := IsClue_at p K A B
  refine Big.exists_ ?_
  unfold laws_FnExactIsClue.f
  simp only [laws_toClue.f, Option.bind_some]
  refine Big.bind S ?_
  refine Big.bind I ?_
  simp only [bne_self_eq_false, Bool.false_eq_true, if_false]
  exact Big.some_ _
end Go.Proofs.Ytgjhhjhcleofcaa.Pure
