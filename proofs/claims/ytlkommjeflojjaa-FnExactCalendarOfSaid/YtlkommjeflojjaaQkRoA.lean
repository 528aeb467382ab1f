/- Births, a span and a step: what the reference's test answers. Condition: lengths that fit. -/
import Derived.Test.YtlkommjeflojjaaQkRound
import Derived.Test.YtlkommjeflojjaaK2
namespace Go.Proofs.Ytlkommjeflojjaa.Q
open Go.RowKit Go.Proofs.Ytlkommjeflojjaa.K Go.Proofs.YtlkommjeflojjaaW.PrintWords Go.Proofs.YtlkommjeflojjaaW.PrintLast

theorem roAll_at (l : List Int) (f t e : Int) (hl : l.length ≤ 1048576) : Big (fun k => spec_roAll.f k l f t e) (born l && span f t && inR e 1 100) := by
  unfold spec_roAll.f
  refine Big.bind (roBorn_at l hl) ?_
  simp only [v_roSpan, v_roEvery, Option.bind_some]
  refine Big.of ?_
  cases born l <;> cases span f t <;> simp
end Go.Proofs.Ytlkommjeflojjaa.Q
