/- The exact law of FirstDesk: the program returns what the reference returns, and what it returns is its own memory. No condition. -/
import Derived.Test.YtlkommjeflojjaaF3
namespace Go.Proofs.Ytlkommjeflojjaa.Pure
open Go.RowKit Go.Proofs.Ytlkommjeflojjaa.F Go.Proofs.YtlkommjeflojjaaW.PrintWords Go.Proofs.YtlkommjeflojjaaW.PrintLast
theorem FnExactFirstDesk : laws_FnExactFirstDesk.Pure := ⟨30, by decide +kernel⟩
end Go.Proofs.Ytlkommjeflojjaa.Pure
