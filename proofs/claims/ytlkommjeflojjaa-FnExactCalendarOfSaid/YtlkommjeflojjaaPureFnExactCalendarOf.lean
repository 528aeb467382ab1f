/- The exact law of CalendarOf: for all arguments the program returns what the reference returns, its arguments stay as they were, and what it returns is its own memory. No condition. -/
import Derived.Test.YtlkommjeflojjaaQkCalS
import Derived.Test.YtlkommjeflojjaaQkHarnessT
import Derived.Test.YtlkommjeflojjaaQkHarnessSS
import Derived.Test.YtlkommjeflojjaaK6
namespace Go.Proofs.Ytlkommjeflojjaa.Pure
open Go.RowKit Go.Proofs.Ytlkommjeflojjaa.Q Go.Proofs.Ytlkommjeflojjaa.K Go.Proofs.YtlkommjeflojjaaW.PrintWords Go.Proofs.YtlkommjeflojjaaW.PrintLast
set_option linter.unusedSimpArgs false
theorem FnExactCalendarOf : ∀ (l0 : List Int) (a1 a2 a3 : Int), (Lit.int .i64 a1).wf = true → (Lit.int .i64 a2).wf = true → (Lit.int .i64 a3).wf = true → l0.length ≤ maxLen → (∀ p ∈ l0, (Lit.int .i64 p).wf = true) → ∃ k, laws_FnExactCalendarOf.f k l0 a1 a2 a3 = some true := by
  intro l f t e _ _ _ _ _
  by_cases hl : (l.length : Int) > 1048576
  · exact ⟨0, by unfold laws_FnExactCalendarOf.f; rw [if_pos hl]⟩
  · have T := toIntS_id l (by omega)
    have E := eqIntS_self l (by omega)
    obtain ⟨R, hR, hr, S, I⟩ := CalendarOf_both l f t e (by omega)
    have MP := markIntS_at l 1 (by omega) (by omega)
    have hs := sumL_le 1000 R.1 hr
    have hs2 : R.1.length * 1000 ≤ 1000000 * 1000 := Nat.mul_le_mul_right _ hR
    have ER := eqIntSS_self R.1 hR (fun x hx => by have := hr x hx; omega)
    have MR := markIntSS_at R.1 1 (by omega) (by omega)
    have HR := heldIntSS_at R.1 1 (by omega) hR (by omega)
    refine Big.exists_ ?_
    unfold laws_FnExactCalendarOf.f
    simp only [if_neg hl]
    refine Big.bind T ?_
    simp only [if_true]
    refine Big.bind S ?_
    refine Big.bind I ?_
    simp only [if_true]
    unfold laws_FnExactCalendarOf.rest
    refine Big.bind ER ?_
    simp only [if_true]
    refine Big.bind E ?_
    simp only [if_true]
    refine Big.bind MP ?_
    simp only [if_pos (show 0 ≤ 1 + (l.length : Int) by omega)]
    refine Big.bind MR ?_
    refine Big.bind HR ?_
    simp only [if_pos (show 0 ≤ 1 + (sumL R.1 : Int) ∧ 1 + (sumL R.1 : Int) = 1 + (sumL R.1 : Int) from ⟨by omega, rfl⟩)]
    exact Big.some_ _
end Go.Proofs.Ytlkommjeflojjaa.Pure
