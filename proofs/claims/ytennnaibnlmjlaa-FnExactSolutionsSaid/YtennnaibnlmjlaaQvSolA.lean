/- Chapter 9 (puzzles): all solutions. -/
import Derived.Test.YtennnaibnlmjlaaQvSolV
import Derived.Test.YtennnaibnlmjlaaV0
import Derived.Test.YtennnaibnlmjlaaV13
import Derived.Test.YtennnaibnlmjlaaV15
import Derived.Test.YtennnaibnlmjlaaV7
namespace Go.Proofs.Ytennnaibnlmjlaa.Q
open Go.RowKit Go.Proofs.Ytennnaibnlmjlaa.V Go.Proofs.YtennnaibnlmjlaaW.PrintWords Go.Proofs.YtennnaibnlmjlaaW.PrintLast
set_option linter.unusedSimpArgs false

theorem Solutions_both (p : Int) (cl : List S55) : ∃ R : List (List Int) × Bool, R.1.length ≤ 1000000 ∧ (∀ x ∈ R.1, x.length ≤ 1000) ∧ Big (fun k => spec_Solutions.f k p cl) R ∧ Big (fun k => impl_Solutions.f k p cl) R := by
  have a := pzGood_at p cl
  have b := Solutions2_at p cl
  unfold spec_Solutions.f
  cases h : puz p cl
  · rw [h] at a b
    simp only [Bool.false_eq_true, if_false] at b
    exact ⟨([], false), by simp, by simp, Big.bind a (by simp only [Bool.false_eq_true, if_false]; exact Big.some_ _), b⟩
  · rw [h] at a b
    obtain ⟨hp, hl, hg⟩ := puz_good h
    have hrow := sols_row p hp cl
    have hlen := sols_length p hp cl
    simp only [if_true] at b
    refine ⟨(sols p cl, true), by simp only; omega, fun x hx => ?_, Big.bind a ?_, b⟩
    · have := (hrow x hx).1
      omega
    · simp only [if_true]
      exact Big.bind (pzAll_at p hp cl hg) (Big.some_ _)
end Go.Proofs.Ytennnaibnlmjlaa.Q
