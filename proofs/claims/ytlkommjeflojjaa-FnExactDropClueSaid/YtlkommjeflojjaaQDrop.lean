/- Chapter 9 (puzzles): a puzzle without a clue. -/
import Derived.Test.YtlkommjeflojjaaQWo
import Derived.Test.YtlkommjeflojjaaB0
import Derived.Test.YtlkommjeflojjaaB6
import Derived.Test.YtlkommjeflojjaaB8
namespace Go.Proofs.Ytlkommjeflojjaa.Q
open Go.RowKit Go.Proofs.Ytlkommjeflojjaa.B Go.Proofs.YtlkommjeflojjaaW.PrintWords Go.Proofs.YtlkommjeflojjaaW.PrintLast
set_option linter.unusedSimpArgs false

theorem DropClue_both (p : Int) (cl : List S62) (a : Int) : ∃ R : Int × List S62 × Bool, R.2.1.length ≤ 1048576 ∧ Big (fun k => spec_DropClue.f k p cl a) R ∧ Big (fun k => impl_DropClue.f k p cl a) R := by
  have x := pzGood_at p cl
  have y := IsPuzzle_at p cl
  unfold spec_DropClue.f impl_DropClue.f
  cases h : puz p cl
  · rw [h] at x y
    refine ⟨(0, [], false), by simp, Big.bind x ?_, Big.bind y ?_⟩
    · simp only [Bool.false_eq_true, if_false]
      exact Big.some_ _
    · simp only [Bool.false_eq_true, if_false]
      exact Big.some_ _
  · rw [h] at x y
    have h' := h
    unfold puz at h'
    simp only [Bool.and_eq_true, decide_eq_true_eq] at h'
    obtain ⟨hp, hl6, _⟩ := h'
    have hw : wrap64 ((cl.length : Int) - 1) = (cl.length : Int) - 1 := w64 (by omega) (by omega)
    cases hc : inR a 0 ((cl.length : Int) - 1)
    · refine ⟨(0, [], false), by simp, Big.bind x ?_, Big.bind y ?_⟩
      · simp only [if_true, hw, v_l1In, hc, Option.bind_some, Bool.false_eq_true, if_false]
        exact Big.some_ _
      · simp only [if_true, hw, v_between, hc, Option.bind_some, Bool.false_eq_true, if_false]
        exact Big.some_ _
    · obtain ⟨i, rfl⟩ : ∃ i : Nat, a = (i : Int) := ⟨a.toNat, by have := inR_iff.mp hc; omega⟩
      have hi := inR_iff.mp hc
      obtain ⟨e1, e2⟩ := without_both cl i (by omega) hl6
      refine ⟨(p, cl.eraseIdx i, true), by have := List.length_eraseIdx_le cl i; simp only; omega, Big.bind x ?_, Big.bind y ?_⟩
      · simp only [if_true, hw, v_l1In, hc, e1, Option.bind_some]
        exact Big.some_ _
      · simp only [if_true, hw, v_between, hc, e2, Option.bind_some]
        exact Big.some_ _
end Go.Proofs.Ytlkommjeflojjaa.Q
