/- Chapter 9 (puzzles): a puzzle with a clue more. -/
import Derived.Test.YtlkommjeflojjaaQPuzH
import Derived.Test.YtlkommjeflojjaaA0
import Derived.Test.YtlkommjeflojjaaA3
import Derived.Test.YtlkommjeflojjaaA6
namespace Go.Proofs.Ytlkommjeflojjaa.Q
open Go.RowKit Go.Proofs.Ytlkommjeflojjaa.A Go.Proofs.YtlkommjeflojjaaW.PrintWords Go.Proofs.YtlkommjeflojjaaW.PrintLast
set_option linter.unusedSimpArgs false

theorem AddClue_both (p : Int) (cl : List S62) (K A B : Int) (hl : cl.length ≤ 1048576) : ∃ R : Int × List S62 × Bool, R.2.1.length ≤ 1048576 ∧ Big (fun k => spec_AddClue.f k p cl K A B) R ∧ Big (fun k => impl_AddClue.f k p cl K A B) R := by
  have a := pzGood_at p cl
  have b := IsPuzzle_at p cl
  unfold spec_AddClue.f impl_AddClue.f
  cases h : puz p cl
  · rw [h] at a b
    refine ⟨(0, [], false), by simp, Big.bind a ?_, Big.bind b ?_⟩
    · simp only [Bool.false_eq_true, if_false]
      exact Big.some_ _
    · simp only [Bool.false_eq_true, if_false]
      exact Big.some_ _
  · rw [h] at a b
    have h' := h
    unfold puz at h'
    simp only [Bool.and_eq_true, decide_eq_true_eq] at h'
    obtain ⟨hp, hl6, _⟩ := h'
    have a2 := pzClue_at p K A B (inR_iff.mp hp)
    have b2 := IsClue_at p K A B
    rw [hp, Bool.true_and] at b2
    cases hc : clueB p K A B
    · rw [hc] at a2 b2
      refine ⟨(0, [], false), by simp, Big.bind a ?_, Big.bind b ?_⟩
      · simp only [if_true]
        refine Big.bind a2 ?_
        simp only [Bool.false_eq_true, if_false]
        exact Big.some_ _
      · simp only [if_true]
        refine Big.bind b2 ?_
        simp only [Bool.false_eq_true, if_false]
        exact Big.some_ _
    · rw [hc] at a2 b2
      by_cases h6 : (cl.length : Int) = 6
      · refine ⟨(0, [], false), by simp, Big.bind a ?_, Big.bind b ?_⟩
        · simp only [if_true]
          refine Big.bind a2 ?_
          simp only [if_true, if_pos h6]
          exact Big.some_ _
        · simp only [if_true]
          refine Big.bind b2 ?_
          simp only [if_true, if_pos h6]
          exact Big.some_ _
      · refine ⟨(p, cl ++ [⟨K, A, B⟩], true), by simp; omega, Big.bind a ?_, Big.bind b ?_⟩
        · simp only [if_true]
          refine Big.bind a2 ?_
          simp only [if_true, if_neg h6, Option.bind_some, List.nil_append, List.length_nil, List.length_cons, Nat.zero_add, if_pos (show cl.length < 5864062014805 by omega), if_pos (show cl.length + 1 < 5864062014805 by omega)]
          exact Big.some_ _
        · simp only [if_true]
          refine Big.bind b2 ?_
          have e : impl_Clue_84.f cl = some cl := by
            unfold impl_Clue_84.f
            simp only [Option.bind_some, List.nil_append, List.length_nil, Nat.zero_add, if_pos (show cl.length < 5864062014805 by omega)]
          simp only [if_true, if_neg h6, e, Option.bind_some, List.length_nil, List.length_cons, Nat.zero_add, if_pos (show cl.length + 1 < 5864062014805 by omega)]
          exact Big.some_ _
end Go.Proofs.Ytlkommjeflojjaa.Q
