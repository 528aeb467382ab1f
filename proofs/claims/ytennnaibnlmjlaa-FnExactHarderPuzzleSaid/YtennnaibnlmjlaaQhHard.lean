/- Chapter 9 (puzzles): a puzzle without the clues that it does not need. -/
import Derived.Test.YtennnaibnlmjlaaQhSolJ
import Derived.Test.YtennnaibnlmjlaaQhWo
import Derived.Test.YtennnaibnlmjlaaH0
import Derived.Test.YtennnaibnlmjlaaH13
import Derived.Test.YtennnaibnlmjlaaH16
import Derived.Test.YtennnaibnlmjlaaH9
namespace Go.Proofs.Ytennnaibnlmjlaa.Q
open Go.RowKit Go.Proofs.Ytennnaibnlmjlaa.H Go.Proofs.YtennnaibnlmjlaaW.PrintWords Go.Proofs.YtennnaibnlmjlaaW.PrintLast
set_option linter.unusedSimpArgs false

theorem good_erase {p : Int} {cl : List S55} (hg : good p cl) (i : Nat) : good p (cl.eraseIdx i) := fun c hc => hg c (List.mem_of_mem_eraseIdx hc)
theorem hard_l (p : Int) (hp : 2 ≤ p ∧ p ≤ 3) (m : List S55) (d : Nat) : ∀ (i : Nat) (cl : List S55), i + d = cl.length → good p cl → cl.length ≤ 6 → ∃ R : Int × List S55 × Bool, R.2.1.length ≤ 1048576 ∧ Big (fun k => spec_HarderPuzzle.l0 k cl i p m) R ∧ Big (fun k => impl_HarderPuzzle.l0 k cl i p m) R := by
  induction d with
  | zero =>
    intro i cl hi hg hl
    refine ⟨(p, cl, true), by simp only; omega, Big.succ ?_, Big.succ ?_⟩
    · simp only [spec_HarderPuzzle.l0, if_neg (show ¬ (i : Int) < (cl.length : Int) by omega)]
      exact Big.some_ _
    · simp only [impl_HarderPuzzle.l0, if_neg (show ¬ (i : Int) < (cl.length : Int) by omega)]
      exact Big.some_ _
  | succ d ih =>
    intro i cl hi hg hl
    obtain ⟨e1, e2⟩ := without_both cl i (by omega) hl
    have a := pzSolved_at p hp _ (good_erase hg i)
    have b := solutions_at p hp _ (good_erase hg i)
    have hle : (cl.eraseIdx i).length = cl.length - 1 := List.length_eraseIdx_of_lt (by omega)
    by_cases he : ((sols p (cl.eraseIdx i)).length : Int) = 1
    · obtain ⟨R, h0, h1, h2⟩ := ih i (cl.eraseIdx i) (by omega) (good_erase hg i) (by omega)
      refine ⟨R, h0, Big.succ ?_, Big.succ ?_⟩
      · simp only [spec_HarderPuzzle.l0, if_pos (show (i : Int) < (cl.length : Int) by omega), e1, Option.bind_some]
        refine Big.bind a ?_
        simp only [if_pos (beq_iff_eq.mpr he)]
        exact h1
      · simp only [impl_HarderPuzzle.l0, if_pos (show (i : Int) < (cl.length : Int) by omega), e2, Option.bind_some]
        refine Big.bind b ?_
        simp only [if_pos he]
        exact h2
    · obtain ⟨R, h0, h1, h2⟩ := ih (i + 1) cl (by omega) hg hl
      refine ⟨R, h0, Big.succ ?_, Big.succ ?_⟩
      · simp only [spec_HarderPuzzle.l0, if_pos (show (i : Int) < (cl.length : Int) by omega), e1, Option.bind_some]
        refine Big.bind a ?_
        simp only [beq_eq_false_iff_ne.mpr he, Bool.false_eq_true, if_false, w64n (show i < 9223372036854775807 by omega)]
        exact h1
      · simp only [impl_HarderPuzzle.l0, if_pos (show (i : Int) < (cl.length : Int) by omega), e2, Option.bind_some]
        refine Big.bind b ?_
        simp only [if_neg he, w64n (show i < 9223372036854775807 by omega)]
        exact h2
theorem HarderPuzzle_both (p : Int) (cl : List S55) : ∃ R : Int × List S55 × Bool, R.2.1.length ≤ 1048576 ∧ Big (fun k => spec_HarderPuzzle.f k p cl) R ∧ Big (fun k => impl_HarderPuzzle.f k p cl) R := by
  unfold spec_HarderPuzzle.f impl_HarderPuzzle.f
  have a := pzGood_at p cl
  have b := iSolved_at p cl
  have no1 : Big (fun k => spec_HarderPuzzle.j0 k true p cl) (0, [], false) := Big.succ (by simp only [spec_HarderPuzzle.j0, if_true]; exact Big.some_ _)
  have no2 : Big (fun k => impl_HarderPuzzle.j0 k true p cl) (0, [], false) := Big.succ (by simp only [impl_HarderPuzzle.j0, if_true]; exact Big.some_ _)
  cases h : puz p cl
  · rw [h] at a b
    simp only [Bool.false_eq_true, if_false] at b
    exact ⟨(0, [], false), by simp, Big.bind a (by simp only [Bool.false_eq_true, if_false]; exact no1), Big.bind b (by simp only [Bool.false_eq_true, if_false]; exact no2)⟩
  · rw [h] at a b
    obtain ⟨hp, hl, hg⟩ := puz_good h
    simp only [if_true] at b
    have c := pzSolved_at p hp cl hg
    cases hs : (((sols p cl).length : Int) == 1)
    · rw [hs] at b c
      refine ⟨(0, [], false), by simp, Big.bind a ?_, Big.bind b ?_⟩
      · simp only [if_true]
        refine Big.bind c ?_
        simp only [Bool.not_false]
        exact no1
      · simp only [if_true, Bool.not_false]
        exact no2
    · rw [hs] at b c
      obtain ⟨R, h0, h1, h2⟩ := hard_l p hp cl cl.length 0 cl (by omega) hg hl
      have hcl : impl_Clue_61.f cl = some cl := by
        unfold impl_Clue_61.f
        rw [Option.bind_some, if_pos (by simp; omega)]
        simp
      refine ⟨R, h0, Big.bind a ?_, Big.bind b ?_⟩
      · simp only [if_true]
        refine Big.bind c ?_
        simp only [Bool.not_true]
        refine Big.succ ?_
        simp only [spec_HarderPuzzle.j0, Bool.false_eq_true, if_false, Option.bind_some, List.length_nil, Nat.zero_add, List.nil_append, if_pos (show cl.length < 5864062014805 by omega)]
        exact h1
      · simp only [if_true, Bool.not_true]
        refine Big.succ ?_
        simp only [impl_HarderPuzzle.j0, Bool.false_eq_true, if_false, hcl, Option.bind_some]
        exact h2
end Go.Proofs.Ytennnaibnlmjlaa.Q
