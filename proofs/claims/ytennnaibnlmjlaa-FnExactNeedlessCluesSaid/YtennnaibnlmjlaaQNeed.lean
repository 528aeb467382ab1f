/- Chapter 9 (puzzles): the clues that change nothing. -/
import Derived.Test.YtennnaibnlmjlaaQSolV
import Derived.Test.YtennnaibnlmjlaaQWo
import Derived.Test.YtennnaibnlmjlaaN0
import Derived.Test.YtennnaibnlmjlaaN10
import Derived.Test.YtennnaibnlmjlaaN17
namespace Go.Proofs.Ytennnaibnlmjlaa.Q
open Go.RowKit Go.Proofs.Ytennnaibnlmjlaa.N Go.Proofs.YtennnaibnlmjlaaW.PrintWords Go.Proofs.YtennnaibnlmjlaaW.PrintLast
set_option linter.unusedSimpArgs false

theorem good_erase {p : Int} {cl : List S55} (hg : good p cl) (i : Nat) : good p (cl.eraseIdx i) := fun c hc => hg c (List.mem_of_mem_eraseIdx hc)
theorem need_l (p : Int) (hp : 2 ≤ p ∧ p ≤ 3) (cl : List S55) (hg : good p cl) (hl : cl.length ≤ 6) (S : List (List Int)) (d : Nat) : ∀ (i : Nat) (acc : List Int), i + d = cl.length → acc.length ≤ i → ∃ R : List Int × Bool, R.1.length ≤ 1048576 ∧ Big (fun k => spec_NeedlessClues.l0 k acc (S.length : Int) (cl.length : Int) i p cl) R ∧ Big (fun k => impl_NeedlessClues.l0 k S acc (cl.length : Int) i p cl) R := by
  induction d with
  | zero =>
    intro i acc hi ha
    refine ⟨(acc, true), by simp only; omega, Big.succ ?_, Big.succ ?_⟩
    · simp only [spec_NeedlessClues.l0, if_neg (show ¬ (i : Int) < (cl.length : Int) by omega)]
      exact Big.some_ _
    · simp only [impl_NeedlessClues.l0, if_neg (show ¬ (i : Int) < (cl.length : Int) by omega)]
      exact Big.some_ _
  | succ d ih =>
    intro i acc hi ha
    obtain ⟨e1, e2⟩ := without_both cl i (by omega) hl
    have a := pzAll_at p hp _ (good_erase hg i)
    have b := solutions_at p hp _ (good_erase hg i)
    by_cases he : ((sols p (cl.eraseIdx i)).length : Int) = (S.length : Int)
    · obtain ⟨R, h0, h1, h2⟩ := ih (i + 1) (acc ++ [(i : Int)]) (by omega) (by simp; omega)
      refine ⟨R, h0, Big.succ ?_, Big.succ ?_⟩
      · simp only [spec_NeedlessClues.l0, if_pos (show (i : Int) < (cl.length : Int) by omega), e1, Option.bind_some]
        refine Big.bind a ?_
        simp only [if_pos he, if_pos (show acc.length < 17592186044416 by omega), w64n (show i < 9223372036854775807 by omega)]
        exact h1
      · simp only [impl_NeedlessClues.l0, if_pos (show (i : Int) < (cl.length : Int) by omega), e2, Option.bind_some]
        refine Big.bind b ?_
        simp only [if_pos he, if_pos (show acc.length < 17592186044416 by omega), w64n (show i < 9223372036854775807 by omega)]
        exact h2
    · obtain ⟨R, h0, h1, h2⟩ := ih (i + 1) acc (by omega) (by omega)
      refine ⟨R, h0, Big.succ ?_, Big.succ ?_⟩
      · simp only [spec_NeedlessClues.l0, if_pos (show (i : Int) < (cl.length : Int) by omega), e1, Option.bind_some]
        refine Big.bind a ?_
        simp only [if_neg he, w64n (show i < 9223372036854775807 by omega)]
        exact h1
      · simp only [impl_NeedlessClues.l0, if_pos (show (i : Int) < (cl.length : Int) by omega), e2, Option.bind_some]
        refine Big.bind b ?_
        simp only [if_neg he, w64n (show i < 9223372036854775807 by omega)]
        exact h2
theorem NeedlessClues_both (p : Int) (cl : List S55) : ∃ R : List Int × Bool, R.1.length ≤ 1048576 ∧ Big (fun k => spec_NeedlessClues.f k p cl) R ∧ Big (fun k => impl_NeedlessClues.f k p cl) R := by
  unfold spec_NeedlessClues.f impl_NeedlessClues.f
  have a := pzGood_at p cl
  have b := Solutions2_at p cl
  cases h : puz p cl
  · rw [h] at a b
    exact ⟨([], false), by simp, Big.bind a (by simp only [Bool.false_eq_true, if_false]; exact Big.some_ _), Big.bind b (by simp only [Bool.false_eq_true, if_false]; exact Big.some_ _)⟩
  · rw [h] at a b
    obtain ⟨hp, hl, hg⟩ := puz_good h
    obtain ⟨R, h0, h1, h2⟩ := need_l p hp cl hg hl (sols p cl) cl.length 0 [] (by omega) (by simp)
    simp only [if_true] at b
    refine ⟨R, h0, Big.bind a ?_, Big.bind b ?_⟩
    · simp only [if_true]
      exact Big.bind (pzAll_at p hp cl hg) h1
    · simp only [if_true]
      exact h2
end Go.Proofs.Ytennnaibnlmjlaa.Q
