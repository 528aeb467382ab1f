/- Chapter 9 (puzzles): how many the first clues leave. -/
import Derived.Test.YtagkghlmjjhmnaaQSol
import Derived.Test.YtagkghlmjjhmnaaS0
import Derived.Test.YtagkghlmjjhmnaaS19
import Derived.Test.YtagkghlmjjhmnaaS20
namespace Go.Proofs.Ytagkghlmjjhmnaa.Q
open Go.RowKit Go.Proofs.Ytagkghlmjjhmnaa.S Go.Proofs.YtagkghlmjjhmnaaW.PrintWords Go.Proofs.YtagkghlmjjhmnaaW.PrintLast
set_option linter.unusedSimpArgs false

theorem good_take {p : Int} {cl : List S75} (hg : good p cl) (i : Nat) : good p (cl.take i) := fun c hc => hg c (List.mem_of_mem_take hc)
theorem left_l (p : Int) (hp : 2 ≤ p ∧ p ≤ 3) (cl : List S75) (hg : good p cl) (hl : cl.length ≤ 6) (d : Nat) : ∀ (i : Nat) (acc : List Int), i + d = cl.length + 1 → acc.length = i → ∃ R : List Int × Bool, R.1.length ≤ 1048576 ∧ Big (fun k => spec_LeftByClues.l0 k acc i p cl) R ∧ Big (fun k => impl_LeftByClues.l0 k acc ((cl.length + 1 : Nat) : Int) i p cl) R := by
  induction d with
  | zero =>
    intro i acc hi ha
    refine ⟨(acc, true), by simp only; omega, Big.succ ?_, Big.succ ?_⟩
    · simp only [spec_LeftByClues.l0, if_neg (show ¬ (i : Int) ≤ (cl.length : Int) by omega)]
      exact Big.some_ _
    · simp only [impl_LeftByClues.l0, if_neg (show ¬ (i : Int) < ((cl.length + 1 : Nat) : Int) by omega)]
      exact Big.some_ _
  | succ d ih =>
    intro i acc hi ha
    obtain ⟨R, h0, h1, h2⟩ := ih (i + 1) (acc ++ [((sols p (cl.take i)).length : Int)]) (by omega) (by simp [ha])
    refine ⟨R, h0, Big.succ ?_, Big.succ ?_⟩
    · simp only [spec_LeftByClues.l0, if_pos (show (i : Int) ≤ (cl.length : Int) by omega), if_pos (show 0 ≤ (i : Int) by omega), Int.toNat_natCast]
      refine Big.bind (pzAll_at p hp _ (good_take hg i)) ?_
      simp only [if_pos (show acc.length < 17592186044416 by omega), w64n (show i < 9223372036854775807 by omega)]
      exact h1
    · simp only [impl_LeftByClues.l0, if_pos (show (i : Int) < ((cl.length + 1 : Nat) : Int) by omega), if_pos (show 0 ≤ (i : Int) by omega), if_pos (show (i : Int) ≤ (cl.length : Int) by omega), Int.toNat_natCast]
      refine Big.bind (solutions_at p hp _ (good_take hg i)) ?_
      simp only [if_pos (show acc.length < 17592186044416 by omega), w64n (show i < 9223372036854775807 by omega)]
      exact h2
theorem LeftByClues_both (p : Int) (cl : List S75) : ∃ R : List Int × Bool, R.1.length ≤ 1048576 ∧ Big (fun k => spec_LeftByClues.f k p cl) R ∧ Big (fun k => impl_LeftByClues.f k p cl) R := by
  unfold spec_LeftByClues.f impl_LeftByClues.f
  have a := pzGood_at p cl
  have b := IsPuzzle_at p cl
  cases h : puz p cl
  · rw [h] at a b
    exact ⟨([], false), by simp, Big.bind a (by simp only [Bool.false_eq_true, if_false]; exact Big.some_ _), Big.bind b (by simp only [Bool.false_eq_true, if_false]; exact Big.some_ _)⟩
  · rw [h] at a b
    obtain ⟨hp, hl, hg⟩ := puz_good h
    obtain ⟨R, h0, h1, h2⟩ := left_l p hp cl hg hl (cl.length + 1) 0 [] (by omega) rfl
    refine ⟨R, h0, Big.bind a ?_, Big.bind b ?_⟩
    · simp only [if_true]
      exact h1
    · simp only [if_true, w64n (show cl.length < 9223372036854775807 by omega)]
      exact h2
end Go.Proofs.Ytagkghlmjjhmnaa.Q
