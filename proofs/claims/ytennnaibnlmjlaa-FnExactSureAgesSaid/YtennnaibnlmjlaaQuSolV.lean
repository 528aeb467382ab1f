/- Chapter 9 (puzzles): all solutions of a puzzle, and one of them. -/
import Derived.Test.YtennnaibnlmjlaaQuSol
import Derived.Test.YtennnaibnlmjlaaU0
import Derived.Test.YtennnaibnlmjlaaU14
namespace Go.Proofs.Ytennnaibnlmjlaa.Q
open Go.RowKit Go.Proofs.Ytennnaibnlmjlaa.U Go.Proofs.YtennnaibnlmjlaaW.PrintWords Go.Proofs.YtennnaibnlmjlaaW.PrintLast
set_option linter.unusedSimpArgs false

theorem Solutions2_at (p : Int) (cl : List S55) : Big (fun k => impl_Solutions.f k p cl) (if puz p cl = true then (sols p cl, true) else ([], false)) := by
  unfold impl_Solutions.f
  refine Big.bind (IsPuzzle_at p cl) ?_
  cases h : puz p cl
  · simp only [Bool.false_eq_true, if_false]
    exact Big.some_ _
  · obtain ⟨hp, _, hg⟩ := puz_good h
    simp only [if_true]
    unfold impl_Puzzle_all.f
    exact Big.bind (Big.bind (solutions_at p hp cl hg) (Big.some_ _)) (Big.some_ _)
theorem rdS_nat (S : List (List Int)) (i : Nat) (h : i < S.length) : rd_L4 S (i : Int) = S[i] := by
  unfold rd_L4
  rw [Int.toNat_natCast, List.getD_eq_getElem?_getD, List.getElem?_eq_getElem h, Option.getD_some]
theorem rdS_mem (S : List (List Int)) (i : Int) (h0 : 0 ≤ i) (h1 : i < (S.length : Int)) : rd_L4 S i ∈ S := by
  obtain ⟨n, rfl⟩ : ∃ n : Nat, i = (n : Int) := ⟨i.toNat, by omega⟩
  rw [rdS_nat S n (by omega)]
  exact List.getElem_mem _
end Go.Proofs.Ytennnaibnlmjlaa.Q
