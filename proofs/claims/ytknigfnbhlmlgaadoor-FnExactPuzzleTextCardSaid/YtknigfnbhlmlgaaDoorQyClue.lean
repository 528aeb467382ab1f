/- Chapter 9 (puzzles): clues: what the program and the reference answer. Conditions: as typed. -/
import Derived.Test.YtknigfnbhlmlgaaDoorQyVals
import Derived.Test.YtknigfnbhlmlgaaDoorY1
import Derived.Test.YtknigfnbhlmlgaaDoorY6
namespace Go.Proofs.YtknigfnbhlmlgaaDoor.Q
open Go.RowKit Go.Proofs.YtknigfnbhlmlgaaDoor.Y Go.Proofs.YtknigfnbhlmlgaaDoorW.PrintWords Go.Proofs.YtknigfnbhlmlgaaDoorW.PrintLast

/-- A clue of p people. -/
def clueB (p K A B : Int) : Bool := inR B 0 2000 && (if K = 0 ∨ K = 2 ∨ K = 4 then A == 0 else if K = 1 then inR A 0 (p - 1) else if K = 3 ∨ K = 5 then inR A 0 (p - 1) && decide (B < 2) else if K = 6 then inR A 0 9 && inR B 2 9 else false)
theorem sClue_j1 (p K A B : Int) (hp : 2 ≤ p ∧ p ≤ 3) (b : Bool) : Big (fun k => spec_pzClue.j1 k p K b K A B) (if b = true then inR A 0 (p - 1) && decide (B < 2) else if K = 6 then inR A 0 9 && inR B 2 9 else false) := by
  refine Big.succ ?_
  simp only [spec_pzClue.j1, v_l1In, Option.bind_some, w64 (i := p - 1) (by omega) (by omega)]
  refine Big.of ?_
  cases b
  · by_cases h : K = 6
    · simp only [if_pos h, Bool.false_eq_true, if_false]
      cases inR A 0 9 <;> simp
    · simp [h]
  · simp only [if_true]
    cases inR A 0 (p - 1) <;> simp
theorem sClue_j0 (p K A B : Int) (hp : 2 ≤ p ∧ p ≤ 3) (b : Bool) : Big (fun k => spec_pzClue.j0 k p K b K A B) (if b = true then A == 0 else if K = 1 then inR A 0 (p - 1) else if K = 3 ∨ K = 5 then inR A 0 (p - 1) && decide (B < 2) else if K = 6 then inR A 0 9 && inR B 2 9 else false) := by
  refine Big.succ ?_
  simp only [spec_pzClue.j0, v_l1In, Option.bind_some, w64 (i := p - 1) (by omega) (by omega)]
  cases b
  · simp only [Bool.false_eq_true, if_false]
    by_cases h1 : K = 1
    · simp only [if_pos h1]
      exact Big.some_ _
    · simp only [if_neg h1]
      by_cases h3 : K = 3
      · simp only [if_pos h3, if_pos (show K = 3 ∨ K = 5 from .inl h3)]
        have := sClue_j1 p K A B hp (K == 3)
        rwa [if_pos (by simpa using h3)] at this
      · simp only [if_neg h3]
        have := sClue_j1 p K A B hp (K == 5)
        by_cases h5 : K = 5
        · rw [if_pos (by simpa using h5)] at this
          rw [if_pos (show K = 3 ∨ K = 5 from .inr h5)]
          exact this
        · rw [if_neg (by simpa using h5)] at this
          rw [if_neg (show ¬ (K = 3 ∨ K = 5) by omega)]
          exact this
  · simp only [if_true]
    exact Big.some_ _
theorem pzClue_at (p K A B : Int) (hp : 2 ≤ p ∧ p ≤ 3) : Big (fun k => spec_pzClue.f k p K A B) (clueB p K A B) := by
  unfold spec_pzClue.f clueB
  simp only [v_l1In, Option.bind_some]
  cases inR B 0 2000
  · simp only [Bool.false_eq_true, if_false, Bool.false_and]
    exact Big.some_ _
  · simp only [if_true, Bool.true_and]
    by_cases h0 : K = 0
    · simp only [if_pos h0]
      have := sClue_j0 p K A B hp (K == 0)
      rw [if_pos (by simpa using h0)] at this
      rw [if_pos (by omega)]
      exact this
    · simp only [if_neg h0]
      by_cases h2 : K = 2
      · simp only [if_pos h2]
        have := sClue_j0 p K A B hp (K == 2)
        rw [if_pos (by simpa using h2)] at this
        rw [if_pos (by omega)]
        exact this
      · simp only [if_neg h2]
        have := sClue_j0 p K A B hp (K == 4)
        by_cases h4 : K = 4
        · rw [if_pos (by simpa using h4)] at this
          rw [if_pos (by omega)]
          exact this
        · rw [if_neg (by simpa using h4)] at this
          rw [if_neg (by omega)]
          exact this
theorem iClue_j1 (p K A B : Int) (hp : 2 ≤ p ∧ p ≤ 3) (b : Bool) : Big (fun k => impl_IsClue.j1 k p K b K A B) (if b = true then inR A 0 (p - 1) && decide (B ≤ 1) else if K = 6 then inR A 0 9 && inR B 2 9 else A == 0) := by
  refine Big.succ ?_
  simp only [impl_IsClue.j1, v_between, Option.bind_some, w64 (i := p - 1) (by omega) (by omega)]
  refine Big.of ?_
  cases b
  · by_cases h : K = 6
    · simp only [if_pos h, Bool.false_eq_true, if_false]
      cases inR A 0 9 <;> simp
    · simp [h]
  · simp only [if_true]
    cases inR A 0 (p - 1) <;> simp
theorem iClue_j0 (p K A B : Int) (hp : 2 ≤ p ∧ p ≤ 3) : Big (fun k => impl_IsClue.j0 k p false K A B) (if K = 1 then inR A 0 (p - 1) else if K = 3 ∨ K = 5 then inR A 0 (p - 1) && decide (B ≤ 1) else if K = 6 then inR A 0 9 && inR B 2 9 else A == 0) := by
  refine Big.succ ?_
  simp only [impl_IsClue.j0, v_between, Option.bind_some, w64 (i := p - 1) (by omega) (by omega), Bool.false_eq_true, if_false]
  by_cases h1 : K = 1
  · simp only [if_pos h1]
    exact Big.some_ _
  · simp only [if_neg h1]
    by_cases h3 : K = 3
    · simp only [if_pos h3, if_pos (show K = 3 ∨ K = 5 from .inl h3)]
      have := iClue_j1 p K A B hp (K == 3)
      rwa [if_pos (by simpa using h3)] at this
    · simp only [if_neg h3]
      have := iClue_j1 p K A B hp (K == 5)
      by_cases h5 : K = 5
      · rw [if_pos (by simpa using h5)] at this
        rw [if_pos (show K = 3 ∨ K = 5 from .inr h5)]
        exact this
      · rw [if_neg (by simpa using h5)] at this
        rw [if_neg (show ¬ (K = 3 ∨ K = 5) by omega)]
        exact this
theorem IsClue_at (p K A B : Int) : Big (fun k => impl_IsClue.f k p K A B) (inR p 2 3 && clueB p K A B) := by
  unfold impl_IsClue.f
  simp only [v_between, Option.bind_some]
  have no : Big (fun k => impl_IsClue.j0 k p true K A B) false := Big.succ (by simp only [impl_IsClue.j0, if_true]; exact Big.some_ _)
  cases hp : inR p 2 3
  · simp only [Bool.false_eq_true, if_false, Bool.false_and]
    exact no
  · have hp' := inR_iff.mp hp
    simp only [if_true, Bool.true_and]
    cases hK : inR K 0 6
    · simp only [Bool.false_eq_true, if_false]
      rw [inR_not] at hK
      refine Big.cast no ?_
      unfold clueB
      rw [if_neg (by omega), if_neg (by omega), if_neg (by omega), if_neg (by omega), Bool.and_false]
    · simp only [if_true]
      have hK' := inR_iff.mp hK
      cases hB : inR B 0 2000
      · simp only [Bool.not_false]
        refine Big.cast no ?_
        unfold clueB
        rw [hB, Bool.false_and]
      · simp only [Bool.not_true]
        refine Big.cast (iClue_j0 p K A B hp') ?_
        unfold clueB
        rw [hB, Bool.true_and]
        by_cases h1 : K = 1
        · rw [if_pos h1, if_neg (by omega), if_pos h1]
        · rw [if_neg h1]
          by_cases h3 : K = 3 ∨ K = 5
          · rw [if_pos h3, if_neg (by omega), if_neg h1, if_pos h3]
            congr 1
            rw [decide_eq_decide]
            omega
          · rw [if_neg h3]
            by_cases h6 : K = 6
            · rw [if_pos h6, if_neg (by omega), if_neg h1, if_neg h3, if_pos h6]
            · rw [if_neg h6, if_pos (by omega)]
theorem v_pzPeople (p : Int) : spec_pzPeople.f p = some (inR p 2 3) := by simp [spec_pzPeople.f, v_l1In]
end Go.Proofs.YtknigfnbhlmlgaaDoor.Q
