/- Chapter 9 (puzzles): what clues tell of hidden ages, as the program and the reference tell it. Conditions: as typed. -/
import Derived.Test.YtennnaibnlmjlaaQvClue
import Derived.Test.YtennnaibnlmjlaaQvHidV
import Derived.Test.YtennnaibnlmjlaaV12
import Derived.Test.YtennnaibnlmjlaaV6
namespace Go.Proofs.Ytennnaibnlmjlaa.Q
open Go.RowKit Go.Proofs.Ytennnaibnlmjlaa.V Go.Proofs.YtennnaibnlmjlaaW.PrintWords Go.Proofs.YtennnaibnlmjlaaW.PrintLast

/-- A clue's own numbers. -/
theorem okA_of_clue {p K A B : Int} (h : clueB p K A B = true) (hp : p ≤ 3) : okA p K A ∧ 0 ≤ K ∧ K ≤ 6 ∧ A ≤ 9 ∧ (K = 6 → 2 ≤ B) := by
  unfold clueB at h
  rw [Bool.and_eq_true] at h
  obtain ⟨hB, h⟩ := h
  unfold okA
  by_cases h0 : K = 0 ∨ K = 2 ∨ K = 4
  · rw [if_pos h0] at h
    have : A = 0 := by simpa using h
    omega
  · rw [if_neg h0] at h
    by_cases h1 : K = 1
    · rw [if_pos h1, inR_iff] at h
      omega
    · rw [if_neg h1] at h
      by_cases h3 : K = 3 ∨ K = 5
      · rw [if_pos h3, Bool.and_eq_true, inR_iff] at h
        omega
      · rw [if_neg h3] at h
        by_cases h6 : K = 6
        · rw [if_pos h6, Bool.and_eq_true, inR_iff, inR_iff] at h
          omega
        · rw [if_neg h6] at h
          cases h
theorem pzFits_at (K A B : Int) (l : List Int) (h : hid l = true) (hc : clueB (l.length : Int) K A B = true) : Big (fun k => spec_pzFits.f k K A B l) (fitN K A B l) := by
  obtain ⟨hl, hb⟩ := hid_iff.mp h
  obtain ⟨hA, hK0, hK6, hA9, hB⟩ := okA_of_clue hc (by omega)
  unfold spec_pzFits.f fitN
  by_cases h6 : K = 6
  · have := hB h6
    simp only [if_pos h6, if_neg (show ¬ B = 0 by omega)]
    exact Big.bind (agSum_at l (by omega)) (Big.some_ _)
  · simp only [if_neg h6]
    exact Big.bind (pzValue_at K A l h ⟨hK0, by omega⟩ hA) (Big.some_ _)
theorem fits_at (K A B : Int) (l : List Int) (h : hid l = true) (hc : clueB (l.length : Int) K A B = true) : Big (fun k => impl_Clue_fits.f k K A B l) (fitN K A B l) := by
  obtain ⟨hl, hb⟩ := hid_iff.mp h
  obtain ⟨hA, hK0, hK6, hA9, hB⟩ := okA_of_clue hc (by omega)
  unfold impl_Clue_fits.f fitN
  refine Big.bind (tells_at K A l h ⟨hK0, hK6⟩ hA hA9) ?_
  by_cases h6 : K = 6
  · have := hB h6
    simp only [if_pos h6, if_neg (show ¬ B = 0 by omega)]
    exact Big.some_ _
  · simp only [if_neg h6]
    exact Big.some_ _
end Go.Proofs.Ytennnaibnlmjlaa.Q
