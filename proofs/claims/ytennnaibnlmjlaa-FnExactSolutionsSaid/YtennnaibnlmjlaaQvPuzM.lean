/- The statements' own helpers: marks in the clues of a puzzle: how many are told. No condition but lengths that fit. -/
import Derived.Test.YtennnaibnlmjlaaQvPuzH
import Derived.Test.YtennnaibnlmjlaaV0
import Derived.Test.YtennnaibnlmjlaaV1
import Derived.Test.YtennnaibnlmjlaaV2
namespace Go.Proofs.Ytennnaibnlmjlaa.Q
open Go.RowKit Go.Proofs.Ytennnaibnlmjlaa.V Go.Proofs.YtennnaibnlmjlaaW.PrintWords Go.Proofs.YtennnaibnlmjlaaW.PrintLast
set_option linter.unusedSimpArgs false

theorem markClueS_l (d : Nat) : ∀ (i : Nat) (x0 : List S55) (x1 : Int), i + d = x0.length → x0.length ≤ 1048576 → 0 ≤ x1 → x1 + 3 * (d : Int) < 9223372036854775807 → ∃ l', Big (fun k => laws_markClueS.l0 k x0 x1 i) (x1 + 3 * (d : Int), l') := by
  induction d with
  | zero =>
    intro i x0 x1 hi hl h0 h1
    refine ⟨x0, Big.succ ?_⟩
    simp only [laws_markClueS.l0, if_neg (show ¬ (i : Int) < (x0.length : Int) by omega)]
    exact (Big.some_ _).cast (by simp)
  | succ d ih =>
    intro i x0 x1 hi hl h0 h1
    suffices h : ∃ l', Big (fun k => laws_markClueS.l0 (k + 1) x0 x1 i) (x1 + 3 * ((d + 1 : Nat) : Int), l') from ⟨h.choose, Big.succ h.choose_spec⟩
    simp only [laws_markClueS.l0, if_pos (show (i : Int) < (x0.length : Int) by omega), if_pos (show 0 ≤ (i : Int) by omega), Option.bind_some, w64n (show i < 9223372036854775807 by omega), w64 (show -9223372036854775808 ≤ x1 + 1 by omega) (by omega), w64 (show -9223372036854775808 ≤ x1 + 1 + 1 by omega) (by omega), w64 (show -9223372036854775808 ≤ x1 + 1 + 1 + 1 by omega) (by omega)]
    rw [show x1 + 3 * ((d + 1 : Nat) : Int) = (x1 + 1 + 1 + 1) + 3 * (d : Int) by omega]
    exact ih (i + 1) _ (x1 + 1 + 1 + 1) (by simp only [List.length_set]; omega) (by simp only [List.length_set]; omega) (by omega) (by omega)
theorem markPuzzle_at (p : Int) (l : List S55) (hl : l.length ≤ 1048576) : ∃ R : Int × List S55, 0 ≤ R.1 ∧ Big (fun k => laws_markPuzzle.f k p l 1) R := by
  obtain ⟨l', h⟩ := markClueS_l l.length 0 l 1 (by omega) hl (by omega) (by omega)
  refine ⟨(1 + 3 * (l.length : Int), l'), by simp only; omega, ?_⟩
  unfold laws_markPuzzle.f laws_markClueS.f
  exact Big.bind h (Big.some_ _)
end Go.Proofs.Ytennnaibnlmjlaa.Q
