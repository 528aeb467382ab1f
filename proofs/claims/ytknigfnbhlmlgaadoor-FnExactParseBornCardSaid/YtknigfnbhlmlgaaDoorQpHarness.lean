/- The statements' own helpers (copies, comparisons, marks): what they answer. No condition but lengths that fit. -/
import Derived.Test.YtknigfnbhlmlgaaDoorQpHarnessM
import Derived.Test.YtknigfnbhlmlgaaDoorP6
namespace Go.Proofs.YtknigfnbhlmlgaaDoor.Q
open Go.RowKit Go.Proofs.YtknigfnbhlmlgaaDoor.P Go.Proofs.YtknigfnbhlmlgaaDoorW.PrintWords Go.Proofs.YtknigfnbhlmlgaaDoorW.PrintLast

theorem heldIntS_l (n : Nat) (a : Int) (ha : 0 ≤ a) (hl : a + (n : Int) < 9223372036854775807) (d : Nat) : ∀ i : Nat, i + d = n → Big (fun k => laws_heldIntS.l0 k (marks a n) (a + (i : Int)) i) (a + (n : Int)) := by
  induction d with
  | zero =>
    intro i hi
    refine Big.succ ?_
    simp only [laws_heldIntS.l0]
    simp only [marks_length, if_neg (show ¬ (i : Int) < (n : Int) by omega)]
    rw [show i = n by omega]
    exact Big.some_ _
  | succ d ih =>
    intro i hi
    refine Big.succ ?_
    simp only [laws_heldIntS.l0]
    simp only [marks_length, marks_get a n i (by omega), if_pos (show (i : Int) < (n : Int) by omega), if_pos (show 0 ≤ (i : Int) by omega), if_true]
    rw [w64n (by omega), w64 (i := a + (i : Int) + 1) (by omega) (by omega), show a + (i : Int) + 1 = a + ((i + 1 : Nat) : Int) by omega]
    exact ih (i + 1) (by omega)
theorem heldIntS_at (n : Nat) (a : Int) (ha : 0 ≤ a) (hl : a + (n : Int) < 9223372036854775807) : Big (fun k => laws_heldIntS.f k (marks a n) a) (a + (n : Int)) := by
  unfold laws_heldIntS.f
  have := heldIntS_l n a ha hl n 0 (by omega)
  simpa using this
end Go.Proofs.YtknigfnbhlmlgaaDoor.Q
