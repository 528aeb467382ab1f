/- The statements' own comparison of puzzles. No condition but lengths that fit. -/
import Derived.Test.YtknigfnbhlmlgaaDoorQyBig
import Derived.Test.YtknigfnbhlmlgaaDoorY0
import Derived.Test.YtknigfnbhlmlgaaDoorY7
import Derived.Test.YtknigfnbhlmlgaaDoorY8
namespace Go.Proofs.YtknigfnbhlmlgaaDoor.Q
open Go.RowKit Go.Proofs.YtknigfnbhlmlgaaDoor.Y Go.Proofs.YtknigfnbhlmlgaaDoorW.PrintWords Go.Proofs.YtknigfnbhlmlgaaDoorW.PrintLast

theorem rdT_nat (l : List S80) (i : Nat) (h : i < l.length) : rd_T80 l (i : Int) = l[i] := by
  unfold rd_T80
  rw [Int.toNat_natCast, List.getD_eq_getElem?_getD, List.getElem?_eq_getElem h, Option.getD_some]
theorem eqClueS_l (l : List S80) (hl : l.length < 9223372036854775807) (d : Nat) : ∀ i : Nat, i + d = l.length → Big (fun k => laws_eqClueS.l0 k l l i) true := by
  induction d with
  | zero =>
    intro i hi
    refine Big.succ ?_
    simp only [laws_eqClueS.l0, if_neg (show ¬ (i : Int) < (l.length : Int) by omega)]
    exact Big.some_ _
  | succ d ih =>
    intro i hi
    refine Big.succ ?_
    simp only [laws_eqClueS.l0, laws_eqClue.f, if_true, Option.bind_some, if_pos (show (i : Int) < (l.length : Int) by omega), if_pos (show 0 ≤ (i : Int) by omega)]
    rw [w64n (by omega)]
    exact ih (i + 1) (by omega)
theorem eqClueS_self (l : List S80) (hl : l.length < 9223372036854775807) : Big (fun k => laws_eqClueS.f k l l) true := by
  unfold laws_eqClueS.f
  simp only [if_true]
  exact eqClueS_l l hl l.length 0 (by omega)
theorem eqPuzzle_self (p : Int) (l : List S80) (hl : l.length < 9223372036854775807) : Big (fun k => laws_eqPuzzle.f k p l p l) true := by
  unfold laws_eqPuzzle.f
  simp only [if_true]
  refine Big.bind (eqClueS_self l hl) ?_
  simp only [if_true]
  exact Big.some_ _
end Go.Proofs.YtknigfnbhlmlgaaDoor.Q
