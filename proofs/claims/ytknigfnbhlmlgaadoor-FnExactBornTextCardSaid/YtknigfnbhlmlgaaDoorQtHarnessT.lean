/- The statements' own helpers (copies, comparisons, marks): what they answer. No condition but lengths that fit. -/
import Derived.Test.YtknigfnbhlmlgaaDoorQtBig
import Derived.Test.YtknigfnbhlmlgaaDoorT3
namespace Go.Proofs.YtknigfnbhlmlgaaDoor.Q
open Go.RowKit Go.Proofs.YtknigfnbhlmlgaaDoor.T Go.Proofs.YtknigfnbhlmlgaaDoorW.PrintWords Go.Proofs.YtknigfnbhlmlgaaDoorW.PrintLast

theorem toIntS_l (l : List Int) (hl : l.length < 9223372036854775807) (d : Nat) : ∀ i : Nat, i + d = l.length → Big (fun k => laws_toIntS.l0 k l (l.take i ++ List.replicate d 0) i) l := by
  induction d with
  | zero =>
    intro i hi
    refine Big.succ ?_
    simp only [laws_toIntS.l0, if_neg (show ¬ (i : Int) < (l.length : Int) by omega)]
    have : l.take i ++ List.replicate 0 0 = l := by simp [List.take_of_length_le (show l.length ≤ i by omega)]
    rw [this]
    exact Big.some_ _
  | succ d ih =>
    intro i hi
    refine Big.succ ?_
    simp only [laws_toIntS.l0]
    have hlen : (l.take i ++ List.replicate (d + 1) (0 : Int)).length = l.length := by simp; omega
    simp only [if_pos (show (i : Int) < (l.length : Int) by omega), if_pos (show 0 ≤ (i : Int) by omega), hlen]
    rw [w64n (by omega)]
    have hs : (l.take i ++ List.replicate (d + 1) (0 : Int)).set (i : Int).toNat (rd l i) = l.take (i + 1) ++ List.replicate d 0 := by
      rw [Int.toNat_natCast, List.set_append_right _ _ (by simp; omega)]
      have h1 : (l.take i).length = i := by simp; omega
      rw [h1, Nat.sub_self, List.replicate_succ, List.set_cons_zero, rd_nat, List.take_succ_eq_append_getElem (show i < l.length by omega), List.getD_eq_getElem?_getD, List.getElem?_eq_getElem (show i < l.length by omega), Option.getD_some, List.append_assoc]
      rfl
    rw [hs]
    exact ih (i + 1) (by omega)
theorem toIntS_id (l : List Int) (hl : l.length ≤ 1048576) : Big (fun k => laws_toIntS.f k l) l := by
  unfold laws_toIntS.f
  simp only [if_pos (show 0 ≤ (l.length : Int) by omega), Int.toNat_natCast, if_pos (show l.length ≤ 35184372088832 by omega)]
  exact toIntS_l l (by omega) l.length 0 (by omega)

end Go.Proofs.YtknigfnbhlmlgaaDoor.Q
