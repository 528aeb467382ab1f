/- The statements' own helpers (copies, comparisons, marks): what they answer. No condition but lengths that fit. -/
import Derived.Test.YtknigfnbhlmlgaaDoorQpHarnessE
import Derived.Test.YtknigfnbhlmlgaaDoorP5
namespace Go.Proofs.YtknigfnbhlmlgaaDoor.Q
open Go.RowKit Go.Proofs.YtknigfnbhlmlgaaDoor.P Go.Proofs.YtknigfnbhlmlgaaDoorW.PrintWords Go.Proofs.YtknigfnbhlmlgaaDoorW.PrintLast

/-- a, a + 1, .. : n numbers. -/
def marks (a : Int) (n : Nat) : List Int := (List.range n).map fun (i : Nat) => a + (i : Int)
theorem marks_length (a : Int) (n : Nat) : (marks a n).length = n := by simp [marks]
theorem marks_get (a : Int) (n i : Nat) (h : i < n) : rd (marks a n) (i : Int) = a + (i : Int) := by
  rw [rd_nat]
  simp [marks, List.getD_eq_getElem?_getD, h]
theorem marks_succ (a : Int) (n : Nat) : marks a (n + 1) = marks a n ++ [a + (n : Int)] := by simp [marks, List.range_succ]
theorem markIntS_l (l : List Int) (a : Int) (ha : 0 ≤ a) (hl : a + (l.length : Int) < 9223372036854775807) (d : Nat) : ∀ i : Nat, i + d = l.length → Big (fun k => laws_markIntS.l0 k (marks a i ++ l.drop i) (a + (i : Int)) i) (a + (l.length : Int), marks a l.length) := by
  induction d with
  | zero =>
    intro i hi
    refine Big.succ ?_
    simp only [laws_markIntS.l0]
    have e : marks a i ++ l.drop i = marks a l.length := by rw [List.drop_of_length_le (by omega), List.append_nil, show i = l.length by omega]
    rw [e]
    simp only [marks_length, if_neg (show ¬ (i : Int) < (l.length : Int) by omega)]
    rw [show (i : Int) = (l.length : Int) by omega]
    exact Big.some_ _
  | succ d ih =>
    intro i hi
    refine Big.succ ?_
    simp only [laws_markIntS.l0]
    have hlen : (marks a i ++ l.drop i).length = l.length := by rw [List.length_append, marks_length, List.length_drop]; omega
    simp only [hlen, if_pos (show (i : Int) < (l.length : Int) by omega), if_pos (show 0 ≤ (i : Int) by omega)]
    rw [w64n (by omega), w64 (i := a + (i : Int) + 1) (by omega) (by omega)]
    have hs : (marks a i ++ l.drop i).set (i : Int).toNat (a + (i : Int)) = marks a (i + 1) ++ l.drop (i + 1) := by
      rw [Int.toNat_natCast, List.set_append_right _ _ (by rw [marks_length]; omega), marks_length, Nat.sub_self, List.drop_eq_getElem_cons (show i < l.length by omega), List.set_cons_zero, marks_succ]
      simp
    rw [hs, show a + (i : Int) + 1 = a + ((i + 1 : Nat) : Int) by omega]
    exact ih (i + 1) (by omega)
theorem markIntS_at (l : List Int) (a : Int) (ha : 0 ≤ a) (hl : a + (l.length : Int) < 9223372036854775807) : Big (fun k => laws_markIntS.f k l a) (a + (l.length : Int), marks a l.length) := by
  unfold laws_markIntS.f
  have := markIntS_l l a ha hl l.length 0 (by omega)
  simpa [marks] using this
end Go.Proofs.YtknigfnbhlmlgaaDoor.Q
