/- The statements' own helpers: marks in the clues of a puzzle, and that they are found again. No condition but lengths that fit. -/
import Derived.Test.YtennnaibnlmjlaaQmPuzE
import Derived.Test.YtennnaibnlmjlaaM0
import Derived.Test.YtennnaibnlmjlaaM10
namespace Go.Proofs.Ytennnaibnlmjlaa.Q
open Go.RowKit Go.Proofs.Ytennnaibnlmjlaa.M Go.Proofs.YtennnaibnlmjlaaW.PrintWords Go.Proofs.YtennnaibnlmjlaaW.PrintLast
set_option linter.unusedSimpArgs false

def mk3 (a : Int) : S55 := ⟨a, a + 1, a + 1 + 1⟩
def marks3 (a : Int) (n : Nat) : List S55 := (List.range n).map fun (i : Nat) => mk3 (a + 3 * (i : Int))
theorem marks3_length (a : Int) (n : Nat) : (marks3 a n).length = n := by simp [marks3]
theorem marks3_succ (a : Int) (n : Nat) : marks3 a (n + 1) = marks3 a n ++ [mk3 (a + 3 * (n : Int))] := by simp [marks3, List.range_succ]
theorem marks3_get (a : Int) (n i : Nat) (h : i < n) : rd_T55 (marks3 a n) (i : Int) = mk3 (a + 3 * (i : Int)) := by
  rw [rdT_nat _ _ (by rw [marks3_length]; exact h)]
  simp [marks3]
theorem rdT_set (x : List S55) (i : Nat) (v : S55) (h : i < x.length) : rd_T55 (x.set i v) (i : Int) = v := by
  rw [rdT_nat _ _ (by rw [List.length_set]; exact h)]
  simp
theorem marks3_set (a : Int) (l : List S55) (i : Nat) (h : i < l.length) : (marks3 a i ++ l.drop i).set i (mk3 (a + 3 * (i : Int))) = marks3 a (i + 1) ++ l.drop (i + 1) := by
  rw [List.drop_eq_getElem_cons h, marks3_succ, List.append_assoc]
  rw [List.set_append_right _ _ (by rw [marks3_length]; exact Nat.le_refl _)]
  rw [marks3_length, Nat.sub_self, List.set_cons_zero]
  rfl
theorem markClueS_l2 (l : List S55) (a : Int) (ha : 0 ≤ a) (hl : a + 3 * (l.length : Int) < 9223372036854775807) (d : Nat) : ∀ i : Nat, i + d = l.length → Big (fun k => laws_markClueS.l0 k (marks3 a i ++ l.drop i) (a + 3 * (i : Int)) i) (a + 3 * (l.length : Int), marks3 a l.length) := by
  induction d with
  | zero =>
    intro i hi
    have e : i = l.length := by omega
    subst e
    refine Big.succ ?_
    have hlen : (marks3 a l.length ++ l.drop l.length).length = l.length := by simp [marks3_length]
    simp only [laws_markClueS.l0, hlen, if_neg (show ¬ (l.length : Int) < (l.length : Int) by omega)]
    exact (Big.some_ _).cast (by simp)
  | succ d ih =>
    intro i hi
    have hlen : (marks3 a i ++ l.drop i).length = l.length := by simp [marks3_length]; omega
    have h1 := ih (i + 1) (by omega)
    rw [← marks3_set a l i (by omega)] at h1
    refine Big.succ ?_
    simp only [laws_markClueS.l0, hlen, if_pos (show (i : Int) < (l.length : Int) by omega), if_pos (show 0 ≤ (i : Int) by omega), Option.bind_some, Int.toNat_natCast, w64n (show i < 9223372036854775807 by omega), w64 (show -9223372036854775808 ≤ a + 3 * (i : Int) + 1 by omega) (by omega), w64 (show -9223372036854775808 ≤ a + 3 * (i : Int) + 1 + 1 by omega) (by omega), w64 (show -9223372036854775808 ≤ a + 3 * (i : Int) + 1 + 1 + 1 by omega) (by omega), (fun v => rdT_set (marks3 a i ++ l.drop i) i v (show i < (marks3 a i ++ l.drop i).length by omega)), List.set_set]
    rw [show a + 3 * ((i + 1 : Nat) : Int) = a + 3 * (i : Int) + 1 + 1 + 1 by omega] at h1
    exact h1
theorem heldClueS_l (a : Int) (n : Nat) (ha : 0 ≤ a) (hl : a + 3 * (n : Int) < 9223372036854775807) (d : Nat) : ∀ i : Nat, i + d = n → Big (fun k => laws_heldClueS.l0 k (marks3 a n) (a + 3 * (i : Int)) i) (a + 3 * (n : Int)) := by
  induction d with
  | zero =>
    intro i hi
    have e : i = n := by omega
    subst e
    refine Big.succ ?_
    simp only [laws_heldClueS.l0, marks3_length, if_neg (show ¬ (i : Int) < (i : Int) by omega)]
    exact Big.some_ _
  | succ d ih =>
    intro i hi
    have h1 := ih (i + 1) (by omega)
    refine Big.succ ?_
    simp only [laws_heldClueS.l0, marks3_length, marks3_get a n i (by omega), mk3, if_pos (show (i : Int) < (n : Int) by omega), if_pos (show 0 ≤ (i : Int) by omega), w64n (show i < 9223372036854775807 by omega), w64 (show -9223372036854775808 ≤ a + 3 * (i : Int) + 1 by omega) (by omega), w64 (show -9223372036854775808 ≤ a + 3 * (i : Int) + 1 + 1 by omega) (by omega), w64 (show -9223372036854775808 ≤ a + 3 * (i : Int) + 1 + 1 + 1 by omega) (by omega), if_true]
    rw [show a + 3 * ((i + 1 : Nat) : Int) = a + 3 * (i : Int) + 1 + 1 + 1 by omega] at h1
    exact h1
theorem markPuzzle_held (p : Int) (l : List S55) (hl : l.length ≤ 1048576) : Big (fun k => laws_markPuzzle.f k p l 1) (1 + 3 * (l.length : Int), marks3 1 l.length) ∧ ∀ p', Big (fun k => laws_heldPuzzle.f k p' (marks3 1 l.length) 1) (1 + 3 * (l.length : Int)) := by
  refine ⟨?_, fun p' => ?_⟩
  · unfold laws_markPuzzle.f laws_markClueS.f
    have h := markClueS_l2 l 1 (by omega) (by omega) l.length 0 (by omega)
    exact Big.bind h (Big.some_ _)
  · unfold laws_heldPuzzle.f laws_heldClueS.f
    have h := heldClueS_l 1 l.length (by omega) (by omega) l.length 0 (by omega)
    refine Big.bind h ?_
    simp only [if_neg (show ¬ 1 + 3 * (l.length : Int) < 0 by omega)]
    exact Big.some_ _
end Go.Proofs.Ytennnaibnlmjlaa.Q
