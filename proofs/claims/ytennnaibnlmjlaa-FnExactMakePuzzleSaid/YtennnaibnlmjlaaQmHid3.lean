/- Chapter 9: hidden ages. Condition: a list of at most 2^20 numbers. -/
import Derived.Test.YtennnaibnlmjlaaQmHidV
import Derived.Test.YtennnaibnlmjlaaM2
import Derived.Test.YtennnaibnlmjlaaM6
namespace Go.Proofs.Ytennnaibnlmjlaa.Q
open Go.RowKit Go.Proofs.Ytennnaibnlmjlaa.M Go.Proofs.YtennnaibnlmjlaaW.PrintWords Go.Proofs.YtennnaibnlmjlaaW.PrintLast

theorem l1All2_l (l : List Int) (a b : Int) (hl : l.length ≤ 1048576) (d : Nat) : ∀ i : Nat, i + d = l.length → Big (fun k => spec_l1All.l0 k a b l (l.length : Int) i) ((l.drop i).all fun x => inR x a b) := by
  induction d with
  | zero =>
    intro i hi
    refine Big.succ ?_
    simp only [spec_l1All.l0, if_neg (show ¬ (i : Int) < (l.length : Int) by omega)]
    rw [List.drop_of_length_le (by omega)]
    exact Big.some_ _
  | succ d ih =>
    intro i hi
    refine Big.succ ?_
    simp only [spec_l1All.l0]
    have hlt : i < l.length := by omega
    simp only [if_pos (show (i : Int) < (l.length : Int) by omega), if_pos (show 0 ≤ (i : Int) by omega), v_l1In, Option.bind_some]
    rw [List.drop_eq_getElem_cons hlt, List.all_cons, rd_nat, List.getD_eq_getElem?_getD, List.getElem?_eq_getElem hlt, Option.getD_some]
    cases h : inR l[i] a b with
    | true =>
      simp only [if_true, Bool.true_and]
      rw [w64n (by omega)]
      exact ih (i + 1) (by omega)
    | false =>
      simp only [Bool.false_eq_true, if_false, Bool.false_and]
      exact Big.some_ _
theorem pzHidden_at (l : List Int) (hl : l.length ≤ 1048576) : Big (fun k => spec_pzHidden.f k l) (hid l) := by
  unfold spec_pzHidden.f hid
  simp only [show spec_pzPeople.f (l.length : Int) = some (inR (l.length : Int) 2 3) by simp [spec_pzPeople.f, v_l1In], Option.bind_some]
  cases inR (l.length : Int) 2 3 with
  | true =>
    simp only [if_true, Bool.true_and]
    unfold spec_l1All.f
    exact Big.bind (l1All2_l l 1 12 hl l.length 0 (by omega)) (Big.some_ _)
  | false =>
    simp only [Bool.false_eq_true, if_false, Bool.false_and]
    exact Big.some_ _
theorem v_areHidden (l : List Int) : impl_areHidden.f l = some (hid l) := by
  unfold impl_areHidden.f hid
  simp only [v_between, Option.bind_some]
  cases inR (l.length : Int) 2 3 with
  | true => simp only [if_true, Bool.true_and, impl_areBetween.f, Option.bind_some]; rfl
  | false => simp only [Bool.false_eq_true, if_false, Bool.false_and]
end Go.Proofs.Ytennnaibnlmjlaa.Q
