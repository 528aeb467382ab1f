/- Are all numbers of a list in a span? Condition: lengths that fit. -/
import Derived.Test.YtlkommjeflojjaaQiVals
import Derived.Test.YtlkommjeflojjaaI3
namespace Go.Proofs.Ytlkommjeflojjaa.Q
open Go.RowKit Go.Proofs.Ytlkommjeflojjaa.I Go.Proofs.YtlkommjeflojjaaW.PrintWords Go.Proofs.YtlkommjeflojjaaW.PrintLast
set_option linter.unusedSimpArgs false

theorem allS_l (l : List Int) (a b : Int) (hl : l.length ≤ 1048576) (d : Nat) : ∀ i : Nat, i + d = l.length → Big (fun k => spec_l1All.l0 k a b l (l.length : Int) i) ((l.drop i).all fun x => inR x a b) := by
  induction d with
  | zero =>
    intro i hi
    refine Big.succ ?_
    simp only [spec_l1All.l0, if_neg (show ¬ (i : Int) < (l.length : Int) by omega)]
    rw [List.drop_of_length_le (by omega)]
    exact Big.some_ _
  | succ d ih =>
    intro i hi
    refine Big.succ ?_
    simp only [spec_l1All.l0]
    have hlt : i < l.length := by omega
    simp only [if_pos (show (i : Int) < (l.length : Int) by omega), if_pos (show 0 ≤ (i : Int) by omega), v_l1In, Option.bind_some]
    rw [List.drop_eq_getElem_cons hlt, List.all_cons, rd_nat, List.getD_eq_getElem?_getD, List.getElem?_eq_getElem hlt, Option.getD_some]
    cases h : inR l[i] a b with
    | true =>
      simp only [if_true, Bool.true_and]
      rw [w64n (by omega)]
      exact ih (i + 1) (by omega)
    | false =>
      simp only [Bool.false_eq_true, if_false, Bool.false_and]
      exact Big.some_ _
theorem allS_at (l : List Int) (a b : Int) (hl : l.length ≤ 1048576) : Big (fun k => spec_l1All.f k l a b) (l.all fun x => inR x a b) := by
  unfold spec_l1All.f
  exact allS_l l a b hl l.length 0 (by omega)
end Go.Proofs.Ytlkommjeflojjaa.Q
