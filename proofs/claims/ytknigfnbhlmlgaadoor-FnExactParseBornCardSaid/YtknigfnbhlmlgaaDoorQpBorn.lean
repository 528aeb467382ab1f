/- Births: what the program's and the reference's tests answer. Conditions: lengths that fit. -/
import Derived.Test.YtknigfnbhlmlgaaDoorQpBig
import Derived.Test.YtknigfnbhlmlgaaDoorQpVals
import Derived.Test.YtknigfnbhlmlgaaDoorP1
import Derived.Test.YtknigfnbhlmlgaaDoorP5
namespace Go.Proofs.YtknigfnbhlmlgaaDoor.Q
open Go.RowKit Go.Proofs.YtknigfnbhlmlgaaDoor.P Go.Proofs.YtknigfnbhlmlgaaDoorW.PrintWords Go.Proofs.YtknigfnbhlmlgaaDoorW.PrintLast

/-- Births: 1..10 numbers in 0..2900. -/
def born (l : List Int) : Bool := inR (l.length : Int) 1 10 && l.all fun x => inR x 0 2900
theorem born_iff {l : List Int} : born l = true ↔ (1 ≤ l.length ∧ l.length ≤ 10) ∧ ∀ x ∈ l, 0 ≤ x ∧ x ≤ 2900 := by
  unfold born
  rw [Bool.and_eq_true, inR_iff, List.all_eq_true]
  constructor
  · rintro ⟨h1, h2⟩
    exact ⟨by omega, fun x hx => inR_iff.mp (h2 x hx)⟩
  · rintro ⟨h1, h2⟩
    exact ⟨by omega, fun x hx => inR_iff.mpr (h2 x hx)⟩
theorem l1All_l (l : List Int) (a b : Int) (hl : l.length ≤ 1048576) (d : Nat) : ∀ i : Nat, i + d = l.length → Big (fun k => spec_l1All.l0 k a b l (l.length : Int) i) ((l.drop i).all fun x => inR x a b) := by
  induction d with
  | zero =>
    intro i hi
    refine Big.succ ?_
    simp only [spec_l1All.l0, if_neg (show ¬ (i : Int) < (l.length : Int) by omega)]
    rw [List.drop_of_length_le (by omega)]
    exact Big.some_ _
  | succ d ih =>
    intro i hi
    refine Big.succ ?_
    simp only [spec_l1All.l0]
    have hlt : i < l.length := by omega
    simp only [if_pos (show (i : Int) < (l.length : Int) by omega), if_pos (show 0 ≤ (i : Int) by omega), v_l1In, Option.bind_some]
    rw [List.drop_eq_getElem_cons hlt, List.all_cons, rd_nat, List.getD_eq_getElem?_getD, List.getElem?_eq_getElem hlt, Option.getD_some]
    cases h : inR l[i] a b with
    | true =>
      simp only [if_true, Bool.true_and]
      rw [w64n (by omega)]
      exact ih (i + 1) (by omega)
    | false =>
      simp only [Bool.false_eq_true, if_false, Bool.false_and]
      exact Big.some_ _
theorem l1All_at (l : List Int) (a b : Int) (hl : l.length ≤ 1048576) : Big (fun k => spec_l1All.f k l a b) (l.all fun x => inR x a b) := by
  unfold spec_l1All.f
  exact l1All_l l a b hl l.length 0 (by omega)
theorem roBorn_at (l : List Int) (hl : l.length ≤ 1048576) : Big (fun k => spec_roBorn.f k l) (born l) := by
  unfold spec_roBorn.f born
  simp only [v_l1In, Option.bind_some]
  cases inR (l.length : Int) 1 10 with
  | true =>
    simp only [if_true, Bool.true_and]
    exact Big.bind (l1All_at l 0 2900 hl) (Big.some_ _)
  | false =>
    simp only [Bool.false_eq_true, if_false, Bool.false_and]
    exact Big.some_ _
theorem v_AreBirths (l : List Int) : impl_AreBirths.f l = some (born l) := by
  unfold impl_AreBirths.f born
  simp only [v_between, Option.bind_some]
  cases inR (l.length : Int) 1 10 with
  | true => simp only [if_true, Bool.true_and, impl_areBetween.f, Option.bind_some]; rfl
  | false => simp only [Bool.false_eq_true, if_false, Bool.false_and]
end Go.Proofs.YtknigfnbhlmlgaaDoor.Q
