/- Numbers between two others, as the program and the reference ask. No condition. -/
import Derived.Test.YtknigfnbhlmlgaaDoorQoTxt
import Derived.Test.YtknigfnbhlmlgaaDoorO1
import Derived.Test.YtknigfnbhlmlgaaDoorO8
namespace Go.Proofs.YtknigfnbhlmlgaaDoor.Q
open Go.RowKit Go.Proofs.YtknigfnbhlmlgaaDoor.O Go.Proofs.YtknigfnbhlmlgaaDoorW.PrintWords Go.Proofs.YtknigfnbhlmlgaaDoorW.PrintLast

def inR (x a b : Int) : Bool := decide (a ≤ x) && decide (x ≤ b)
theorem inR_iff {x a b : Int} : inR x a b = true ↔ a ≤ x ∧ x ≤ b := by simp [inR]
theorem inR_not {x a b : Int} : inR x a b = false ↔ ¬ (a ≤ x ∧ x ≤ b) := by rw [← Bool.not_eq_true, inR_iff]
theorem v_l1In (x a b : Int) : spec_l1In.f x a b = some (inR x a b) := by
  unfold spec_l1In.f inR
  by_cases h : x ≥ a
  · rw [if_pos h, decide_eq_true (show a ≤ x from h), Bool.true_and]
  · rw [if_neg h, decide_eq_false (show ¬ a ≤ x from h), Bool.false_and]
theorem v_between (x a b : Int) : impl_between.f x a b = some (inR x a b) := by
  unfold impl_between.f inR
  by_cases h : x ≥ a
  · rw [if_pos h, decide_eq_true (show a ≤ x from h), Bool.true_and]
  · rw [if_neg h, decide_eq_false (show ¬ a ≤ x from h), Bool.false_and]
end Go.Proofs.YtknigfnbhlmlgaaDoor.Q
