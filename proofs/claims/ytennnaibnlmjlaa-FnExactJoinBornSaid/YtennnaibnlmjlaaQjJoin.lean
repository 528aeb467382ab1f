/- Chapter 8: births, and behind them others. -/
import Derived.Test.YtennnaibnlmjlaaQjBorn
import Derived.Test.YtennnaibnlmjlaaJ0
import Derived.Test.YtennnaibnlmjlaaJ1
import Derived.Test.YtennnaibnlmjlaaJ2
import Derived.Test.YtennnaibnlmjlaaJ3
namespace Go.Proofs.Ytennnaibnlmjlaa.Q
open Go.RowKit Go.Proofs.Ytennnaibnlmjlaa.J Go.Proofs.YtennnaibnlmjlaaW.PrintWords Go.Proofs.YtennnaibnlmjlaaW.PrintLast
set_option linter.unusedSimpArgs false

theorem concat_at (a b : List Int) (ha : a.length ≤ 10) (hb : b.length ≤ 10) : Big (fun k => slices_Concat_int_int.f k [a, b]) (a ++ b) := by
  have e0 : rd_L1 [a, b] 0 = a := rfl
  have e1 : rd_L1 [a, b] 1 = b := rfl
  have z0 : ((0 : Nat) : Int) = 0 := rfl
  have l2 : (([a, b] : List (List Int)).length : Int) = 2 := rfl
  have w0 : wrap64 (0 + (a.length : Int)) = (a.length : Int) := by rw [w64 (by omega) (by omega)]; omega
  have w1 : wrap64 ((a.length : Int) + (b.length : Int)) = (a.length : Int) + (b.length : Int) := w64 (by omega) (by omega)
  have w2 : wrap64 (0 + 1) = 1 := by unfold wrap64; omega
  have w3 : wrap64 (1 + 1) = 2 := by unfold wrap64; omega
  have G : slices_Grow_int_int.f [] ((a.length : Int) + (b.length : Int)) = some [] := by
    unfold slices_Grow_int_int.f
    rw [if_pos ⟨rfl, by omega, by omega⟩]
  unfold slices_Concat_int_int.f
  rw [l2]
  refine Big.succ ?_
  simp only [slices_Concat_int_int.l0, l2, e0, w0, w2, if_pos (show (0 : Int) < 2 by decide), if_pos (show (0 : Int) ≤ 0 by decide), if_neg (show ¬ (a.length : Int) < 0 by omega)]
  refine Big.succ ?_
  simp only [slices_Concat_int_int.l0, l2, e1, w1, w3, if_pos (show (1 : Int) < 2 by decide), if_pos (show (0 : Int) ≤ 1 by decide), if_neg (show ¬ (a.length : Int) + (b.length : Int) < 0 by omega)]
  refine Big.succ ?_
  simp only [slices_Concat_int_int.l0, l2, if_neg (show ¬ (2 : Int) < 2 by decide), G, Option.bind_some]
  refine Big.succ ?_
  simp only [slices_Concat_int_int.l1, l2, e0, w2, if_pos (show (0 : Int) < 2 by decide), if_pos (show (0 : Int) ≤ 0 by decide), List.length_nil, Nat.zero_add, List.nil_append, if_pos (show a.length < 17592186044416 by omega)]
  refine Big.succ ?_
  simp only [slices_Concat_int_int.l1, l2, e1, w3, if_pos (show (1 : Int) < 2 by decide), if_pos (show (0 : Int) ≤ 1 by decide), if_pos (show a.length + b.length < 17592186044416 by omega)]
  refine Big.succ ?_
  simp only [slices_Concat_int_int.l1, if_neg (show ¬ (2 : Int) < 2 by decide)]
  exact Big.some_ _
theorem born_append {a b : List Int} (ha : born a = true) (hb : born b = true) : born (a ++ b) = decide (a.length + b.length ≤ 10) := by
  rw [born_iff] at ha hb
  by_cases h : a.length + b.length ≤ 10
  · rw [decide_eq_true h, born_iff]
    refine ⟨by rw [List.length_append]; omega, fun x hx => ?_⟩
    rcases List.mem_append.mp hx with h1 | h1
    · exact ha.2 x h1
    · exact hb.2 x h1
  · rw [decide_eq_false h, ← Bool.not_eq_true, born_iff, List.length_append]
    omega
theorem JoinBorn_both (a b : List Int) (ha : a.length ≤ 1048576) (hb : b.length ≤ 1048576) : ∃ R : List Int × Bool, R.1.length ≤ 1048576 ∧ Big (fun k => spec_JoinBorn.f k a b) R ∧ Big (fun k => impl_JoinBorn.f k a b) R := by
  unfold spec_JoinBorn.f impl_JoinBorn.f
  have no : Big (fun k => impl_JoinBorn.j0 k a b true) ([], false) := Big.succ (by simp only [impl_JoinBorn.j0, if_true]; exact Big.some_ _)
  have A := roBorn_at a ha
  have B := roBorn_at b hb
  simp only [v_AreBirths, Option.bind_some]
  cases h1 : born a
  · rw [h1] at A
    refine ⟨([], false), by simp, Big.bind A ?_, ?_⟩
    · simp only [Bool.false_eq_true, if_false]
      exact Big.some_ _
    · simp only [Bool.false_eq_true, if_false]
      exact no
  · rw [h1] at A
    cases h2 : born b
    · rw [h2] at B
      refine ⟨([], false), by simp, Big.bind A ?_, ?_⟩
      · simp only [if_true]
        refine Big.bind B ?_
        simp only [Bool.false_eq_true, if_false]
        exact Big.some_ _
      · simp only [if_true, Bool.not_false]
        exact no
    · rw [h2] at B
      have ea := born_iff.mp h1
      have eb := born_iff.mp h2
      have hw : wrap64 ((a.length : Int) + (b.length : Int)) = (a.length : Int) + (b.length : Int) := w64 (by omega) (by omega)
      have J := concat_at a b ea.1.2 eb.1.2
      have hj := born_append h1 h2
      have own : spec_l1Own.f a = some a := by
        unfold spec_l1Own.f
        rw [Option.bind_some, if_pos (by simp; omega)]
        simp
      by_cases h : a.length + b.length ≤ 10
      · rw [decide_eq_true h] at hj
        refine ⟨(a ++ b, true), by simp; omega, Big.bind A ?_, ?_⟩
        · simp only [if_true]
          refine Big.bind B ?_
          simp only [if_true, hw, if_neg (show ¬ (a.length : Int) + (b.length : Int) > 10 by omega), own, Option.bind_some, if_pos (show a.length + b.length < 17592186044416 by omega)]
          exact Big.some_ _
        · simp only [if_true, Bool.not_true]
          refine Big.succ ?_
          simp only [impl_JoinBorn.j0, Bool.false_eq_true, if_false]
          refine Big.bind J ?_
          simp only [impl_bornOr.f, v_AreBirths, hj, Option.bind_some, if_true]
          exact Big.some_ _
      · rw [decide_eq_false h] at hj
        refine ⟨([], false), by simp, Big.bind A ?_, ?_⟩
        · simp only [if_true]
          refine Big.bind B ?_
          simp only [if_true, hw, if_pos (show (a.length : Int) + (b.length : Int) > 10 by omega)]
          exact Big.some_ _
        · simp only [if_true, Bool.not_true]
          refine Big.succ ?_
          simp only [impl_JoinBorn.j0, Bool.false_eq_true, if_false]
          refine Big.bind J ?_
          simp only [impl_bornOr.f, v_AreBirths, hj, Option.bind_some, Bool.false_eq_true, if_false]
          exact Big.some_ _
end Go.Proofs.Ytennnaibnlmjlaa.Q
