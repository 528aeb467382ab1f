/- Chapter 8: the program's calendar. Conditions: numbers that fit. -/
import Derived.Test.YtlkommjeflojjaaQkJub
import Derived.Test.YtlkommjeflojjaaK0
import Derived.Test.YtlkommjeflojjaaK4
namespace Go.Proofs.Ytlkommjeflojjaa.Q
open Go.RowKit Go.Proofs.Ytlkommjeflojjaa.K Go.Proofs.YtlkommjeflojjaaW.PrintWords Go.Proofs.YtlkommjeflojjaaW.PrintLast

/-- n years from y on that have jubilees, each with its people. -/
def calF (l : List Int) (e : Int) : Nat → Int → List (List Int)
  | 0, _ => []
  | n + 1, y => (if ((jub l y e).length : Int) > 0 then [y :: jub l y e] else []) ++ calF l e n (y + 1)
theorem calF_length (l : List Int) (e : Int) (n : Nat) : ∀ y, (calF l e n y).length ≤ n := by
  induction n with
  | zero => intro y; simp [calF]
  | succ n ih =>
    intro y
    have := ih (y + 1)
    unfold calF
    rw [List.length_append]
    split <;> simp <;> omega
theorem rd1_cons_drop {l t : List (List Int)} {a : List Int} {i : Nat} (h : l.drop i = a :: t) : rd_L1 l (i : Int) = a ∧ i < l.length ∧ l.drop (i + 1) = t := by
  have hi : i < l.length := by
    rcases Nat.lt_or_ge i l.length with h1 | h1
    · exact h1
    · rw [List.drop_eq_nil_of_le h1] at h
      cases h
  rw [List.drop_eq_getElem_cons hi] at h
  injection h with h1 h2
  exact ⟨by unfold rd_L1; rw [Int.toNat_natCast, List.getD_eq_getElem?_getD, List.getElem?_eq_getElem hi]; exact h1, hi, h2⟩
theorem cal_l (l : List Int) (z e : Int) (hf : Fit l) (hz : z ≤ 3000) (he : 1 ≤ e) (n : Nat) : ∀ (y : Int) (acc : List (List Int)), 0 ≤ y → z + 1 - y = (n : Int) → acc.length + n ≤ 4000 → Big (fun k => impl_calendar.l0 k l z e acc y) (acc ++ calF l e n y, true) := by
  induction n with
  | zero =>
    intro y acc h0 hn hl
    refine Big.succ ?_
    simp only [impl_calendar.l0, if_neg (show ¬ y ≤ z by omega), calF, List.append_nil]
    exact Big.some_ _
  | succ n ih =>
    intro y acc h0 hn hl
    refine Big.succ ?_
    simp only [impl_calendar.l0, if_pos (show y ≤ z by omega)]
    rw [w64 (i := y + 1) (by omega) (by omega)]
    refine Big.bind (jubilees_at l y e hf (by omega) he) ?_
    have hj := jub_length l y e
    have hl10 := hf.1
    unfold calF
    by_cases h : ((jub l y e).length : Int) > 0
    · simp only [if_pos h, Option.bind_some, if_pos (show ([y] : List Int).length + (jub l y e).length < 17592186044416 by simp; omega), if_pos (show acc.length < 5864062014805 by omega)]
      rw [← List.append_assoc]
      exact ih (y + 1) (acc ++ [y :: jub l y e]) (by omega) (by omega) (by simp; omega)
    · simp only [if_neg h, List.nil_append]
      exact ih (y + 1) acc (by omega) (by omega) (by omega)
theorem calendar_at (l : List Int) (f t e : Int) : Big (fun k => impl_calendar.f k l f t e) (if (born l && span f t && inR e 1 100) = true then (calF l e (t + 1 - f).toNat f, true) else ([], false)) := by
  have n2 : Big (fun k => impl_calendar.j0 k l f t e true) ([], false) := Big.succ (by simp only [impl_calendar.j0, if_true]; exact Big.some_ _)
  unfold impl_calendar.f
  simp only [v_AreBirths, v_isSpan, v_isEvery, Option.bind_some]
  cases h1 : born l with
  | false => simpa only [Bool.false_and, Bool.false_eq_true, if_false] using n2
  | true =>
    cases h2 : span f t with
    | false => simpa only [Bool.and_false, Bool.false_and, Bool.false_eq_true, if_false, if_true] using n2
    | true =>
      cases h3 : inR e 1 100 with
      | false => simpa only [Bool.and_false, Bool.false_eq_true, if_false, if_true, Bool.not_false] using n2
      | true =>
        have hf := fit_of_born h1
        have hs := span_iff.mp h2
        have he := (inR_iff.mp h3).1
        simp only [Bool.and_true, if_true, Bool.not_true]
        refine Big.succ ?_
        simp only [impl_calendar.j0, Bool.false_eq_true, if_false]
        exact cal_l l t e hf (by omega) he _ f [] (by omega) (by omega) (by simp; omega)
end Go.Proofs.Ytlkommjeflojjaa.Q
