/- Chapter 8: CalendarOf: program and reference answer alike. Condition: a list of at most 2^20 numbers. -/
import Derived.Test.YtlkommjeflojjaaQkCalI
import Derived.Test.YtlkommjeflojjaaQkRoA
import Derived.Test.YtlkommjeflojjaaK3
import Derived.Test.YtlkommjeflojjaaK5
namespace Go.Proofs.Ytlkommjeflojjaa.Q
open Go.RowKit Go.Proofs.Ytlkommjeflojjaa.K Go.Proofs.YtlkommjeflojjaaW.PrintWords Go.Proofs.YtlkommjeflojjaaW.PrintLast

theorem sCal_l (l : List Int) (z e : Int) (hf : Fit l) (hz : z ≤ 3000) (he : 1 ≤ e) (n : Nat) : ∀ (y : Int) (acc : List (List Int)), 0 ≤ y → z + 1 - y = (n : Int) → acc.length + n ≤ 4000 → Big (fun k => spec_CalendarOf.l0 k l z e acc y) (acc ++ calF l e n y, true) := by
  induction n with
  | zero =>
    intro y acc h0 hn hl
    refine Big.succ ?_
    simp only [spec_CalendarOf.l0, if_neg (show ¬ y ≤ z by omega), calF, List.append_nil]
    exact Big.some_ _
  | succ n ih =>
    intro y acc h0 hn hl
    refine Big.succ ?_
    simp only [spec_CalendarOf.l0, if_pos (show y ≤ z by omega)]
    rw [w64 (i := y + 1) (by omega) (by omega)]
    refine Big.bind (roIn_at l y e hf (by omega) he) ?_
    have hj := jub_length l y e
    have hl10 := hf.1
    unfold calF
    by_cases h : ((jub l y e).length : Int) > 0
    · simp only [if_pos h, Option.bind_some, if_pos (show ([y] : List Int).length + (jub l y e).length < 17592186044416 by simp; omega), if_pos (show acc.length < 5864062014805 by omega)]
      rw [← List.append_assoc]
      exact ih (y + 1) (acc ++ [y :: jub l y e]) (by omega) (by omega) (by simp; omega)
    · simp only [if_neg h, List.nil_append]
      exact ih (y + 1) acc (by omega) (by omega) (by omega)
theorem calF_rows (l : List Int) (e : Int) (hl : l.length ≤ 10) (n : Nat) : ∀ y, ∀ x ∈ calF l e n y, x.length ≤ 1000 := by
  induction n with
  | zero => intro y x hx; simp [calF] at hx
  | succ n ih =>
    intro y x hx
    unfold calF at hx
    rcases List.mem_append.mp hx with h | h
    · split at h
      · have h1 : x = y :: jub l y e := by simpa using h
        have := jub_length l y e
        rw [h1, List.length_cons]
        omega
      · cases h
    · exact ih (y + 1) x h
theorem CalendarOf_both (l : List Int) (f t e : Int) (hl : l.length ≤ 1048576) : ∃ R : List (List Int) × Bool, R.1.length ≤ 1000000 ∧ (∀ x ∈ R.1, x.length ≤ 1000) ∧ Big (fun k => spec_CalendarOf.f k l f t e) R ∧ Big (fun k => impl_CalendarOf.f k l f t e) R := by
  have hA := roAll_at l f t e hl
  have hc := calendar_at l f t e
  unfold spec_CalendarOf.f impl_CalendarOf.f
  cases h : (born l && span f t && inR e 1 100)
  · rw [h] at hA hc
    simp only [Bool.false_eq_true, if_false] at hc
    exact ⟨([], false), by simp, by simp, Big.bind hA (by simp only [Bool.false_eq_true, if_false]; exact Big.some_ _), Big.bind hc (Big.some_ _)⟩
  · rw [h] at hA hc
    simp only [if_true] at hc
    rw [Bool.and_eq_true, Bool.and_eq_true] at h
    have hf := fit_of_born h.1.1
    have hs := span_iff.mp h.1.2
    have he := (inR_iff.mp h.2).1
    have h1 := calF_length l e (t + 1 - f).toNat f
    refine ⟨(calF l e (t + 1 - f).toNat f, true), by simp only; omega, calF_rows l e hf.1 _ f, Big.bind hA ?_, Big.bind hc (Big.some_ _)⟩
    simp only [if_true]
    exact sCal_l l t e hf (by omega) he _ f [] (by omega) (by omega) (by simp; omega)
end Go.Proofs.Ytlkommjeflojjaa.Q
