/- Chapter 8 (round sums) in plain words: what the program's and the reference's functions answer. Conditions: numbers that fit. -/
import Derived.Test.YtlkommjeflojjaaQkHarness
import Derived.Test.YtlkommjeflojjaaQkBorn
import Derived.Test.YtlkommjeflojjaaK1
import Derived.Test.YtlkommjeflojjaaK2
import Derived.Test.YtlkommjeflojjaaK3
import Derived.Test.YtlkommjeflojjaaK4
namespace Go.Proofs.Ytlkommjeflojjaa.Q
open Go.RowKit Go.Proofs.Ytlkommjeflojjaa.K Go.Proofs.YtlkommjeflojjaaW.PrintWords Go.Proofs.YtlkommjeflojjaaW.PrintLast

theorem v_roEvery (e : Int) : spec_roEvery.f e = some (inR e 1 100) := by simp [spec_roEvery.f, v_l1In]
theorem v_isEvery (e : Int) : impl_isEvery.f e = some (inR e 1 100) := by simp [impl_isEvery.f, v_between]

theorem v_isYear (y : Int) : impl_isYear.f y = some (inR y 0 3000) := by simp [impl_isYear.f, v_between]
def span (f t : Int) : Bool := decide (0 ≤ f ∧ f ≤ t ∧ t ≤ 3000 ∧ t - f < 200)
theorem span_iff {f t : Int} : span f t = true ↔ 0 ≤ f ∧ f ≤ t ∧ t ≤ 3000 ∧ t - f < 200 := by simp [span]
theorem v_roSpan (f t : Int) : spec_roSpan.f f t = some (span f t) := by
  unfold spec_roSpan.f
  simp only [v_l1In, Option.bind_some]
  by_cases h1 : inR t 0 3000 = true
  · rw [if_pos h1]
    rw [inR_iff] at h1
    by_cases h2 : inR f 0 t = true
    · rw [if_pos h2]
      rw [inR_iff] at h2
      rw [w64 (by omega) (by omega)]
      unfold span
      congr 1
      rw [decide_eq_decide]
      omega
    · rw [if_neg h2]
      rw [inR_iff] at h2
      unfold span
      congr 1
      rw [eq_comm, decide_eq_false_iff_not]
      omega
  · rw [if_neg h1]
    rw [inR_iff] at h1
    unfold span
    congr 1
    rw [eq_comm, decide_eq_false_iff_not]
    omega
theorem v_isSpan (f t : Int) : impl_isSpan.f f t = some (span f t) := by
  unfold impl_isSpan.f
  simp only [v_isYear, v_between, Option.bind_some]
  by_cases h1 : inR f 0 3000 = true
  · rw [if_pos h1]
    rw [inR_iff] at h1
    by_cases h2 : inR t f 3000 = true
    · rw [if_pos h2]
      rw [inR_iff] at h2
      rw [w64 (by omega) (by omega)]
      unfold span
      congr 1
      rw [decide_eq_decide]
      omega
    · rw [if_neg h2]
      rw [inR_iff] at h2
      unfold span
      congr 1
      rw [eq_comm, decide_eq_false_iff_not]
      omega
  · rw [if_neg h1]
    rw [inR_iff] at h1
    unfold span
    congr 1
    rw [eq_comm, decide_eq_false_iff_not]
    omega

/-- Round: greater than 0, and a multiple. -/
def rnd (a e : Int) : Bool := decide (0 < a) && (Int.tmod a e == 0)
theorem v_roRound (a e : Int) (he : 1 ≤ e) : spec_roRound.f a e = some (rnd a e) := by
  unfold spec_roRound.f rnd
  by_cases h : a > 0
  · rw [if_pos h, if_neg (by omega), decide_eq_true (show 0 < a from h), Bool.true_and]
  · rw [if_neg h, decide_eq_false (show ¬ 0 < a from h), Bool.false_and]
theorem v_isRound (a e : Int) (he : 1 ≤ e) : impl_isRound.f a e = some (rnd a e) := by
  unfold impl_isRound.f rnd
  by_cases h : a > 0
  · rw [if_pos h, if_neg (by omega), decide_eq_true (show 0 < a from h), Bool.true_and]
  · rw [if_neg h, decide_eq_false (show ¬ 0 < a from h), Bool.false_and]

end Go.Proofs.Ytlkommjeflojjaa.Q
