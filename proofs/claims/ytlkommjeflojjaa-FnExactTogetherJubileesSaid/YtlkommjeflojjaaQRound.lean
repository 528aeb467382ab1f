/- Chapter 8 (round sums) in plain words: what the program's and the reference's functions answer. Conditions: numbers that fit. -/
import Derived.Test.YtlkommjeflojjaaQHarness
import Derived.Test.YtlkommjeflojjaaQVals
import Derived.Test.YtlkommjeflojjaaX1
import Derived.Test.YtlkommjeflojjaaX12
import Derived.Test.YtlkommjeflojjaaX4
import Derived.Test.YtlkommjeflojjaaX5
namespace Go.Proofs.Ytlkommjeflojjaa.Q
open Go.RowKit Go.Proofs.Ytlkommjeflojjaa.X Go.Proofs.YtlkommjeflojjaaW.PrintWords Go.Proofs.YtlkommjeflojjaaW.PrintLast

theorem v_roEvery (e : Int) : spec_roEvery.f e = some (inR e 1 100) := by simp [spec_roEvery.f, v_l1In]
theorem v_isEvery (e : Int) : impl_isEvery.f e = some (inR e 1 100) := by simp [impl_isEvery.f, v_between]
theorem v_isYear (y : Int) : impl_isYear.f y = some (inR y 0 3000) := by simp [impl_isYear.f, v_between]

def span (f t : Int) : Bool := decide (0 ≤ f ∧ f ≤ t ∧ t ≤ 3000 ∧ t - f < 200)
theorem span_iff {f t : Int} : span f t = true ↔ 0 ≤ f ∧ f ≤ t ∧ t ≤ 3000 ∧ t - f < 200 := by simp [span]
theorem v_roSpan (f t : Int) : spec_roSpan.f f t = some (span f t) := by
  unfold spec_roSpan.f
  simp only [v_l1In, Option.bind_some]
  by_cases h1 : inR t 0 3000 = true
  · rw [if_pos h1]
    rw [inR_iff] at h1
    by_cases h2 : inR f 0 t = true
    · rw [if_pos h2]
      rw [inR_iff] at h2
      rw [w64 (by omega) (by omega)]
      unfold span
      congr 1
      rw [decide_eq_decide]
      omega
    · rw [if_neg h2]
      rw [inR_iff] at h2
      unfold span
      congr 1
      rw [eq_comm, decide_eq_false_iff_not]
      omega
  · rw [if_neg h1]
    rw [inR_iff] at h1
    unfold span
    congr 1
    rw [eq_comm, decide_eq_false_iff_not]
    omega
theorem v_isSpan (f t : Int) : impl_isSpan.f f t = some (span f t) := by
  unfold impl_isSpan.f
  simp only [v_isYear, v_between, Option.bind_some]
  by_cases h1 : inR f 0 3000 = true
  · rw [if_pos h1]
    rw [inR_iff] at h1
    by_cases h2 : inR t f 3000 = true
    · rw [if_pos h2]
      rw [inR_iff] at h2
      rw [w64 (by omega) (by omega)]
      unfold span
      congr 1
      rw [decide_eq_decide]
      omega
    · rw [if_neg h2]
      rw [inR_iff] at h2
      unfold span
      congr 1
      rw [eq_comm, decide_eq_false_iff_not]
      omega
  · rw [if_neg h1]
    rw [inR_iff] at h1
    unfold span
    congr 1
    rw [eq_comm, decide_eq_false_iff_not]
    omega

/-- Round: greater than 0, and a multiple. -/
def rnd (a e : Int) : Bool := decide (0 < a) && (Int.tmod a e == 0)
theorem v_roRound (a e : Int) (he : 1 ≤ e) : spec_roRound.f a e = some (rnd a e) := by
  unfold spec_roRound.f rnd
  by_cases h : a > 0
  · rw [if_pos h, if_neg (by omega), decide_eq_true (show 0 < a from h), Bool.true_and]
  · rw [if_neg h, decide_eq_false (show ¬ 0 < a from h), Bool.false_and]
theorem v_isRound (a e : Int) (he : 1 ≤ e) : impl_isRound.f a e = some (rnd a e) := by
  unfold impl_isRound.f rnd
  by_cases h : a > 0
  · rw [if_pos h, if_neg (by omega), decide_eq_true (show 0 < a from h), Bool.true_and]
  · rw [if_neg h, decide_eq_false (show ¬ 0 < a from h), Bool.false_and]

/-- Births: 1..10 numbers in 0..2900. -/
def born (l : List Int) : Bool := inR (l.length : Int) 1 10 && l.all fun x => inR x 0 2900
theorem born_iff {l : List Int} : born l = true ↔ (1 ≤ l.length ∧ l.length ≤ 10) ∧ ∀ x ∈ l, 0 ≤ x ∧ x ≤ 2900 := by
  unfold born
  rw [Bool.and_eq_true, inR_iff, List.all_eq_true]
  constructor
  · rintro ⟨h1, h2⟩
    exact ⟨by omega, fun x hx => inR_iff.mp (h2 x hx)⟩
  · rintro ⟨h1, h2⟩
    exact ⟨by omega, fun x hx => inR_iff.mpr (h2 x hx)⟩
theorem l1All_l (l : List Int) (a b : Int) (hl : l.length ≤ 1048576) (d : Nat) : ∀ i : Nat, i + d = l.length → Big (fun k => spec_l1All.l0 k a b l (l.length : Int) i) ((l.drop i).all fun x => inR x a b) := by
  induction d with
  | zero =>
    intro i hi
    refine Big.succ ?_
    simp only [spec_l1All.l0, if_neg (show ¬ (i : Int) < (l.length : Int) by omega)]
    rw [List.drop_of_length_le (by omega)]
    exact Big.some_ _
  | succ d ih =>
    intro i hi
    refine Big.succ ?_
    simp only [spec_l1All.l0]
    have hlt : i < l.length := by omega
    simp only [if_pos (show (i : Int) < (l.length : Int) by omega), if_pos (show 0 ≤ (i : Int) by omega), v_l1In, Option.bind_some]
    rw [List.drop_eq_getElem_cons hlt, List.all_cons, rd_nat, List.getD_eq_getElem?_getD, List.getElem?_eq_getElem hlt, Option.getD_some]
    cases h : inR l[i] a b with
    | true =>
      simp only [if_true, Bool.true_and]
      rw [w64n (by omega)]
      exact ih (i + 1) (by omega)
    | false =>
      simp only [Bool.false_eq_true, if_false, Bool.false_and]
      exact Big.some_ _
theorem l1All_at (l : List Int) (a b : Int) (hl : l.length ≤ 1048576) : Big (fun k => spec_l1All.f k l a b) (l.all fun x => inR x a b) := by
  unfold spec_l1All.f
  exact l1All_l l a b hl l.length 0 (by omega)
theorem roBorn_at (l : List Int) (hl : l.length ≤ 1048576) : Big (fun k => spec_roBorn.f k l) (born l) := by
  unfold spec_roBorn.f born
  simp only [v_l1In, Option.bind_some]
  cases inR (l.length : Int) 1 10 with
  | true =>
    simp only [if_true, Bool.true_and]
    exact Big.bind (l1All_at l 0 2900 hl) (Big.some_ _)
  | false =>
    simp only [Bool.false_eq_true, if_false, Bool.false_and]
    exact Big.some_ _
theorem v_AreBirths (l : List Int) : impl_AreBirths.f l = some (born l) := by
  unfold impl_AreBirths.f born
  simp only [v_between, Option.bind_some]
  cases inR (l.length : Int) 1 10 with
  | true => simp only [if_true, Bool.true_and, impl_areBetween.f, Option.bind_some]; rfl
  | false => simp only [Bool.false_eq_true, if_false, Bool.false_and]
theorem roYear_at (l : List Int) (y : Int) (hl : l.length ≤ 1048576) : Big (fun k => spec_roYear.f k l y) (born l && inR y 0 3000) := by
  unfold spec_roYear.f
  refine Big.bind (roBorn_at l hl) ?_
  simp only [v_l1In, Option.bind_some]
  cases born l with
  | true => simp only [if_true, Bool.true_and]; exact Big.some_ _
  | false => simp only [Bool.false_eq_true, if_false, Bool.false_and]; exact Big.some_ _
end Go.Proofs.Ytlkommjeflojjaa.Q
