/- Chapter 8: Anniversaries, DoubleYear, SumOfAges, YearOfSum, SharedEvery, BestEvery, NextJubilee, JubileesIn: program and reference answer alike. Condition: a list of at most 2^20 numbers that fit in 64 bits. -/
import Derived.Test.YtgjhhjhcleofcaaQJub
import Derived.Test.YtgjhhjhcleofcaaX1
import Derived.Test.YtgjhhjhcleofcaaX12
import Derived.Test.YtgjhhjhcleofcaaX13
import Derived.Test.YtgjhhjhcleofcaaX15
import Derived.Test.YtgjhhjhcleofcaaX17
import Derived.Test.YtgjhhjhcleofcaaX18
import Derived.Test.YtgjhhjhcleofcaaX5
import Derived.Test.YtgjhhjhcleofcaaX6
import Derived.Test.YtgjhhjhcleofcaaX8
import Derived.Test.YtgjhhjhcleofcaaX9
namespace Go.Proofs.Ytgjhhjhcleofcaa.Q
open Go.RowKit Go.Proofs.Ytgjhhjhcleofcaa.X Go.Proofs.YtgjhhjhcleofcaaW.PrintWords Go.Proofs.YtgjhhjhcleofcaaW.PrintLast

/-- n years from y on that are so. -/
def yrs (p : Int → Bool) : Nat → Int → List Int
  | 0, _ => []
  | n + 1, y => (if p y then [y] else []) ++ yrs p n (y + 1)
theorem sAnn_l (s z e : Int) (hs : 0 ≤ s ∧ s ≤ 3000) (ht : z ≤ 3000) (he : 1 ≤ e) (n : Nat) : ∀ (y : Int) (acc : List Int), 0 ≤ y → z + 1 - y = (n : Int) → acc.length + n ≤ 4000 → Big (fun k => spec_Anniversaries.l0 k s z e acc y) (acc ++ yrs (fun y => rnd (y - s) e) n y, true) := by
  induction n with
  | zero =>
    intro y acc h0 hn hl
    refine Big.succ ?_
    simp only [spec_Anniversaries.l0, if_neg (show ¬ y ≤ z by omega)]
    simp only [yrs, List.append_nil]
    exact Big.some_ _
  | succ n ih =>
    intro y acc h0 hn hl
    refine Big.succ ?_
    simp only [spec_Anniversaries.l0]
    rw [w64 (i := y - s) (by omega) (by omega), w64 (i := y + 1) (by omega) (by omega)]
    simp only [if_pos (show y ≤ z by omega), v_roRound _ e he, Option.bind_some, if_pos (show acc.length < 17592186044416 by omega)]
    unfold yrs
    cases h5 : rnd (y - s) e with
    | true =>
      simp only [if_true]
      rw [← List.append_assoc]
      exact ih (y + 1) (acc ++ [y]) (by omega) (by omega) (by simp; omega)
    | false =>
      simp only [Bool.false_eq_true, if_false, List.nil_append]
      exact ih (y + 1) acc (by omega) (by omega) (by omega)
theorem iAnn_l (s z e : Int) (hs : 0 ≤ s ∧ s ≤ 3000) (ht : z ≤ 3000) (he : 1 ≤ e) (n : Nat) : ∀ (y : Int) (acc : List Int), 0 ≤ y → z + 1 - y = (n : Int) → acc.length + n ≤ 4000 → Big (fun k => impl_Anniversaries.l0 k s z e acc y) (acc ++ yrs (fun y => rnd (y - s) e) n y, true) := by
  induction n with
  | zero =>
    intro y acc h0 hn hl
    refine Big.succ ?_
    simp only [impl_Anniversaries.l0, if_neg (show ¬ y ≤ z by omega)]
    simp only [yrs, List.append_nil]
    exact Big.some_ _
  | succ n ih =>
    intro y acc h0 hn hl
    refine Big.succ ?_
    simp only [impl_Anniversaries.l0]
    rw [w64 (i := y - s) (by omega) (by omega), w64 (i := y + 1) (by omega) (by omega)]
    simp only [if_pos (show y ≤ z by omega), v_isRound _ e he, Option.bind_some, if_pos (show acc.length < 17592186044416 by omega)]
    unfold yrs
    cases h5 : rnd (y - s) e with
    | true =>
      simp only [if_true]
      rw [← List.append_assoc]
      exact ih (y + 1) (acc ++ [y]) (by omega) (by omega) (by simp; omega)
    | false =>
      simp only [Bool.false_eq_true, if_false, List.nil_append]
      exact ih (y + 1) acc (by omega) (by omega) (by omega)
theorem yrs_length (p : Int → Bool) (n : Nat) : ∀ y, (yrs p n y).length ≤ n := by
  induction n with
  | zero => intro y; simp [yrs]
  | succ n ih =>
    intro y
    have := ih (y + 1)
    unfold yrs
    rw [List.length_append]
    split <;> simp <;> omega
theorem Anniversaries_both (s f t e : Int) : ∃ R : List Int × Bool, R.1.length ≤ 1048576 ∧ Big (fun k => spec_Anniversaries.f k s f t e) R ∧ Big (fun k => impl_Anniversaries.f k s f t e) R := by
  unfold spec_Anniversaries.f impl_Anniversaries.f
  simp only [v_l1In, v_isYear, v_roSpan, v_isSpan, v_roEvery, v_isEvery, Option.bind_some]
  have no : ∃ R : List Int × Bool, R.1.length ≤ 1048576 ∧ Big (fun k => spec_Anniversaries.j0 k s f t e true) R ∧ Big (fun k => impl_Anniversaries.j0 k s f t e true) R :=
    ⟨([], false), by simp, Big.succ (by simp only [spec_Anniversaries.j0, if_true]; exact Big.some_ _), Big.succ (by simp only [impl_Anniversaries.j0, if_true]; exact Big.some_ _)⟩
  cases h1 : inR s 0 3000 with
  | false => simpa only [Bool.false_eq_true, if_false] using no
  | true =>
    simp only [if_true]
    cases h2 : span f t with
    | false => simpa only [Bool.false_eq_true, if_false] using no
    | true =>
      simp only [if_true]
      cases h3 : inR e 1 100 with
      | false => simpa only [Bool.not_false] using no
      | true =>
        simp only [Bool.not_true]
        rw [inR_iff] at h1 h3
        rw [span_iff] at h2
        refine ⟨([] ++ yrs (fun y => rnd (y - s) e) (t + 1 - f).toNat f, true), ?_, Big.succ ?_, Big.succ ?_⟩
        · have := yrs_length (fun y => rnd (y - s) e) (t + 1 - f).toNat f
          simp only [List.nil_append]
          omega
        · simp only [spec_Anniversaries.j0, Bool.false_eq_true, if_false]
          exact sAnn_l s t e h1 (by omega) h3.1 _ f [] (by omega) (by omega) (by simp; omega)
        · simp only [impl_Anniversaries.j0, Bool.false_eq_true, if_false]
          exact iAnn_l s t e h1 (by omega) h3.1 _ f [] (by omega) (by omega) (by simp; omega)

theorem v_is (l : List Int) (a : Int) (hl : l.length ≤ 1048576) : impl_is.f l a = some (inR a 0 ((l.length : Int) - 1)) := by
  unfold impl_is.f
  rw [w64 (by omega) (by omega), v_between, Option.bind_some]
theorem rd_mem {l : List Int} {i : Int} (h0 : 0 ≤ i) (h1 : i < (l.length : Int)) : rd l i ∈ l := by
  have h : i.toNat < l.length := by omega
  unfold rd
  rw [List.getD_eq_getElem?_getD, List.getElem?_eq_getElem h]
  exact List.getElem_mem h
theorem DoubleYear_both (l : List Int) (a b : Int) (hl : l.length ≤ 1048576) : ∃ R : Int × Bool, Big (fun k => spec_DoubleYear.f k l a b) R ∧ Big (fun k => impl_DoubleYear.f k l a b) R := by
  have no : ∃ R : Int × Bool, Big (fun k => spec_DoubleYear.j0 k l a b true) R ∧ Big (fun k => impl_DoubleYear.j0 k l a b true) R :=
    ⟨(0, false), Big.succ (by simp only [spec_DoubleYear.j0, if_true]; exact Big.some_ _), Big.succ (by simp only [impl_DoubleYear.j0, if_true]; exact Big.some_ _)⟩
  have hw : wrap64 ((l.length : Int) - 1) = (l.length : Int) - 1 := w64 (by omega) (by omega)
  have key : ∃ R : Int × Bool, Big (fun k => (some (born l)).bind fun t201 => (if t201 = true then ((spec_l1In.f a 0 (wrap64 ((l.length : Int) - 1))).bind fun t202 => (if t202 = true then ((spec_l1In.f b 0 (wrap64 ((l.length : Int) - 1))).bind fun t203 => (if t203 = true then (spec_DoubleYear.j0 k l a b (a == b)) else (spec_DoubleYear.j0 k l a b true))) else (spec_DoubleYear.j0 k l a b true))) else (spec_DoubleYear.j0 k l a b true))) R ∧ Big (fun k => impl_DoubleYear.f k l a b) R := by
    unfold impl_DoubleYear.f
    simp only [v_AreBirths, v_l1In, v_is l _ hl, hw, Option.bind_some]
    cases h1 : born l with
    | false => simpa only [Bool.false_eq_true, if_false] using no
    | true =>
      simp only [if_true]
      cases h2 : inR a 0 ((l.length : Int) - 1) with
      | false => simpa only [Bool.false_eq_true, if_false] using no
      | true =>
        simp only [if_true]
        cases h3 : inR b 0 ((l.length : Int) - 1) with
        | false => simpa only [Bool.false_eq_true, if_false] using no
        | true =>
          simp only [if_true]
          cases h4 : (a == b) with
          | true => exact no
          | false =>
            have hf := fit_of_born h1
            rw [inR_iff] at h2 h3
            have ha := hf.2 _ (rd_mem h2.1 (show a < (l.length : Int) by omega))
            have hb := hf.2 _ (rd_mem h3.1 (show b < (l.length : Int) by omega))
            generalize hA : rd l a = A at ha
            generalize hB : rd l b = B at hb
            have e1 : wrap64 (B - A) = B - A := w64 (by omega) (by omega)
            have e2 : wrap64 (2 * (B - A)) = 2 * (B - A) := w64 (by omega) (by omega)
            have e3 : wrap64 (B + (B - A)) = B + (B - A) := w64 (by omega) (by omega)
            have e4 : wrap64 (2 * B) = 2 * B := w64 (by omega) (by omega)
            have e5 : wrap64 (2 * B - A) = 2 * B - A := w64 (by omega) (by omega)
            have g1 : (if B - A < 1 then ((0 : Int), false) else if 2 * (B - A) > 120 then (0, false) else if B + (B - A) > 3000 then (0, false) else (B + (B - A), true)) =
                (if inR (2 * B - A) 0 3000 = true then if inR (2 * B - A - A) 0 120 = true then if inR (2 * B - A - B) 0 120 = true then if 2 * B - A - B = 0 then ((0 : Int), false) else (2 * B - A, true) else (0, false) else (0, false) else (0, false)) := by
              simp only [inR_iff]
              have e : B + (B - A) = 2 * B - A := by omega
              rw [e]
              split
              · split
                · split
                  · split
                    · split
                      · rfl
                      · omega
                    · rfl
                  · rfl
                · rfl
              · split
                · split
                  · split
                    · split
                      · split
                        · rfl
                        · omega
                      · rfl
                    · rfl
                  · rfl
                · split
                  · split
                    · split
                      · split
                        · split
                          · rfl
                          · omega
                        · rfl
                      · rfl
                    · rfl
                  · rw [if_pos (by omega), if_pos (by omega), if_pos (by omega), if_neg (by omega)]
            have e6 : wrap64 (2 * B - A - A) = 2 * B - A - A := w64 (by omega) (by omega)
            have e7 : wrap64 (2 * B - A - B) = 2 * B - A - B := w64 (by omega) (by omega)
            have q1 : impl_ageIn.f A (2 * B - A) = some (2 * B - A - A, inR (2 * B - A - A) 0 120) := by
              unfold impl_ageIn.f impl_isAge.f
              rw [e6, v_between]
              rfl
            have q2 : impl_ageIn.f B (2 * B - A) = some (2 * B - A - B, inR (2 * B - A - B) 0 120) := by
              unfold impl_ageIn.f impl_isAge.f
              rw [e7, v_between]
              rfl
            refine ⟨if B - A < 1 then ((0 : Int), false) else if 2 * (B - A) > 120 then (0, false) else if B + (B - A) > 3000 then (0, false) else (B + (B - A), true), Big.succ ?_, Big.succ ?_⟩
            · simp only [spec_DoubleYear.j0, Bool.false_eq_true, if_false, if_pos h3.1, if_pos h2.1, if_pos (show b < (l.length : Int) by omega), if_pos (show a < (l.length : Int) by omega), hA, hB, e1, e2, e3]
              exact Big.of (by rw [← apply_ite some, ← apply_ite some, ← apply_ite some])
            · simp only [impl_DoubleYear.j0, Bool.false_eq_true, if_false, if_pos h3.1, if_pos h2.1, if_pos (show b < (l.length : Int) by omega), if_pos (show a < (l.length : Int) by omega), hA, hB, e4, e5, q1, q2, v_isYear, Option.bind_some]
              exact Big.of (by rw [g1, ← apply_ite some, ← apply_ite some, ← apply_ite some, ← apply_ite some])
  obtain ⟨R, h1, h2⟩ := key
  refine ⟨R, ?_, h2⟩
  unfold spec_DoubleYear.f
  exact Big.bind (roBorn_at l hl) (by simpa only [Option.bind_some] using h1)

theorem SumOfAges_both (l : List Int) (y : Int) (hl : l.length ≤ 1048576) : ∃ R : Int × Bool, Big (fun k => spec_SumOfAges.f k l y) R ∧ Big (fun k => impl_SumOfAges.f k l y) R := by
  cases h1 : born l with
  | false => exact ⟨(0, false), by unfold spec_SumOfAges.f; exact Big.bind (roYear_at l y hl) (by simp only [h1, Bool.false_and, Bool.false_eq_true, if_false]; exact Big.some_ _), by unfold impl_SumOfAges.f; simp only [v_AreBirths, h1, Option.bind_some, Bool.false_eq_true, if_false]; exact Big.some_ _⟩
  | true =>
    cases h2 : inR y 0 3000 with
    | false => exact ⟨(0, false), by unfold spec_SumOfAges.f; exact Big.bind (roYear_at l y hl) (by simp only [h1, h2, Bool.and_false, Bool.false_eq_true, if_false]; exact Big.some_ _), by unfold impl_SumOfAges.f; simp only [v_AreBirths, v_isYear, h1, h2, Option.bind_some, Bool.false_eq_true, if_false, if_true]; exact Big.some_ _⟩
    | true =>
      have hy := inR_iff.mp h2
      have hf := fit_of_born h1
      refine ⟨(sumA y l, true), ?_, ?_⟩
      · unfold spec_SumOfAges.f
        refine Big.bind (roYear_at l y hl) ?_
        simp only [h1, h2, Bool.and_true, if_true]
        exact Big.bind (roSum_at l y hf hy) (Big.some_ _)
      · unfold impl_SumOfAges.f
        simp only [v_AreBirths, v_isYear, h1, h2, Option.bind_some, if_true]
        exact Big.bind (sumOfAges_at l y hf hy) (Big.some_ _)

/-- The first of n years from y on with a sum of at least s. -/
def yosF (l : List Int) (s : Int) : Nat → Int → Int × Bool
  | 0, _ => (0, false)
  | n + 1, y => if sumA y l ≥ s then (y, true) else yosF l s n (y + 1)
theorem sYos_l (l : List Int) (s : Int) (hf : Fit l) (n : Nat) : ∀ y : Int, 0 ≤ y → 3001 - y = (n : Int) → Big (fun k => spec_YearOfSum.l0 k l s y) (yosF l s n y) := by
  induction n with
  | zero =>
    intro y h0 hn
    refine Big.succ ?_
    simp only [spec_YearOfSum.l0, if_neg (show ¬ y ≤ 3000 by omega)]
    exact Big.some_ _
  | succ n ih =>
    intro y h0 hn
    refine Big.succ ?_
    simp only [spec_YearOfSum.l0]
    simp only [if_pos (show y ≤ 3000 by omega)]
    rw [w64 (by omega) (by omega)]
    refine Big.bind (roSum_at l y hf (by omega)) ?_
    unfold yosF
    by_cases h : sumA y l ≥ s
    · simp only [if_pos h]
      exact Big.some_ _
    · simp only [if_neg h]
      exact ih (y + 1) (by omega) (by omega)
theorem iYos_l (l : List Int) (s : Int) (hf : Fit l) (n : Nat) : ∀ y : Int, 0 ≤ y → 3001 - y = (n : Int) → Big (fun k => impl_YearOfSum.l0 k l s y) (yosF l s n y) := by
  induction n with
  | zero =>
    intro y h0 hn
    refine Big.succ ?_
    simp only [impl_YearOfSum.l0, if_neg (show ¬ y < 3001 by omega)]
    exact Big.some_ _
  | succ n ih =>
    intro y h0 hn
    refine Big.succ ?_
    simp only [impl_YearOfSum.l0]
    simp only [if_pos (show y < 3001 by omega)]
    rw [w64 (by omega) (by omega)]
    refine Big.bind (sumOfAges_at l y hf (by omega)) ?_
    unfold yosF
    by_cases h : sumA y l ≥ s
    · simp only [if_pos h]
      exact Big.some_ _
    · simp only [if_neg h]
      exact ih (y + 1) (by omega) (by omega)
theorem YearOfSum_both (l : List Int) (s : Int) (hl : l.length ≤ 1048576) : ∃ R : Int × Bool, Big (fun k => spec_YearOfSum.f k l s) R ∧ Big (fun k => impl_YearOfSum.f k l s) R := by
  have n1 : Big (fun k => spec_YearOfSum.j0 k l s true) (0, false) := Big.succ (by simp only [spec_YearOfSum.j0, if_true]; exact Big.some_ _)
  have n2 : Big (fun k => impl_YearOfSum.j0 k l s true) (0, false) := Big.succ (by simp only [impl_YearOfSum.j0, if_true]; exact Big.some_ _)
  unfold spec_YearOfSum.f impl_YearOfSum.f
  simp only [v_AreBirths, v_between, v_l1In, Option.bind_some]
  cases h1 : born l with
  | false => exact ⟨_, Big.bind (roBorn_at l hl) (by simpa only [h1, Bool.false_eq_true, if_false] using n1), by simpa only [Bool.false_eq_true, if_false] using n2⟩
  | true =>
    cases h2 : inR s 1 1000 with
    | false => exact ⟨_, Big.bind (roBorn_at l hl) (by simpa only [h1, if_true, Bool.not_false] using n1), by simpa only [if_true, Bool.not_false] using n2⟩
    | true =>
      have hf := fit_of_born h1
      refine ⟨yosF l s 3001 0, Big.bind (roBorn_at l hl) ?_, ?_⟩
      · simp only [h1, if_true, Bool.not_true]
        refine Big.succ ?_
        simp only [spec_YearOfSum.j0, Bool.false_eq_true, if_false]
        exact sYos_l l s hf 3001 0 (by omega) (by omega)
      · simp only [if_true, Bool.not_true]
        refine Big.succ ?_
        simp only [impl_YearOfSum.j0, Bool.false_eq_true, if_false]
        exact iYos_l l s hf 3001 0 (by omega) (by omega)

theorem AreBirths_both (l : List Int) (hl : l.length ≤ 1048576) : ∃ R : Bool, Big (fun k => spec_AreBirths.f k l) R ∧ Big (fun _ => impl_AreBirths.f l) R :=
  ⟨born l, AreBirths_at l hl, Big.of (v_AreBirths l)⟩
end Go.Proofs.Ytgjhhjhcleofcaa.Q
