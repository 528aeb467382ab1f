/- Chapter 8: OldestRound, TogetherJubilees, CountJubilees, MostJubilees, RoundSums, LongestQuiet: program and reference answer alike. Condition: a list of at most 2^20 numbers that fit in 64 bits. -/
import Derived.Test.YtlkommjeflojjaaQJub
import Derived.Test.YtlkommjeflojjaaX12
import Derived.Test.YtlkommjeflojjaaX17
import Derived.Test.YtlkommjeflojjaaX18
import Derived.Test.YtlkommjeflojjaaX8
import Derived.Test.YtlkommjeflojjaaX9
namespace Go.Proofs.Ytlkommjeflojjaa.Q
open Go.RowKit Go.Proofs.Ytlkommjeflojjaa.X Go.Proofs.YtlkommjeflojjaaW.PrintWords Go.Proofs.YtlkommjeflojjaaW.PrintLast

/-- n years from y on that are so. -/
def yrs (p : Int → Bool) : Nat → Int → List Int
  | 0, _ => []
  | n + 1, y => (if p y then [y] else []) ++ yrs p n (y + 1)
theorem yrs_length (p : Int → Bool) (n : Nat) : ∀ y, (yrs p n y).length ≤ n := by
  induction n with
  | zero => intro y; simp [yrs]
  | succ n ih =>
    intro y
    have := ih (y + 1)
    unfold yrs
    rw [List.length_append]
    split <;> simp <;> omega
theorem yrs_add (p : Int → Bool) (m n : Nat) : ∀ y, yrs p (m + n) y = yrs p m y ++ yrs p n (y + (m : Int)) := by
  induction m with
  | zero => intro y; simp [yrs]
  | succ m ih =>
    intro y
    rw [Nat.succ_add]
    simp only [yrs]
    rw [ih, List.append_assoc, show y + 1 + (m : Int) = y + ((m + 1 : Nat) : Int) by omega]
theorem yrs_none (p : Int → Bool) (n : Nat) : ∀ y, (∀ z, y ≤ z → z < y + (n : Int) → p z = false) → yrs p n y = [] := by
  induction n with
  | zero => intro y _; simp [yrs]
  | succ n ih =>
    intro y h
    unfold yrs
    rw [h y (by omega) (by omega), ih (y + 1) (fun z h1 h2 => h z (by omega) (by omega))]
    rfl
theorem roAll_at (l : List Int) (f t e : Int) (hl : l.length ≤ 1048576) : Big (fun k => spec_roAll.f k l f t e) (born l && span f t && inR e 1 100) := by
  unfold spec_roAll.f
  refine Big.bind (roBorn_at l hl) ?_
  simp only [v_roSpan, v_roEvery, Option.bind_some]
  refine Big.of ?_
  cases born l <;> cases span f t <;> simp

theorem sRS_l (l : List Int) (z e : Int) (hf : Fit l) (hz : z ≤ 3000) (he : 1 ≤ e) (n : Nat) : ∀ (y : Int) (acc : List Int), 0 ≤ y → z + 1 - y = (n : Int) → acc.length + n ≤ 4000 → Big (fun k => spec_RoundSums.l0 k l z e acc y) (acc ++ yrs (fun y => rnd (sumA y l) e) n y, true) := by
  induction n with
  | zero =>
    intro y acc h0 hn hl
    refine Big.succ ?_
    simp only [spec_RoundSums.l0, if_neg (show ¬ y ≤ z by omega), yrs, List.append_nil]
    exact Big.some_ _
  | succ n ih =>
    intro y acc h0 hn hl
    refine Big.succ ?_
    simp only [spec_RoundSums.l0, if_pos (show y ≤ z by omega)]
    rw [w64 (i := y + 1) (by omega) (by omega)]
    refine Big.bind (roSum_at l y hf (by omega)) ?_
    simp only [v_roRound _ e he, Option.bind_some, if_pos (show acc.length < 17592186044416 by omega)]
    unfold yrs
    cases h5 : rnd (sumA y l) e with
    | true =>
      simp only [if_true]
      rw [← List.append_assoc]
      exact ih (y + 1) (acc ++ [y]) (by omega) (by omega) (by simp; omega)
    | false =>
      simp only [Bool.false_eq_true, if_false, List.nil_append]
      exact ih (y + 1) acc (by omega) (by omega) (by omega)
theorem iRS_l (l : List Int) (z e : Int) (hf : Fit l) (hz : z ≤ 3000) (he : 1 ≤ e) (n : Nat) : ∀ (y : Int) (acc : List Int), 0 ≤ y → z + 1 - y = (n : Int) → acc.length + n ≤ 4000 → Big (fun k => impl_RoundSums.l0 k l z e acc y) (acc ++ yrs (fun y => rnd (sumA y l) e) n y, true) := by
  induction n with
  | zero =>
    intro y acc h0 hn hl
    refine Big.succ ?_
    simp only [impl_RoundSums.l0, if_neg (show ¬ y ≤ z by omega), yrs, List.append_nil]
    exact Big.some_ _
  | succ n ih =>
    intro y acc h0 hn hl
    refine Big.succ ?_
    simp only [impl_RoundSums.l0, if_pos (show y ≤ z by omega)]
    rw [w64 (i := y + 1) (by omega) (by omega)]
    refine Big.bind (sumOfAges_at l y hf (by omega)) ?_
    simp only [v_isRound _ e he, Option.bind_some, if_pos (show acc.length < 17592186044416 by omega)]
    unfold yrs
    cases h5 : rnd (sumA y l) e with
    | true =>
      simp only [if_true]
      rw [← List.append_assoc]
      exact ih (y + 1) (acc ++ [y]) (by omega) (by omega) (by simp; omega)
    | false =>
      simp only [Bool.false_eq_true, if_false, List.nil_append]
      exact ih (y + 1) acc (by omega) (by omega) (by omega)
theorem RoundSums_both (l : List Int) (f t e : Int) (hl : l.length ≤ 1048576) : ∃ R : List Int × Bool, R.1.length ≤ 1048576 ∧ Big (fun k => spec_RoundSums.f k l f t e) R ∧ Big (fun k => impl_RoundSums.f k l f t e) R := by
  have n2 : Big (fun k => impl_RoundSums.j0 k l f t e true) ([], false) := Big.succ (by simp only [impl_RoundSums.j0, if_true]; exact Big.some_ _)
  unfold spec_RoundSums.f impl_RoundSums.f
  simp only [v_AreBirths, v_isSpan, v_isEvery, Option.bind_some]
  have hA := roAll_at l f t e hl
  cases h1 : born l with
  | false => exact ⟨([], false), by simp, Big.bind hA (by simp only [h1, Bool.false_and, Bool.false_eq_true, if_false]; exact Big.some_ _), by simpa only [Bool.false_eq_true, if_false] using n2⟩
  | true =>
    cases h2 : span f t with
    | false => exact ⟨([], false), by simp, Big.bind hA (by simp only [h2, Bool.and_false, Bool.false_and, Bool.false_eq_true, if_false]; exact Big.some_ _), by simpa only [Bool.false_eq_true, if_false, if_true] using n2⟩
    | true =>
      cases h3 : inR e 1 100 with
      | false => exact ⟨([], false), by simp, Big.bind hA (by simp only [h3, Bool.and_false, Bool.false_eq_true, if_false]; exact Big.some_ _), by simpa only [Bool.not_false, if_true] using n2⟩
      | true =>
        have hf := fit_of_born h1
        have hs := span_iff.mp h2
        have he := (inR_iff.mp h3).1
        refine ⟨([] ++ yrs (fun y => rnd (sumA y l) e) (t + 1 - f).toNat f, true), ?_, Big.bind hA ?_, ?_⟩
        · have := yrs_length (fun y => rnd (sumA y l) e) (t + 1 - f).toNat f
          simp only [List.nil_append]
          omega
        · simp only [h1, h2, h3, Bool.and_true, if_true]
          exact sRS_l l t e hf (by omega) he _ f [] (by omega) (by omega) (by simp; omega)
        · simp only [if_true, Bool.not_true]
          refine Big.succ ?_
          simp only [impl_RoundSums.j0, Bool.false_eq_true, if_false]
          exact iRS_l l t e hf (by omega) he _ f [] (by omega) (by omega) (by simp; omega)

/-- Everybody has a jubilee. -/
def allJ (l : List Int) (e y : Int) : Bool := ((jub l y e).length : Int) == (l.length : Int)
theorem allJ_head (b : Int) (t : List Int) (e y : Int) (h : allJ (b :: t) e y = true) : b < y ∧ y ≤ b + 120 := by
  unfold allJ jub jubF at h
  have h1 := jubF_length y e t (0 + 1)
  cases hc : (inR (y - b) 0 120 && rnd (y - b) e) with
  | false =>
    rw [hc] at h
    simp only [Bool.false_eq_true, if_false, List.nil_append, List.length_cons, beq_iff_eq] at h
    omega
  | true =>
    rw [Bool.and_eq_true, inR_iff] at hc
    unfold rnd at hc
    simp at hc
    omega
theorem sTog_l (l : List Int) (b0 e : Int) (hb : rd l 0 = b0) (hn0 : 0 < l.length) (hf : Fit l) (he : 1 ≤ e) (hb0 : 0 ≤ b0 ∧ b0 ≤ 2900) (n : Nat) : ∀ (y : Int) (acc : List Int), 0 ≤ y → (min (b0 + 120) 3000) + 1 - y = (n : Int) → acc.length + n ≤ 4000 → Big (fun k => spec_TogetherJubilees.l0 k l e acc y) (acc ++ yrs (allJ l e) n y, true) := by
  have hp : (0 : Int) < (l.length : Int) := by omega
  have hw : wrap64 (b0 + 120) = b0 + 120 := w64 (by omega) (by omega)
  induction n with
  | zero =>
    intro y acc h0 hn hl
    refine Big.succ ?_
    simp only [spec_TogetherJubilees.l0, if_pos hp, hb, hw]
    have hfin : Big (fun k => spec_TogetherJubilees.j2 k l e acc y false) (acc ++ yrs (allJ l e) 0 y, true) := Big.succ (by simp only [spec_TogetherJubilees.j2, Bool.false_eq_true, if_false, yrs, List.append_nil]; exact Big.some_ _)
    by_cases h : y ≤ b0 + 120
    · simp only [if_pos h, decide_eq_false (show ¬ y ≤ 3000 by omega)]
      exact hfin
    · simp only [if_neg h]
      exact hfin
  | succ n ih =>
    intro y acc h0 hn hl
    refine Big.succ ?_
    simp only [spec_TogetherJubilees.l0, if_pos hp, hb, hw, if_pos (show y ≤ b0 + 120 by omega), decide_eq_true (show y ≤ 3000 by omega)]
    refine Big.succ ?_
    simp only [spec_TogetherJubilees.j2, if_true]
    rw [w64 (i := y + 1) (by omega) (by omega)]
    refine Big.bind (roIn_at l y e hf (by omega) he) ?_
    unfold yrs
    by_cases h : ((jub l y e).length : Int) = (l.length : Int)
    · have h2 : allJ l e y = true := by unfold allJ; rw [h]; simp
      simp only [if_pos h, if_pos (show acc.length < 17592186044416 by omega), h2, if_true]
      rw [← List.append_assoc]
      exact ih (y + 1) (acc ++ [y]) (by omega) (by omega) (by simp; omega)
    · have h2 : allJ l e y = false := by unfold allJ; simpa using h
      simp only [if_neg h, h2, Bool.false_eq_true, if_false, List.nil_append]
      exact ih (y + 1) acc (by omega) (by omega) (by omega)
theorem iTog_l (l : List Int) (e : Int) (hf : Fit l) (he : 1 ≤ e) (n : Nat) : ∀ (y : Int) (acc : List Int), 0 ≤ y → 3001 - y = (n : Int) → acc.length + n ≤ 4000 → Big (fun k => impl_TogetherJubilees.l0 k l e acc y) (acc ++ yrs (allJ l e) n y, true) := by
  induction n with
  | zero =>
    intro y acc h0 hn hl
    refine Big.succ ?_
    simp only [impl_TogetherJubilees.l0, if_neg (show ¬ y < 3001 by omega), yrs, List.append_nil]
    exact Big.some_ _
  | succ n ih =>
    intro y acc h0 hn hl
    refine Big.succ ?_
    simp only [impl_TogetherJubilees.l0, if_pos (show y < 3001 by omega)]
    rw [w64 (i := y + 1) (by omega) (by omega)]
    refine Big.bind (jubilees_at l y e hf (by omega) he) ?_
    unfold yrs
    by_cases h : ((jub l y e).length : Int) = (l.length : Int)
    · have h2 : allJ l e y = true := by unfold allJ; rw [h]; simp
      simp only [if_pos h, if_pos (show acc.length < 17592186044416 by omega), h2, if_true]
      rw [← List.append_assoc]
      exact ih (y + 1) (acc ++ [y]) (by omega) (by omega) (by simp; omega)
    · have h2 : allJ l e y = false := by unfold allJ; simpa using h
      simp only [if_neg h, h2, Bool.false_eq_true, if_false, List.nil_append]
      exact ih (y + 1) acc (by omega) (by omega) (by omega)
theorem TogetherJubilees_both (l : List Int) (e : Int) (hl : l.length ≤ 1048576) : ∃ R : List Int × Bool, R.1.length ≤ 1048576 ∧ Big (fun k => spec_TogetherJubilees.f k l e) R ∧ Big (fun k => impl_TogetherJubilees.f k l e) R := by
  have n1 : Big (fun k => spec_TogetherJubilees.j0 k l e true) ([], false) := Big.succ (by simp only [spec_TogetherJubilees.j0, if_true]; exact Big.some_ _)
  have n2 : Big (fun k => impl_TogetherJubilees.j0 k l e true) ([], false) := Big.succ (by simp only [impl_TogetherJubilees.j0, if_true]; exact Big.some_ _)
  unfold spec_TogetherJubilees.f impl_TogetherJubilees.f
  simp only [v_AreBirths, v_isEvery, v_roEvery, Option.bind_some]
  cases h1 : born l with
  | false => exact ⟨([], false), by simp, Big.bind (roBorn_at l hl) (by simpa only [h1, Bool.false_eq_true, if_false] using n1), by simpa only [Bool.false_eq_true, if_false] using n2⟩
  | true =>
    cases h3 : inR e 1 100 with
    | false => exact ⟨([], false), by simp, Big.bind (roBorn_at l hl) (by simpa only [h1, if_true, Bool.not_false] using n1), by simpa only [Bool.not_false, if_true] using n2⟩
    | true =>
      have hf := fit_of_born h1
      have he := (inR_iff.mp h3).1
      have hn0 : 0 < l.length := by have := born_iff.mp h1; omega
      obtain ⟨b0, t, hbt⟩ : ∃ b t, l = b :: t := by cases l with
        | nil => simp at hn0
        | cons b t => exact ⟨b, t, rfl⟩
      have hb : rd l 0 = b0 := by rw [hbt]; rfl
      have hb0 : 0 ≤ b0 ∧ b0 ≤ 2900 := hf.2 b0 (by rw [hbt]; exact List.mem_cons_self)
      have hw : wrap64 (b0 + 1) = b0 + 1 := w64 (by omega) (by omega)
      obtain ⟨nn, hnn⟩ : ∃ n : Nat, n = 3001 := ⟨_, rfl⟩
      have key : yrs (allJ l e) nn 0 = yrs (allJ l e) (min (b0 + 120) 3000 - b0).toNat (b0 + 1) := by
        obtain ⟨m, hm⟩ : ∃ m : Nat, (m : Int) = b0 + 1 := ⟨(b0 + 1).toNat, by omega⟩
        obtain ⟨n, hn⟩ : ∃ n : Nat, (n : Int) = min (b0 + 120) 3000 - b0 := ⟨(min (b0 + 120) 3000 - b0).toNat, by omega⟩
        obtain ⟨q, hq⟩ : ∃ q : Nat, (q : Int) = 3000 - min (b0 + 120) 3000 := ⟨(3000 - min (b0 + 120) 3000).toNat, by omega⟩
        have h4 : nn = m + (n + q) := by omega
        have out : ∀ z : Int, (z ≤ b0 ∨ b0 + 120 < z) → allJ l e z = false := by
          intro z hz
          cases hc : allJ l e z with
          | false => rfl
          | true =>
            rw [hbt] at hc
            have := allJ_head b0 t e z hc
            omega
        rw [h4, yrs_add, yrs_add, yrs_none _ m 0 (fun z _ h2 => out z (by omega)), yrs_none _ q _ (fun z h2 h3 => out z (by omega)), List.nil_append, List.append_nil, show (0 : Int) + (m : Int) = b0 + 1 by omega, show (min (b0 + 120) 3000 - b0).toNat = n by omega]
      refine ⟨([] ++ yrs (allJ l e) nn 0, true), ?_, Big.bind (roBorn_at l hl) ?_, ?_⟩
      · have := yrs_length (allJ l e) nn 0
        simp only [List.nil_append]
        omega
      · simp only [h1, if_true, Bool.not_true]
        refine Big.succ ?_
        simp only [spec_TogetherJubilees.j0, Bool.false_eq_true, if_false, if_pos (show (0 : Int) < (l.length : Int) by omega), hb, hw]
        rw [key]
        exact sTog_l l b0 e hb hn0 hf he hb0 _ (b0 + 1) [] (by omega) (by omega) (by simp; omega)
      · simp only [if_true, Bool.not_true]
        refine Big.succ ?_
        simp only [impl_TogetherJubilees.j0, Bool.false_eq_true, if_false]
        exact iTog_l l e hf he nn 0 [] (by omega) (by omega) (by simp; omega)
end Go.Proofs.Ytlkommjeflojjaa.Q
