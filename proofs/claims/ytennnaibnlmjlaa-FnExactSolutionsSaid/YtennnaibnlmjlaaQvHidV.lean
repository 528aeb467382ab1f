/- Chapter 9 (puzzles): what clues tell of hidden ages, as the program and the reference tell it. Conditions: as typed. -/
import Derived.Test.YtennnaibnlmjlaaQvVals
import Derived.Test.YtennnaibnlmjlaaV10
import Derived.Test.YtennnaibnlmjlaaV11
import Derived.Test.YtennnaibnlmjlaaV12
import Derived.Test.YtennnaibnlmjlaaV4
import Derived.Test.YtennnaibnlmjlaaV5
import Derived.Test.YtennnaibnlmjlaaV6
namespace Go.Proofs.Ytennnaibnlmjlaa.Q
open Go.RowKit Go.Proofs.Ytennnaibnlmjlaa.V Go.Proofs.YtennnaibnlmjlaaW.PrintWords Go.Proofs.YtennnaibnlmjlaaW.PrintLast

theorem Big.of_mono {α : Type} {g : Nat → Option α} (h : ∀ k, LeO (g k) (g (k + 1))) {K : Nat} {r : α} (hk : g K = some r) : Big g r := ⟨K, fun _ hk' => at_rounds h hk' hk⟩
/-- Sums, products and counts, each step as the machine takes it. -/
def sumW : Int → List Int → Int
  | acc, [] => acc
  | acc, b :: t => sumW (wrap64 (acc + b)) t
def prodW : Int → List Int → Int
  | acc, [] => acc
  | acc, b :: t => prodW (wrap64 (acc * b)) t
def isP (x : Int) : Bool := x == 2 || x == 3 || x == 5 || x == 7 || x == 11
def cntW : Int → List Int → Int
  | acc, [] => acc
  | acc, b :: t => cntW (if isP b = true then wrap64 (acc + 1) else acc) t
theorem total_l (l : List Int) (hl : l.length ≤ 1048576) (t : List Int) : ∀ (i : Nat) (acc : Int), l.drop i = t → i ≤ l.length → Big (fun k => impl_total.l0 k acc l (l.length : Int) i) (sumW acc t) := by
  induction t with
  | nil =>
    intro i acc hd hi
    have hle := drop_nil_le hd
    refine Big.succ ?_
    simp only [impl_total.l0, if_neg (show ¬ (i : Int) < (l.length : Int) by omega), sumW]
    exact Big.some_ _
  | cons b t ih =>
    intro i acc hd hi
    obtain ⟨h1, h2, h3⟩ := rd_cons_drop hd
    refine Big.succ ?_
    simp only [impl_total.l0, h1, if_pos (show (i : Int) < (l.length : Int) by omega), if_pos (show 0 ≤ (i : Int) by omega)]
    rw [w64n (by omega)]
    exact ih (i + 1) _ h3 (by omega)
theorem total_at (l : List Int) (hl : l.length ≤ 1048576) : Big (fun k => impl_total.f k l) (sumW 0 l) := by
  unfold impl_total.f
  exact total_l l hl l 0 0 rfl (Nat.zero_le _)
theorem agSum_l (l : List Int) (hl : l.length ≤ 1048576) (t : List Int) : ∀ (i : Nat) (acc : Int), l.drop i = t → i ≤ l.length → Big (fun k => spec_agSum.l0 k acc l (l.length : Int) i) (sumW acc t) := by
  induction t with
  | nil =>
    intro i acc hd hi
    have hle := drop_nil_le hd
    refine Big.succ ?_
    simp only [spec_agSum.l0, if_neg (show ¬ (i : Int) < (l.length : Int) by omega), sumW]
    exact Big.some_ _
  | cons b t ih =>
    intro i acc hd hi
    obtain ⟨h1, h2, h3⟩ := rd_cons_drop hd
    refine Big.succ ?_
    simp only [spec_agSum.l0, h1, if_pos (show (i : Int) < (l.length : Int) by omega), if_pos (show 0 ≤ (i : Int) by omega)]
    rw [w64n (by omega)]
    exact ih (i + 1) _ h3 (by omega)
theorem agSum_at (l : List Int) (hl : l.length ≤ 1048576) : Big (fun k => spec_agSum.f k l) (sumW 0 l) := by
  unfold spec_agSum.f
  exact agSum_l l hl l 0 0 rfl (Nat.zero_le _)
theorem product_l (l : List Int) (hl : l.length ≤ 1048576) (t : List Int) : ∀ (i : Nat) (acc : Int), l.drop i = t → i ≤ l.length → Big (fun k => impl_product.l0 k acc l (l.length : Int) i) (prodW acc t) := by
  induction t with
  | nil =>
    intro i acc hd hi
    have hle := drop_nil_le hd
    refine Big.succ ?_
    simp only [impl_product.l0, if_neg (show ¬ (i : Int) < (l.length : Int) by omega), prodW]
    exact Big.some_ _
  | cons b t ih =>
    intro i acc hd hi
    obtain ⟨h1, h2, h3⟩ := rd_cons_drop hd
    refine Big.succ ?_
    simp only [impl_product.l0, h1, if_pos (show (i : Int) < (l.length : Int) by omega), if_pos (show 0 ≤ (i : Int) by omega)]
    rw [w64n (by omega)]
    exact ih (i + 1) _ h3 (by omega)
theorem productOf_at (l : List Int) (hl : l.length ≤ 1048576) : Big (fun k => impl_productOf.f k l) (prodW 1 l) := by
  unfold impl_productOf.f impl_product.f
  exact Big.bind (product_l l hl l 0 1 rfl (Nat.zero_le _)) (Big.some_ _)
theorem sProd_l (l : List Int) (hl : l.length ≤ 1048576) (t : List Int) : ∀ (i : Nat) (acc : Int), l.drop i = t → i ≤ l.length → Big (fun k => spec_pzValue.l0 k acc l (l.length : Int) i) (prodW acc t) := by
  induction t with
  | nil =>
    intro i acc hd hi
    have hle := drop_nil_le hd
    refine Big.succ ?_
    simp only [spec_pzValue.l0, if_neg (show ¬ (i : Int) < (l.length : Int) by omega), prodW]
    exact Big.some_ _
  | cons b t ih =>
    intro i acc hd hi
    obtain ⟨h1, h2, h3⟩ := rd_cons_drop hd
    refine Big.succ ?_
    simp only [spec_pzValue.l0, h1, if_pos (show (i : Int) < (l.length : Int) by omega), if_pos (show 0 ≤ (i : Int) by omega)]
    rw [w64n (by omega)]
    exact ih (i + 1) _ h3 (by omega)
theorem inYears_l (l : List Int) (a : Int) (hl : l.length ≤ 1048576) (t : List Int) : ∀ (i : Nat) (acc : List Int), l.drop i = t → i ≤ l.length → acc.length ≤ i → Big (fun k => impl_inYears.l0 k a acc l (l.length : Int) i) (acc ++ t.map fun x => wrap64 (x + a)) := by
  induction t with
  | nil =>
    intro i acc hd hi ha
    have hle := drop_nil_le hd
    refine Big.succ ?_
    simp only [impl_inYears.l0, if_neg (show ¬ (i : Int) < (l.length : Int) by omega), List.map_nil, List.append_nil]
    exact Big.some_ _
  | cons b t ih =>
    intro i acc hd hi ha
    obtain ⟨h1, h2, h3⟩ := rd_cons_drop hd
    refine Big.succ ?_
    simp only [impl_inYears.l0, h1, if_pos (show (i : Int) < (l.length : Int) by omega), if_pos (show 0 ≤ (i : Int) by omega), if_pos (show acc.length < 17592186044416 by omega)]
    rw [w64n (by omega)]
    have := ih (i + 1) (acc ++ [wrap64 (b + a)]) h3 (by omega) (by simp; omega)
    rw [List.append_assoc] at this
    exact this
theorem inYears_at (l : List Int) (a : Int) (hl : l.length ≤ 1048576) : Big (fun k => impl_inYears.f k l a) (l.map fun x => wrap64 (x + a)) := by
  unfold impl_inYears.f
  exact inYears_l l a hl l 0 [] rfl (Nat.zero_le _) (Nat.le_refl _)
theorem isPrime_at (x : Int) (h : 1 ≤ x ∧ x ≤ 12) : Big (fun k => impl_isPrime.f k x) (isP x) := by
  obtain ⟨h1, h2⟩ := h
  rcases (show x = 1 ∨ x = 2 ∨ x = 3 ∨ x = 4 ∨ x = 5 ∨ x = 6 ∨ x = 7 ∨ x = 8 ∨ x = 9 ∨ x = 10 ∨ x = 11 ∨ x = 12 by omega) with rfl | rfl | rfl | rfl | rfl | rfl | rfl | rfl | rfl | rfl | rfl | rfl
  all_goals
    refine Big.of_mono (K := 8) (fun k => impl_isPrime.mono _ k) ?_
    decide +kernel
theorem kiPrime_at (x : Int) (h : 1 ≤ x ∧ x ≤ 12) : Big (fun k => spec_kiPrime.f k x) (isP x) := by
  obtain ⟨h1, h2⟩ := h
  rcases (show x = 1 ∨ x = 2 ∨ x = 3 ∨ x = 4 ∨ x = 5 ∨ x = 6 ∨ x = 7 ∨ x = 8 ∨ x = 9 ∨ x = 10 ∨ x = 11 ∨ x = 12 by omega) with rfl | rfl | rfl | rfl | rfl | rfl | rfl | rfl | rfl | rfl | rfl | rfl
  all_goals
    refine Big.of_mono (K := 20) (fun k => spec_kiPrime.mono _ k) ?_
    decide +kernel
theorem p_toList : (⟨#[112]⟩ : ByteArray).toList = ([112] : List UInt8) := by first | (decide +kernel) | (simp [ByteArray.toList, ByteArray.toList.loop]; done)
theorem countOf_l (l : List Int) (hl : l.length ≤ 1048576) (hb : ∀ x ∈ l, 1 ≤ x ∧ x ≤ 12) (t : List Int) : ∀ (i : Nat) (acc : Int), l.drop i = t → i ≤ l.length → Big (fun k => impl_countOf.l0 k (⟨#[112]⟩ : ByteArray) acc l (l.length : Int) i) (cntW acc t) := by
  induction t with
  | nil =>
    intro i acc hd hi
    have hle := drop_nil_le hd
    refine Big.succ ?_
    simp only [impl_countOf.l0, if_neg (show ¬ (i : Int) < (l.length : Int) by omega), cntW]
    exact Big.some_ _
  | cons b t ih =>
    intro i acc hd hi
    obtain ⟨h1, h2, h3⟩ := rd_cons_drop hd
    have hbm := hb b (List.mem_of_mem_drop (i := i) (by rw [hd]; exact List.mem_cons_self))
    refine Big.succ ?_
    simp only [impl_countOf.l0, h1, if_pos (show (i : Int) < (l.length : Int) by omega), if_pos (show 0 ≤ (i : Int) by omega)]
    rw [w64n (by omega)]
    have hk : Big (fun k => impl_ofKind.f k b (⟨#[112]⟩ : ByteArray)) (isP b) := by
      unfold impl_ofKind.f
      simp only [if_pos p_toList]
      exact Big.bind (isPrime_at b hbm) (Big.some_ _)
    refine Big.bind hk ?_
    unfold cntW
    cases isP b
    · simp only [Bool.false_eq_true, if_false]
      exact ih (i + 1) _ h3 (by omega)
    · simp only [if_true]
      exact ih (i + 1) _ h3 (by omega)
theorem countOf_at (l : List Int) (hl : l.length ≤ 1048576) (hb : ∀ x ∈ l, 1 ≤ x ∧ x ≤ 12) : Big (fun k => impl_countOf.f k l (⟨#[112]⟩ : ByteArray)) (cntW 0 l) := by
  unfold impl_countOf.f
  exact countOf_l l hl hb l 0 0 rfl (Nat.zero_le _)
theorem kiCount_l (l : List Int) (hl : l.length ≤ 1048576) (hb : ∀ x ∈ l, 1 ≤ x ∧ x ≤ 12) (t : List Int) : ∀ (i : Nat) (acc : Int), l.drop i = t → i ≤ l.length → Big (fun k => spec_kiCount.l0 k 0 (⟨#[112]⟩ : ByteArray) acc l (l.length : Int) i) (cntW acc t) := by
  induction t with
  | nil =>
    intro i acc hd hi
    have hle := drop_nil_le hd
    refine Big.succ ?_
    simp only [spec_kiCount.l0, if_neg (show ¬ (i : Int) < (l.length : Int) by omega), cntW]
    exact Big.some_ _
  | cons b t ih =>
    intro i acc hd hi
    obtain ⟨h1, h2, h3⟩ := rd_cons_drop hd
    have hbm := hb b (List.mem_of_mem_drop (i := i) (by rw [hd]; exact List.mem_cons_self))
    refine Big.succ ?_
    simp only [spec_kiCount.l0, h1, if_pos (show (i : Int) < (l.length : Int) by omega), if_pos (show 0 ≤ (i : Int) by omega)]
    rw [w64n (by omega), w64 (i := b + 0) (by omega) (by omega), Int.add_zero]
    have hk : Big (fun k => spec_kiIs.f k b (⟨#[112]⟩ : ByteArray)) (isP b) := by
      unfold spec_kiIs.f
      simp only [if_pos p_toList]
      exact Big.bind (kiPrime_at b hbm) (Big.some_ _)
    refine Big.bind hk ?_
    unfold cntW
    cases isP b
    · simp only [Bool.false_eq_true, if_false]
      exact ih (i + 1) _ h3 (by omega)
    · simp only [if_true]
      exact ih (i + 1) _ h3 (by omega)
theorem kiCount_at (l : List Int) (hl : l.length ≤ 1048576) (hb : ∀ x ∈ l, 1 ≤ x ∧ x ≤ 12) : Big (fun k => spec_kiCount.f k l 0 (⟨#[112]⟩ : ByteArray)) (cntW 0 l) := by
  unfold spec_kiCount.f
  exact kiCount_l l hl hb l 0 0 rfl (Nat.zero_le _)

/-- Hidden ages. -/
def hid (l : List Int) : Bool := inR (l.length : Int) 2 3 && l.all fun x => inR x 1 12
theorem hid_iff {l : List Int} : hid l = true ↔ (2 ≤ l.length ∧ l.length ≤ 3) ∧ ∀ x ∈ l, 1 ≤ x ∧ x ≤ 12 := by
  unfold hid
  rw [Bool.and_eq_true, inR_iff, List.all_eq_true]
  constructor
  · rintro ⟨h1, h2⟩
    exact ⟨by omega, fun x hx => inR_iff.mp (h2 x hx)⟩
  · rintro ⟨h1, h2⟩
    exact ⟨by omega, fun x hx => inR_iff.mpr (h2 x hx)⟩
/-- What a clue of a kind below 6 tells. -/
def nxI (A : Int) (l : List Int) : Int := Int.tmod (A + 1) (l.length : Int)
def valN (K A : Int) (l : List Int) : Int := if K = 0 then sumW 0 l else if K = 1 then rd l A else if K = 2 then prodW 1 l else if K = 3 then (if rd l A > rd l (nxI A l) then 1 else 0) else if K = 4 then cntW 0 l else (if Int.tmod (rd l A) (rd l (nxI A l)) = 0 then 1 else 0)
def fitN (K A B : Int) (l : List Int) : Bool := if K = 6 then Int.tmod (wrap64 (sumW 0 l + wrap64 (A * (l.length : Int)))) B == 0 else valN K A l == B
theorem rd_mem2 {l : List Int} {i : Int} (h0 : 0 ≤ i) (h1 : i < (l.length : Int)) : rd l i ∈ l := by
  have h : i.toNat < l.length := by omega
  unfold rd
  rw [List.getD_eq_getElem?_getD, List.getElem?_eq_getElem h]
  exact List.getElem_mem h
theorem nx_in (A : Int) (l : List Int) (hl : 0 < l.length) (hA : 0 ≤ A) : 0 ≤ nxI A l ∧ nxI A l < (l.length : Int) := by
  unfold nxI
  rw [Int.tmod_eq_emod_of_nonneg (by omega)]
  exact ⟨Int.emod_nonneg _ (by omega), Int.emod_lt_of_pos _ (by omega)⟩
theorem sum_shift (A : Int) (hA : 0 ≤ A ∧ A ≤ 9) (l : List Int) (h2 : 2 ≤ l.length ∧ l.length ≤ 3) (hb : ∀ x ∈ l, 1 ≤ x ∧ x ≤ 12) : sumW 0 (l.map fun x => wrap64 (x + A)) = wrap64 (sumW 0 l + wrap64 (A * (l.length : Int))) := by
  match l, h2 with
  | [x, y], _ =>
    have hx := hb x (by simp)
    have hy := hb y (by simp)
    simp only [List.map_cons, List.map_nil, sumW, List.length_cons, List.length_nil]
    rw [w64 (i := x + A) (by omega) (by omega), w64 (i := y + A) (by omega) (by omega), w64 (i := 0 + (x + A)) (by omega) (by omega), w64 (i := 0 + (x + A) + (y + A)) (by omega) (by omega), w64 (i := 0 + x) (by omega) (by omega), w64 (i := 0 + x + y) (by omega) (by omega), w64 (i := A * _) (by omega) (by omega), w64 (by omega) (by omega)]
    omega
  | [x, y, z], _ =>
    have hx := hb x (by simp)
    have hy := hb y (by simp)
    have hz := hb z (by simp)
    simp only [List.map_cons, List.map_nil, sumW, List.length_cons, List.length_nil]
    rw [w64 (i := x + A) (by omega) (by omega), w64 (i := y + A) (by omega) (by omega), w64 (i := z + A) (by omega) (by omega), w64 (i := 0 + (x + A)) (by omega) (by omega), w64 (i := 0 + (x + A) + (y + A)) (by omega) (by omega), w64 (i := 0 + (x + A) + (y + A) + (z + A)) (by omega) (by omega), w64 (i := 0 + x) (by omega) (by omega), w64 (i := 0 + x + y) (by omega) (by omega), w64 (i := 0 + x + y + z) (by omega) (by omega), w64 (i := A * _) (by omega) (by omega), w64 (by omega) (by omega)]
    omega
theorem v_bit (b : Bool) : impl_bit.f b = some (if b = true then 1 else 0) := by
  unfold impl_bit.f
  cases b <;> rfl
/-- What the clue's kind asks of its number A. -/
def okA (p K A : Int) : Prop := 0 ≤ A ∧ (K = 1 ∨ K = 3 ∨ K = 5 → A < p) ∧ (K = 6 → A ≤ 9)
theorem pzValue_at (K A : Int) (l : List Int) (h : hid l = true) (hK : 0 ≤ K ∧ K ≤ 5) (hA : okA (l.length : Int) K A) : Big (fun k => spec_pzValue.f k K A l) (valN K A l) := by
  obtain ⟨hl, hb⟩ := hid_iff.mp h
  unfold spec_pzValue.f valN
  have hn := nx_in A l (by omega) hA.1
  by_cases h0 : K = 0
  · simp only [if_pos h0]
    exact Big.bind (agSum_at l (by omega)) (Big.some_ _)
  · simp only [if_neg h0]
    by_cases h1 : K = 1
    · have hA1 := hA.2.1 (.inl h1)
      simp only [if_pos h1, if_pos hA.1, if_pos hA1]
      exact Big.some_ _
    · simp only [if_neg h1]
      by_cases h2 : K = 2
      · simp only [if_pos h2]
        exact sProd_l l (by omega) l 0 1 rfl (Nat.zero_le _)
      · simp only [if_neg h2]
        by_cases h3 : K = 3
        · have hA1 := hA.2.1 (.inr (.inl h3))
          have hA0 := hA.1
          have hw : wrap64 (A + 1) = A + 1 := w64 (by omega) (by omega)
          have hnx : Int.tmod (A + 1) (l.length : Int) = nxI A l := rfl
          simp only [if_pos h3, if_pos hA.1, if_pos hA1, if_neg (show ¬ (l.length : Int) = 0 by omega), hw, hnx, if_pos hn.1, if_pos hn.2]
          exact Big.of (by split <;> rfl)
        · simp only [if_neg h3]
          by_cases h4 : K = 4
          · simp only [if_pos h4]
            exact Big.bind (kiCount_at l (by omega) hb) (Big.some_ _)
          · have hA1 := hA.2.1 (.inr (.inr (by omega)))
            have hA0 := hA.1
            have hw : wrap64 (A + 1) = A + 1 := w64 (by omega) (by omega)
            have hnx : Int.tmod (A + 1) (l.length : Int) = nxI A l := rfl
            have hr := hb _ (rd_mem2 hn.1 hn.2)
            simp only [if_neg h4, if_pos hA.1, if_pos hA1, if_neg (show ¬ (l.length : Int) = 0 by omega), hw, hnx, if_pos hn.1, if_pos hn.2, if_neg (show ¬ rd l (nxI A l) = 0 by omega)]
            exact Big.of (by split <;> rfl)
theorem tells_at (K A : Int) (l : List Int) (h : hid l = true) (hK : 0 ≤ K ∧ K ≤ 6) (hA : okA (l.length : Int) K A) (hA9 : A ≤ 9) : Big (fun k => impl_tells.f k K A l) (if K = 6 then wrap64 (sumW 0 l + wrap64 (A * (l.length : Int))) else valN K A l) := by
  obtain ⟨hl, hb⟩ := hid_iff.mp h
  unfold impl_tells.f valN
  have hn := nx_in A l (by omega) hA.1
  have hw : wrap64 (A + 1) = A + 1 := w64 (by have := hA.1; omega) (by omega)
  have hnx : Int.tmod (A + 1) (l.length : Int) = nxI A l := rfl
  simp only [if_neg (show ¬ (l.length : Int) = 0 by omega), hw, hnx, if_pos hn.1, if_pos hn.2]
  by_cases h0 : K = 0
  · simp only [if_pos h0, if_neg (show ¬ K = 6 by omega)]
    exact Big.bind (total_at l (by omega)) (Big.some_ _)
  · simp only [if_neg h0]
    by_cases h1 : K = 1
    · have hA1 := hA.2.1 (.inl h1)
      simp only [if_pos h1, if_pos hA.1, if_pos hA1, if_neg (show ¬ K = 6 by omega)]
      exact Big.some_ _
    · simp only [if_neg h1]
      by_cases h2 : K = 2
      · simp only [if_pos h2, if_neg (show ¬ K = 6 by omega)]
        exact Big.bind (productOf_at l (by omega)) (Big.some_ _)
      · simp only [if_neg h2]
        by_cases h3 : K = 3
        · have hA1 := hA.2.1 (.inr (.inl h3))
          simp only [if_pos h3, if_pos hA.1, if_pos hA1, v_bit, Option.bind_some, decide_eq_true_eq, if_neg (show ¬ K = 6 by omega)]
          exact Big.some_ _
        · simp only [if_neg h3]
          by_cases h4 : K = 4
          · simp only [if_pos h4, if_neg (show ¬ K = 6 by omega)]
            exact Big.bind (countOf_at l (by omega) hb) (Big.some_ _)
          · simp only [if_neg h4]
            by_cases h5 : K = 5
            · have hA1 := hA.2.1 (.inr (.inr h5))
              have hr := hb _ (rd_mem2 hn.1 hn.2)
              simp only [if_pos h5, if_pos hA.1, if_pos hA1, if_neg (show ¬ rd l (nxI A l) = 0 by omega), v_bit, Option.bind_some, beq_iff_eq, if_neg (show ¬ K = 6 by omega)]
              exact Big.some_ _
            · simp only [if_neg h5, if_pos (show K = 6 by omega)]
              rw [← sum_shift A ⟨hA.1, hA9⟩ l hl hb]
              exact Big.bind (inYears_at l A (by omega)) (Big.bind (total_at _ (by rw [List.length_map]; omega)) (Big.some_ _))
end Go.Proofs.Ytennnaibnlmjlaa.Q
