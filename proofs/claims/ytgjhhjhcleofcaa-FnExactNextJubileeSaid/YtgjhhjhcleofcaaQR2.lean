/- Chapter 8: SharedEvery, BestEvery, NextJubilee, JubileesIn: program and reference answer alike. Condition: a list of at most 2^20 numbers that fit in 64 bits. -/
import Derived.Test.YtgjhhjhcleofcaaQJub
import Derived.Test.YtgjhhjhcleofcaaX19
import Derived.Test.YtgjhhjhcleofcaaX20
import Derived.Test.YtgjhhjhcleofcaaX22
import Derived.Test.YtgjhhjhcleofcaaX23
import Derived.Test.YtgjhhjhcleofcaaX25
import Derived.Test.YtgjhhjhcleofcaaX26
import Derived.Test.YtgjhhjhcleofcaaX27
namespace Go.Proofs.Ytgjhhjhcleofcaa.Q
open Go.RowKit Go.Proofs.Ytgjhhjhcleofcaa.X Go.Proofs.YtgjhhjhcleofcaaW.PrintWords Go.Proofs.YtgjhhjhcleofcaaW.PrintLast

theorem JubileesIn_both (l : List Int) (y e : Int) (hl : l.length ≤ 1048576) : ∃ R : List Int × Bool, R.1.length ≤ 1048576 ∧ Big (fun k => spec_JubileesIn.f k l y e) R ∧ Big (fun k => impl_JubileesIn.f k l y e) R := by
  unfold spec_JubileesIn.f impl_JubileesIn.f
  simp only [v_AreBirths, v_isYear, v_roEvery, v_isEvery, Option.bind_some]
  cases h1 : born l with
  | false => exact ⟨([], false), by simp, Big.bind (roYear_at l y hl) (by simp only [h1, Bool.false_and, Bool.false_eq_true, if_false]; exact Big.some_ _), by simp only [Bool.false_eq_true, if_false]; exact Big.some_ _⟩
  | true =>
    cases h2 : inR y 0 3000 with
    | false => exact ⟨([], false), by simp, Big.bind (roYear_at l y hl) (by simp only [h2, Bool.and_false, Bool.false_eq_true, if_false]; exact Big.some_ _), by simp only [Bool.false_eq_true, if_false, if_true]; exact Big.some_ _⟩
    | true =>
      cases h3 : inR e 1 100 with
      | false => exact ⟨([], false), by simp, Big.bind (roYear_at l y hl) (by simp only [h1, h2, Bool.and_true, if_true, Bool.false_eq_true, if_false]; exact Big.some_ _), by simp only [Bool.false_eq_true, if_false, if_true]; exact Big.some_ _⟩
      | true =>
        have hy := inR_iff.mp h2
        have he := (inR_iff.mp h3).1
        have hf := fit_of_born h1
        refine ⟨(jub l y e, true), by have := jub_length l y e; simp only; omega, Big.bind (roYear_at l y hl) ?_, ?_⟩
        · simp only [h1, h2, Bool.and_true, if_true]
          exact Big.bind (roIn_at l y e hf hy he) (Big.some_ _)
        · simp only [if_true]
          exact Big.bind (jubilees_at l y e hf hy he) (Big.some_ _)

/-- The best of n numbers from e on, with what is the best so far. -/
def bestF (l : List Int) (y : Int) : Nat → Int → Int → Int → Int × Int × Bool
  | 0, b, m, _ => (b, m, true)
  | n + 1, b, m, e => if ((jub l y e).length : Int) ≥ m then bestF l y n e ((jub l y e).length : Int) (e + 1) else bestF l y n b m (e + 1)
theorem sBest_l (l : List Int) (y z : Int) (hf : Fit l) (hy : 0 ≤ y ∧ y ≤ 3000) (hz : z ≤ 100) (n : Nat) : ∀ b m e : Int, 1 ≤ e → z + 1 - e = (n : Int) → Big (fun k => spec_BestEvery.l0 k l y z b m e) (bestF l y n b m e) := by
  induction n with
  | zero =>
    intro b m e h0 hn
    refine Big.succ ?_
    simp only [spec_BestEvery.l0, if_neg (show ¬ e ≤ z by omega)]
    exact Big.some_ _
  | succ n ih =>
    intro b m e h0 hn
    refine Big.succ ?_
    simp only [spec_BestEvery.l0, if_pos (show e ≤ z by omega)]
    rw [w64 (by omega) (by omega)]
    refine Big.bind (roIn_at l y e hf hy h0) ?_
    unfold bestF
    by_cases h : ((jub l y e).length : Int) ≥ m
    · simp only [if_pos h]
      exact ih _ _ (e + 1) (by omega) (by omega)
    · simp only [if_neg h]
      exact ih _ _ (e + 1) (by omega) (by omega)
theorem iBest_l (l : List Int) (y z : Int) (hf : Fit l) (hy : 0 ≤ y ∧ y ≤ 3000) (hz : z ≤ 100) (n : Nat) : ∀ b m e : Int, 1 ≤ e → z + 1 - e = (n : Int) → Big (fun k => impl_BestEvery.l0 k l y z b m e) (bestF l y n b m e) := by
  induction n with
  | zero =>
    intro b m e h0 hn
    refine Big.succ ?_
    simp only [impl_BestEvery.l0, if_neg (show ¬ e ≤ z by omega)]
    exact Big.some_ _
  | succ n ih =>
    intro b m e h0 hn
    refine Big.succ ?_
    simp only [impl_BestEvery.l0, if_pos (show e ≤ z by omega)]
    rw [w64 (by omega) (by omega)]
    refine Big.bind (jubilees_at l y e hf hy h0) ?_
    unfold bestF
    by_cases h : ((jub l y e).length : Int) ≥ m
    · simp only [if_pos h]
      exact ih _ _ (e + 1) (by omega) (by omega)
    · simp only [if_neg h]
      exact ih _ _ (e + 1) (by omega) (by omega)
theorem BestEvery_both (l : List Int) (y z : Int) (hl : l.length ≤ 1048576) : ∃ R : Int × Int × Bool, Big (fun k => spec_BestEvery.f k l y z) R ∧ Big (fun k => impl_BestEvery.f k l y z) R := by
  have n1 : Big (fun k => spec_BestEvery.j0 k l y z true) (0, 0, false) := Big.succ (by simp only [spec_BestEvery.j0, if_true]; exact Big.some_ _)
  have n2 : Big (fun k => impl_BestEvery.j0 k l y z true) (0, 0, false) := Big.succ (by simp only [impl_BestEvery.j0, if_true]; exact Big.some_ _)
  unfold spec_BestEvery.f impl_BestEvery.f
  simp only [v_AreBirths, v_isYear, v_between, v_l1In, Option.bind_some]
  cases h1 : born l with
  | false => exact ⟨_, Big.bind (roYear_at l y hl) (by simpa only [h1, Bool.false_and, Bool.false_eq_true, if_false] using n1), by simpa only [Bool.false_eq_true, if_false] using n2⟩
  | true =>
    cases h2 : inR y 0 3000 with
    | false => exact ⟨_, Big.bind (roYear_at l y hl) (by simpa only [h2, Bool.and_false, Bool.false_eq_true, if_false] using n1), by simpa only [Bool.false_eq_true, if_false, if_true] using n2⟩
    | true =>
      cases h3 : inR z 2 100 with
      | false => exact ⟨_, Big.bind (roYear_at l y hl) (by simpa only [h1, h2, Bool.and_true, if_true, Bool.not_false] using n1), by simpa only [if_true, Bool.not_false] using n2⟩
      | true =>
        have hy := inR_iff.mp h2
        have hz := inR_iff.mp h3
        have hf := fit_of_born h1
        refine ⟨bestF l y (z - 1).toNat 0 (-1) 2, Big.bind (roYear_at l y hl) ?_, ?_⟩
        · simp only [h1, h2, Bool.and_true, if_true, Bool.not_true]
          refine Big.succ ?_
          simp only [spec_BestEvery.j0, Bool.false_eq_true, if_false]
          exact sBest_l l y z hf hy hz.2 _ 0 (-1) 2 (by omega) (by omega)
        · simp only [if_true, Bool.not_true]
          refine Big.succ ?_
          simp only [impl_BestEvery.j0, Bool.false_eq_true, if_false]
          exact iBest_l l y z hf hy hz.2 _ 0 (-1) 2 (by omega) (by omega)

/-- The first of n years from y on with a jubilee. -/
def nextF (l : List Int) (e : Int) : Nat → Int → Int × Bool
  | 0, _ => (0, false)
  | n + 1, y => if ((jub l y e).length : Int) > 0 then (y, true) else nextF l e n (y + 1)
theorem sNext_l (l : List Int) (e : Int) (hf : Fit l) (he : 1 ≤ e) (n : Nat) : ∀ y : Int, 0 ≤ y → 3001 - y = (n : Int) → Big (fun k => spec_NextJubilee.l0 k l e y) (nextF l e n y) := by
  induction n with
  | zero =>
    intro y h0 hn
    refine Big.succ ?_
    simp only [spec_NextJubilee.l0, if_neg (show ¬ y ≤ 3000 by omega)]
    exact Big.some_ _
  | succ n ih =>
    intro y h0 hn
    refine Big.succ ?_
    simp only [spec_NextJubilee.l0, if_pos (show y ≤ 3000 by omega)]
    rw [w64 (by omega) (by omega)]
    refine Big.bind (roIn_at l y e hf (by omega) he) ?_
    unfold nextF
    by_cases h : ((jub l y e).length : Int) > 0
    · simp only [if_pos h]
      exact Big.some_ _
    · simp only [if_neg h]
      exact ih (y + 1) (by omega) (by omega)
theorem iNext_l (l : List Int) (e : Int) (hf : Fit l) (he : 1 ≤ e) (n : Nat) : ∀ y : Int, 0 ≤ y → 3001 - y = (n : Int) → Big (fun k => impl_NextJubilee.l0 k l e y) (nextF l e n y) := by
  induction n with
  | zero =>
    intro y h0 hn
    refine Big.succ ?_
    simp only [impl_NextJubilee.l0, if_neg (show ¬ y ≤ 3000 by omega)]
    exact Big.some_ _
  | succ n ih =>
    intro y h0 hn
    refine Big.succ ?_
    simp only [impl_NextJubilee.l0, if_pos (show y ≤ 3000 by omega)]
    rw [w64 (by omega) (by omega)]
    refine Big.bind (jubilees_at l y e hf (by omega) he) ?_
    unfold nextF
    by_cases h : ((jub l y e).length : Int) > 0
    · simp only [if_pos h]
      exact Big.some_ _
    · simp only [if_neg h]
      exact ih (y + 1) (by omega) (by omega)
theorem NextJubilee_both (l : List Int) (y e : Int) (hl : l.length ≤ 1048576) : ∃ R : Int × Bool, Big (fun k => spec_NextJubilee.f k l y e) R ∧ Big (fun k => impl_NextJubilee.f k l y e) R := by
  have n1 : Big (fun k => spec_NextJubilee.j0 k l y e true) (0, false) := Big.succ (by simp only [spec_NextJubilee.j0, if_true]; exact Big.some_ _)
  have n2 : Big (fun k => impl_NextJubilee.j0 k l y e true) (0, false) := Big.succ (by simp only [impl_NextJubilee.j0, if_true]; exact Big.some_ _)
  unfold spec_NextJubilee.f impl_NextJubilee.f
  simp only [v_AreBirths, v_isYear, v_isEvery, v_roEvery, Option.bind_some]
  cases h1 : born l with
  | false => exact ⟨_, Big.bind (roYear_at l y hl) (by simpa only [h1, Bool.false_and, Bool.false_eq_true, if_false] using n1), by simpa only [Bool.false_eq_true, if_false] using n2⟩
  | true =>
    cases h2 : inR y 0 3000 with
    | false => exact ⟨_, Big.bind (roYear_at l y hl) (by simpa only [h2, Bool.and_false, Bool.false_eq_true, if_false] using n1), by simpa only [Bool.false_eq_true, if_false, if_true] using n2⟩
    | true =>
      cases h3 : inR e 1 100 with
      | false => exact ⟨_, Big.bind (roYear_at l y hl) (by simpa only [h1, h2, Bool.and_true, if_true, Bool.not_false] using n1), by simpa only [if_true, Bool.not_false] using n2⟩
      | true =>
        have hy := inR_iff.mp h2
        have he := (inR_iff.mp h3).1
        have hf := fit_of_born h1
        have hw : wrap64 (y + 1) = y + 1 := w64 (by omega) (by omega)
        refine ⟨nextF l e (3000 - y).toNat (y + 1), Big.bind (roYear_at l y hl) ?_, ?_⟩
        · simp only [h1, h2, Bool.and_true, if_true, Bool.not_true]
          refine Big.succ ?_
          simp only [spec_NextJubilee.j0, Bool.false_eq_true, if_false, hw]
          exact sNext_l l e hf he _ (y + 1) (by omega) (by omega)
        · simp only [if_true, Bool.not_true]
          refine Big.succ ?_
          simp only [impl_NextJubilee.j0, Bool.false_eq_true, if_false, hw]
          exact iNext_l l e hf he _ (y + 1) (by omega) (by omega)

/-- The greatest common divisor by remainders. -/
theorem gcd_tmod (a b : Int) (ha : 0 ≤ a) (hb : 0 < b) : (Int.gcd b (Int.tmod a b) : Int) = Int.gcd a b := by
  rw [Int.tmod_eq_emod_of_nonneg ha]
  obtain ⟨m, rfl⟩ := Int.eq_ofNat_of_zero_le ha
  obtain ⟨n, rfl⟩ := Int.eq_ofNat_of_zero_le (Int.le_of_lt hb)
  show ((Nat.gcd n (m % n) : Nat) : Int) = ((Nat.gcd m n : Nat) : Int)
  rw [Nat.gcd_comm n, ← Nat.gcd_rec, Nat.gcd_comm]
theorem tmod_lt (a b : Int) (ha : 0 ≤ a) (hb : 0 < b) : 0 ≤ Int.tmod a b ∧ Int.tmod a b < b := by
  rw [Int.tmod_eq_emod_of_nonneg ha]
  exact ⟨Int.emod_nonneg _ (by omega), Int.emod_lt_of_pos _ hb⟩
theorem divisor_l (n : Nat) : ∀ a b : Int, 0 ≤ a → a ≤ 9223372036854775807 → 0 ≤ b → b ≤ 9223372036854775807 → b.toNat < n → Big (fun k => impl_divisor.l0 k a b) (Int.gcd a b : Int) := by
  induction n with
  | zero => intro a b _ _ _ _ h; omega
  | succ n ih =>
    intro a b ha ha2 hb hb2 hn
    refine Big.succ ?_
    simp only [impl_divisor.l0]
    by_cases h : b = 0
    · subst h
      simp only [if_true]
      rw [w64 (by omega) (by omega)]
      refine Big.cast (Big.some_ _) ?_
      unfold mx
      rw [Int.gcd_zero_right]
      split <;> omega
    · simp only [if_neg h]
      have hb3 : 0 < b := by omega
      have h2 := tmod_lt a b ha hb3
      exact Big.cast (ih b (Int.tmod a b) hb hb2 h2.1 (by omega) (by omega)) (gcd_tmod a b ha hb3)
theorem divisor_at (a b : Int) (ha : 0 ≤ a) (ha2 : a ≤ 9223372036854775807) (hb : 0 ≤ b) (hb2 : b ≤ 9223372036854775807) : Big (fun k => impl_divisor.f k a b) (Int.gcd a b : Int) := by
  unfold impl_divisor.f
  exact divisor_l (b.toNat + 1) a b ha ha2 hb hb2 (by omega)
/-- The common divisor of g and all ages; fails where somebody doesn't count. -/
def sharF (y : Int) : List Int → Int → Int × Bool
  | [], g => if g = 0 then (0, false) else (g, true)
  | b :: t, g => if inR (y - b) 0 120 = true then sharF y t (Int.gcd g (y - b) : Int) else (0, false)
theorem gcd_le120 (g a : Int) (h : 0 < a ∧ a ≤ 120 ∨ a = 0) (hg : 0 ≤ g ∧ g ≤ 120) : 0 ≤ (Int.gcd g a : Int) ∧ (Int.gcd g a : Int) ≤ 120 := by
  rcases h with h | h
  · have h1 : (Int.gcd g a : Int) ∣ a := Int.gcd_dvd_right ..
    have := Int.le_of_dvd h.1 h1
    omega
  · subst h
    rw [Int.gcd_zero_right]
    omega
theorem sShar_in (l : List Int) (y : Int) (i : Nat) (r : Int × Bool) (n : Nat) : ∀ a b : Int, 0 ≤ a → 0 ≤ b → b.toNat < n → Big (fun k => spec_SharedEvery.l0 k y (Int.gcd a b : Int) l (l.length : Int) (wrap64 ((i : Int) + 1))) r → Big (fun k => spec_SharedEvery.l1 k y a b l (l.length : Int) i) r := by
  induction n with
  | zero => intro a b _ _ h; omega
  | succ n ih =>
    intro a b ha hb hn hr
    refine Big.succ ?_
    simp only [spec_SharedEvery.l1]
    by_cases h : b > 0
    · simp only [if_pos h, if_neg (show ¬ b = 0 by omega)]
      have h2 := tmod_lt a b ha h
      refine ih b (Int.tmod a b) hb h2.1 (by omega) ?_
      rw [gcd_tmod a b ha h]
      exact hr
    · simp only [if_neg h]
      have : b = 0 := by omega
      subst this
      rw [Int.gcd_zero_right, Int.natAbs_of_nonneg ha] at hr
      exact hr
theorem sShar_l (l : List Int) (y : Int) (hf : Fit l) (hy : 0 ≤ y ∧ y ≤ 3000) (t : List Int) : ∀ (i : Nat) (g : Int), l.drop i = t → 0 ≤ g → g ≤ 120 → i ≤ l.length → Big (fun k => spec_SharedEvery.l0 k y g l (l.length : Int) i) (sharF y t g) := by
  induction t with
  | nil =>
    intro i g hd h0 ha hi
    have hle := drop_nil_le hd
    refine Big.succ ?_
    simp only [spec_SharedEvery.l0, if_neg (show ¬ (i : Int) < (l.length : Int) by omega)]
    unfold sharF
    exact Big.of (by split <;> rfl)
  | cons b t ih =>
    intro i g hd h0 ha hi
    obtain ⟨h1, h2, h3⟩ := rd_cons_drop hd
    have hbm : 0 ≤ b ∧ b ≤ 2900 := hf.2 b (List.mem_of_mem_drop (i := i) (by rw [hd]; exact List.mem_cons_self))
    have hl := hf.1
    refine Big.succ ?_
    simp only [spec_SharedEvery.l0]
    simp only [h1, if_pos (show (i : Int) < (l.length : Int) by omega), if_pos (show 0 ≤ (i : Int) by omega), v_roAge b y hbm hy, Option.bind_some]
    unfold sharF
    cases h4 : inR (y - b) 0 120 with
    | true =>
      rw [inR_iff] at h4
      simp only [if_true, if_neg (show ¬ y - b < 0 by omega)]
      refine sShar_in l y i _ (g.toNat + 1) (y - b) g (by omega) h0 (by omega) ?_
      rw [w64n (by omega), Int.gcd_comm]
      have := gcd_le120 g (y - b) (by omega) ⟨h0, ha⟩
      exact ih (i + 1) _ h3 this.1 this.2 (by omega)
    | false =>
      simp only [Bool.false_eq_true, if_false, if_pos (show (-1 : Int) < 0 by omega)]
      exact Big.some_ _
theorem iShar_l (l : List Int) (y : Int) (hf : Fit l) (hy : 0 ≤ y ∧ y ≤ 3000) (t : List Int) : ∀ (i : Nat) (g : Int), l.drop i = t → 0 ≤ g → g ≤ 120 → i ≤ l.length → Big (fun k => impl_SharedEvery.l0 k y g l (l.length : Int) i) (sharF y t g) := by
  induction t with
  | nil =>
    intro i g hd h0 ha hi
    have hle := drop_nil_le hd
    refine Big.succ ?_
    simp only [impl_SharedEvery.l0, if_neg (show ¬ (i : Int) < (l.length : Int) by omega)]
    unfold sharF
    refine Big.of ?_
    split
    · rename_i h
      subst h
      rfl
    · rw [decide_eq_true (by omega)]
  | cons b t ih =>
    intro i g hd h0 ha hi
    obtain ⟨h1, h2, h3⟩ := rd_cons_drop hd
    have hbm : 0 ≤ b ∧ b ≤ 2900 := hf.2 b (List.mem_of_mem_drop (i := i) (by rw [hd]; exact List.mem_cons_self))
    have hl := hf.1
    refine Big.succ ?_
    simp only [impl_SharedEvery.l0]
    simp only [h1, if_pos (show (i : Int) < (l.length : Int) by omega), if_pos (show 0 ≤ (i : Int) by omega), v_ageIn b y hbm hy, Option.bind_some]
    unfold sharF
    cases h4 : inR (y - b) 0 120 with
    | true =>
      rw [inR_iff] at h4
      simp only [if_true]
      refine Big.bind (divisor_at g (y - b) h0 (by omega) (by omega) (by omega)) ?_
      rw [w64n (by omega)]
      have := gcd_le120 g (y - b) (by omega) ⟨h0, ha⟩
      exact ih (i + 1) _ h3 this.1 this.2 (by omega)
    | false =>
      simp only [Bool.false_eq_true, if_false]
      exact Big.some_ _
theorem SharedEvery_both (l : List Int) (y : Int) (hl : l.length ≤ 1048576) : ∃ R : Int × Bool, Big (fun k => spec_SharedEvery.f k l y) R ∧ Big (fun k => impl_SharedEvery.f k l y) R := by
  have n2 : Big (fun k => impl_SharedEvery.j0 k l y true) (0, false) := Big.succ (by simp only [impl_SharedEvery.j0, if_true]; exact Big.some_ _)
  unfold spec_SharedEvery.f impl_SharedEvery.f
  simp only [v_AreBirths, v_isYear, Option.bind_some]
  cases h1 : born l with
  | false => exact ⟨(0, false), Big.bind (roYear_at l y hl) (by simp only [h1, Bool.false_and, Bool.false_eq_true, if_false]; exact Big.some_ _), by simpa only [Bool.false_eq_true, if_false] using n2⟩
  | true =>
    cases h2 : inR y 0 3000 with
    | false => exact ⟨(0, false), Big.bind (roYear_at l y hl) (by simp only [h2, Bool.and_false, Bool.false_eq_true, if_false]; exact Big.some_ _), by simpa only [Bool.not_false, if_true] using n2⟩
    | true =>
      have hy := inR_iff.mp h2
      have hf := fit_of_born h1
      refine ⟨sharF y l 0, Big.bind (roYear_at l y hl) ?_, ?_⟩
      · simp only [h1, h2, Bool.and_true, if_true]
        exact sShar_l l y hf hy l 0 0 rfl (by omega) (by omega) (Nat.zero_le _)
      · simp only [if_true, Bool.not_true]
        refine Big.succ ?_
        simp only [impl_SharedEvery.j0, Bool.false_eq_true, if_false]
        exact iShar_l l y hf hy l 0 0 rfl (by omega) (by omega) (Nat.zero_le _)
end Go.Proofs.Ytgjhhjhcleofcaa.Q
