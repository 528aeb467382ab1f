/- Chapter 8 (round sums): people with jubilees, sums of ages, as the program and the reference both tell them. Conditions: numbers that fit. -/
import Derived.Test.YtlkommjeflojjaaQkRound
import Derived.Test.YtlkommjeflojjaaK1
import Derived.Test.YtlkommjeflojjaaK2
import Derived.Test.YtlkommjeflojjaaK3
import Derived.Test.YtlkommjeflojjaaK4
namespace Go.Proofs.Ytlkommjeflojjaa.Q
open Go.RowKit Go.Proofs.Ytlkommjeflojjaa.K Go.Proofs.YtlkommjeflojjaaW.PrintWords Go.Proofs.YtlkommjeflojjaaW.PrintLast

/-- Births that fit. -/
def Fit (l : List Int) : Prop := l.length ≤ 10 ∧ ∀ x ∈ l, 0 ≤ x ∧ x ≤ 2900
theorem fit_of_born {l : List Int} (h : born l = true) : Fit l := by
  rw [born_iff] at h
  exact ⟨h.1.2, h.2⟩
theorem rd_mem' {l : List Int} {i : Int} (h0 : 0 ≤ i) (h1 : i < (l.length : Int)) : rd l i ∈ l := by
  have h : i.toNat < l.length := by omega
  unfold rd
  rw [List.getD_eq_getElem?_getD, List.getElem?_eq_getElem h]
  exact List.getElem_mem h
/-- The people from number i on who have a jubilee. -/
def jubF (y e : Int) : Nat → List Int → List Int
  | _, [] => []
  | i, b :: t => (if inR (y - b) 0 120 && rnd (y - b) e then [(i : Int)] else []) ++ jubF y e (i + 1) t
def jub (l : List Int) (y e : Int) : List Int := jubF y e 0 l
theorem jubF_length (y e : Int) (l : List Int) : ∀ i, (jubF y e i l).length ≤ l.length := by
  induction l with
  | nil => intro i; simp [jubF]
  | cons b t ih =>
    intro i
    have := ih (i + 1)
    unfold jubF
    rw [List.length_append, List.length_cons]
    split <;> simp <;> omega
theorem jub_length (l : List Int) (y e : Int) : (jub l y e).length ≤ l.length := jubF_length y e l 0
theorem v_roAge (b y : Int) (hb : 0 ≤ b ∧ b ≤ 2900) (hy : 0 ≤ y ∧ y ≤ 3000) : spec_roAge.f b y = some (if inR (y - b) 0 120 then y - b else -1) := by
  unfold spec_roAge.f
  rw [w64 (by omega) (by omega)]
  simp only [v_l1In, Option.bind_some]
  cases inR (y - b) 0 120 <;> simp
theorem v_ageIn (b y : Int) (hb : 0 ≤ b ∧ b ≤ 2900) (hy : 0 ≤ y ∧ y ≤ 3000) : impl_ageIn.f b y = some (y - b, inR (y - b) 0 120) := by
  unfold impl_ageIn.f impl_isAge.f
  rw [w64 (by omega) (by omega)]
  simp only [v_between, Option.bind_some]
theorem rnd_neg (e : Int) : rnd (-1) e = false := by simp [rnd]
theorem roIn_l (l : List Int) (y e : Int) (hf : Fit l) (hy : 0 ≤ y ∧ y ≤ 3000) (he : 1 ≤ e) (t : List Int) : ∀ (i : Nat) (acc : List Int), l.drop i = t → acc.length ≤ i → i ≤ l.length → Big (fun k => spec_roIn.l0 k y e acc l (l.length : Int) i) (acc ++ jubF y e i t) := by
  induction t with
  | nil =>
    intro i acc hd ha hi
    have hle := drop_nil_le hd
    refine Big.succ ?_
    simp only [spec_roIn.l0, if_neg (show ¬ (i : Int) < (l.length : Int) by omega)]
    simp only [jubF, List.append_nil]
    exact Big.some_ _
  | cons b t ih =>
    intro i acc hd ha hi
    obtain ⟨h1, h2, h3⟩ := rd_cons_drop hd
    have hbm : 0 ≤ b ∧ b ≤ 2900 := hf.2 b (List.mem_of_mem_drop (i := i) (by rw [hd]; exact List.mem_cons_self))
    have hl := hf.1
    refine Big.succ ?_
    simp only [spec_roIn.l0]
    simp only [h1, if_pos (show (i : Int) < (l.length : Int) by omega), if_pos (show 0 ≤ (i : Int) by omega), v_roAge b y hbm hy, v_roRound _ e he, Option.bind_some, if_pos (show acc.length < 17592186044416 by omega)]
    rw [w64n (by omega)]
    unfold jubF
    cases h4 : inR (y - b) 0 120 with
    | true =>
      simp only [if_true, Bool.true_and]
      cases h5 : rnd (y - b) e with
      | true =>
        simp only [if_true]
        rw [← List.append_assoc]
        exact ih (i + 1) (acc ++ [(i : Int)]) h3 (by simp; omega) (by omega)
      | false =>
        simp only [Bool.false_eq_true, if_false, List.nil_append]
        exact ih (i + 1) acc h3 (by omega) (by omega)
    | false =>
      simp only [Bool.false_eq_true, if_false, Bool.false_and, List.nil_append, rnd_neg]
      exact ih (i + 1) acc h3 (by omega) (by omega)
theorem roIn_at (l : List Int) (y e : Int) (hf : Fit l) (hy : 0 ≤ y ∧ y ≤ 3000) (he : 1 ≤ e) : Big (fun k => spec_roIn.f k l y e) (jub l y e) := by
  unfold spec_roIn.f
  exact roIn_l l y e hf hy he l 0 [] rfl (Nat.le_refl _) (Nat.zero_le _)
theorem jubilees_l (l : List Int) (y e : Int) (hf : Fit l) (hy : 0 ≤ y ∧ y ≤ 3000) (he : 1 ≤ e) (t : List Int) : ∀ (i : Nat) (acc : List Int), l.drop i = t → acc.length ≤ i → i ≤ l.length → Big (fun k => impl_jubilees.l0 k y e acc l (l.length : Int) i) (acc ++ jubF y e i t) := by
  induction t with
  | nil =>
    intro i acc hd ha hi
    have hle := drop_nil_le hd
    refine Big.succ ?_
    simp only [impl_jubilees.l0, if_neg (show ¬ (i : Int) < (l.length : Int) by omega)]
    simp only [jubF, List.append_nil]
    exact Big.some_ _
  | cons b t ih =>
    intro i acc hd ha hi
    obtain ⟨h1, h2, h3⟩ := rd_cons_drop hd
    have hbm : 0 ≤ b ∧ b ≤ 2900 := hf.2 b (List.mem_of_mem_drop (i := i) (by rw [hd]; exact List.mem_cons_self))
    have hl := hf.1
    refine Big.succ ?_
    simp only [impl_jubilees.l0]
    simp only [h1, if_pos (show (i : Int) < (l.length : Int) by omega), if_pos (show 0 ≤ (i : Int) by omega), v_ageIn b y hbm hy, v_isRound _ e he, Option.bind_some, if_pos (show acc.length < 17592186044416 by omega)]
    rw [w64n (by omega)]
    unfold jubF
    cases h4 : inR (y - b) 0 120 with
    | true =>
      simp only [if_true, Bool.true_and]
      cases h5 : rnd (y - b) e with
      | true =>
        simp only [if_true]
        rw [← List.append_assoc]
        exact ih (i + 1) (acc ++ [(i : Int)]) h3 (by simp; omega) (by omega)
      | false =>
        simp only [Bool.false_eq_true, if_false, List.nil_append]
        exact ih (i + 1) acc h3 (by omega) (by omega)
    | false =>
      simp only [Bool.false_eq_true, if_false, Bool.false_and, List.nil_append]
      exact ih (i + 1) acc h3 (by omega) (by omega)
theorem jubilees_at (l : List Int) (y e : Int) (hf : Fit l) (hy : 0 ≤ y ∧ y ≤ 3000) (he : 1 ≤ e) : Big (fun k => impl_jubilees.f k l y e) (jub l y e) := by
  unfold impl_jubilees.f
  exact jubilees_l l y e hf hy he l 0 [] rfl (Nat.le_refl _) (Nat.zero_le _)

end Go.Proofs.Ytlkommjeflojjaa.Q
