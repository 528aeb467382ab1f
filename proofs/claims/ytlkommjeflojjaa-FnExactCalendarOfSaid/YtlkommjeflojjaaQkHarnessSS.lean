/- The statements' own helpers on rows of rows: what they answer. Conditions: lengths that fit. -/
import Derived.Test.YtlkommjeflojjaaQkRdS
import Derived.Test.YtlkommjeflojjaaQkHarness
import Derived.Test.YtlkommjeflojjaaK5
namespace Go.Proofs.Ytlkommjeflojjaa.Q
open Go.RowKit Go.Proofs.Ytlkommjeflojjaa.K Go.Proofs.YtlkommjeflojjaaW.PrintWords Go.Proofs.YtlkommjeflojjaaW.PrintLast
set_option linter.unusedSimpArgs false

def sumL : List (List Int) → Nat
  | [] => 0
  | x :: t => x.length + sumL t
def marksS (a : Int) : List (List Int) → List (List Int)
  | [] => []
  | x :: t => marks a x.length :: marksS (a + (x.length : Int)) t
theorem sumL_le (m : Nat) : ∀ S : List (List Int), (∀ x ∈ S, x.length ≤ m) → sumL S ≤ S.length * m
  | [], _ => by simp [sumL]
  | x :: t, h => by
    have h1 := h x List.mem_cons_self
    have h2 := sumL_le m t (fun y hy => h y (List.mem_cons_of_mem _ hy))
    unfold sumL
    rw [List.length_cons, Nat.succ_mul]
    omega
theorem marksS_length : ∀ (S : List (List Int)) (a : Int), (marksS a S).length = S.length
  | [], _ => rfl
  | x :: t, a => by unfold marksS; rw [List.length_cons, List.length_cons, marksS_length t]
theorem eqIntSS_l (S : List (List Int)) (hl : S.length ≤ 1000000) (hr : ∀ x ∈ S, x.length ≤ 1000000) (d : Nat) : ∀ i : Nat, i + d = S.length → Big (fun k => laws_eqIntSS.l0 k S S i) true := by
  induction d with
  | zero =>
    intro i hi
    refine Big.succ ?_
    simp only [laws_eqIntSS.l0, if_neg (show ¬ (i : Int) < (S.length : Int) by omega)]
    exact Big.some_ _
  | succ d ih =>
    intro i hi
    refine Big.succ ?_
    have hx := hr _ (rdS_mem S i (by omega) (by omega))
    simp only [laws_eqIntSS.l0, if_pos (show (i : Int) < (S.length : Int) by omega), if_pos (show 0 ≤ (i : Int) by omega)]
    refine Big.bind (eqIntS_self _ (by omega)) ?_
    simp only [if_true, w64n (show i < 9223372036854775807 by omega)]
    exact ih (i + 1) (by omega)
theorem eqIntSS_self (S : List (List Int)) (hl : S.length ≤ 1000000) (hr : ∀ x ∈ S, x.length ≤ 1000000) : Big (fun k => laws_eqIntSS.f k S S) true := by
  unfold laws_eqIntSS.f
  simp only [if_true]
  exact eqIntSS_l S hl hr S.length 0 (by omega)
theorem markIntSS_at : ∀ (S : List (List Int)) (a : Int), 0 ≤ a → a + (sumL S : Int) < 9223372036854775807 → Big (fun k => laws_markIntSS.f k S a) (a + (sumL S : Int), marksS a S)
  | [], a, _, _ => by
    have e : a + (sumL [] : Int) = a := by simp [sumL]
    rw [e]
    exact Big.some_ _
  | x :: t, a, ha, hs => by
    have e : sumL (x :: t) = x.length + sumL t := rfl
    rw [e] at hs
    have e2 : a + ((sumL (x :: t) : Nat) : Int) = a + (x.length : Int) + (sumL t : Int) := by rw [e]; omega
    rw [e2]
    unfold laws_markIntSS.f
    refine Big.bind (markIntS_at x a ha (by omega)) ?_
    refine Big.bind (markIntSS_at t (a + (x.length : Int)) (by omega) (by omega)) ?_
    exact Big.some_ _
theorem heldIntSS_l (M : List (List Int)) (hM : M.length ≤ 1000000) : ∀ (t : List (List Int)) (i : Nat) (b : Int), M.drop i = marksS b t → i ≤ M.length → 0 ≤ b → b + (sumL t : Int) < 9223372036854775807 → Big (fun k => laws_heldIntSS.l0 k M b i) (b + (sumL t : Int))
  | [], i, b, h, hi, hb, hs => by
    have hn : i = M.length := by
      have := congrArg List.length h
      rw [List.length_drop] at this
      simp [marksS] at this
      omega
    refine Big.succ ?_
    simp only [laws_heldIntSS.l0, if_neg (show ¬ (i : Int) < (M.length : Int) by omega)]
    have e : b + (sumL [] : Int) = b := by simp [sumL]
    rw [e]
    exact Big.some_ _
  | x :: t, i, b, h, hi, hb, hs => by
    have e : sumL (x :: t) = x.length + sumL t := rfl
    rw [e] at hs
    have hlt : i < M.length := by
      rcases Nat.lt_or_ge i M.length with h1 | h1
      · exact h1
      · rw [List.drop_eq_nil_of_le h1] at h
        cases h
    rw [List.drop_eq_getElem_cons hlt] at h
    unfold marksS at h
    injection h with h1 h2
    refine Big.succ ?_
    simp only [laws_heldIntSS.l0, if_pos (show (i : Int) < (M.length : Int) by omega), if_pos (show 0 ≤ (i : Int) by omega)]
    rw [rdS_nat M i hlt, h1]
    refine Big.bind (heldIntS_at x.length b hb (by omega)) ?_
    simp only [if_neg (show ¬ b + (x.length : Int) < 0 by omega), w64n (show i < 9223372036854775807 by omega)]
    have e2 : b + ((sumL (x :: t) : Nat) : Int) = b + (x.length : Int) + (sumL t : Int) := by rw [e]; omega
    rw [e2]
    exact heldIntSS_l M hM t (i + 1) (b + (x.length : Int)) h2 (by omega) (by omega) (by omega)
theorem heldIntSS_at (S : List (List Int)) (a : Int) (ha : 0 ≤ a) (hl : S.length ≤ 1000000) (hs : a + (sumL S : Int) < 9223372036854775807) : Big (fun k => laws_heldIntSS.f k (marksS a S) a) (a + (sumL S : Int)) := by
  unfold laws_heldIntSS.f
  exact heldIntSS_l (marksS a S) (by rw [marksS_length]; exact hl) S 0 a rfl (Nat.zero_le _) ha hs
end Go.Proofs.Ytlkommjeflojjaa.Q
