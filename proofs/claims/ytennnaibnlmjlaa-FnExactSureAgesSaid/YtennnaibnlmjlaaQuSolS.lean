/- Chapter 9 (puzzles): the ages that all solutions share. -/
import Derived.Test.YtennnaibnlmjlaaQuSolV
import Derived.Test.YtennnaibnlmjlaaU0
import Derived.Test.YtennnaibnlmjlaaU11
import Derived.Test.YtennnaibnlmjlaaU15
import Derived.Test.YtennnaibnlmjlaaU3
import Derived.Test.YtennnaibnlmjlaaU9
namespace Go.Proofs.Ytennnaibnlmjlaa.Q
open Go.RowKit Go.Proofs.Ytennnaibnlmjlaa.U Go.Proofs.YtennnaibnlmjlaaW.PrintWords Go.Proofs.YtennnaibnlmjlaaW.PrintLast
set_option linter.unusedSimpArgs false

/-- A list beside a row, from i on: where they differ it is marked. -/
def sureR (row : List Int) : List Int → Nat → Nat → List Int
  | out, _, 0 => out
  | out, i, d + 1 => sureR row (if rd row i = rd out i then out else out.set i (-1)) (i + 1) d
theorem sureR_length (row : List Int) : ∀ (d : Nat) (out : List Int) (i : Nat), (sureR row out i d).length = out.length := by
  intro d
  induction d with
  | zero => intro out i; rfl
  | succ d ih =>
    intro out i
    unfold sureR
    rw [ih]
    split <;> simp
theorem sSure_l (n : Nat) (hn : n ≤ 3) (S : List (List Int)) (idx : Nat) (hx : idx < 1000000) (row : List Int) (hr : row.length = n) (R : List Int × Bool) : ∀ (d i : Nat) (out : List Int), i + d = n → out.length = n → Big (fun k => spec_SureAges.l0 k (sureR row out i d) S (S.length : Int) ((idx + 1 : Nat) : Int)) R → Big (fun k => spec_SureAges.l1 k out row S (S.length : Int) idx (n : Int) i) R := by
  intro d
  induction d with
  | zero =>
    intro i out hi ho h
    refine Big.succ ?_
    simp only [spec_SureAges.l1, if_neg (show ¬ (i : Int) < (n : Int) by omega), w64n (show idx < 9223372036854775807 by omega)]
    exact h
  | succ d ih =>
    intro i out hi ho h
    refine Big.succ ?_
    simp only [spec_SureAges.l1, hr, ho, if_pos (show (i : Int) < (n : Int) by omega), if_pos (show 0 ≤ (i : Int) by omega), w64n (show i < 9223372036854775807 by omega), Int.toNat_natCast]
    unfold sureR at h
    by_cases he : rd row (i : Int) = rd out (i : Int)
    · simp only [if_pos he] at h ⊢
      exact ih (i + 1) out (by omega) ho h
    · simp only [if_neg he] at h ⊢
      exact ih (i + 1) (out.set i (-1)) (by omega) (by rw [List.length_set]; exact ho) h
theorem iSure_l (n : Nat) (hn : n ≤ 3) (S : List (List Int)) (idx : Nat) (hx : idx < 1000000) (row : List Int) (hr : row.length = n) (R : List Int × Bool) : ∀ (d i : Nat) (out : List Int), i + d = n → out.length = n → Big (fun k => impl_SureAges.l0 k (sureR row out i d) S (S.length : Int) ((idx + 1 : Nat) : Int)) R → Big (fun k => impl_SureAges.l1 k out S (S.length : Int) idx row (n : Int) i) R := by
  intro d
  induction d with
  | zero =>
    intro i out hi ho h
    refine Big.succ ?_
    simp only [impl_SureAges.l1, if_neg (show ¬ (i : Int) < (n : Int) by omega), w64n (show idx < 9223372036854775807 by omega)]
    exact h
  | succ d ih =>
    intro i out hi ho h
    refine Big.succ ?_
    simp only [impl_SureAges.l1, hr, ho, if_pos (show (i : Int) < (n : Int) by omega), if_pos (show 0 ≤ (i : Int) by omega), w64n (show i < 9223372036854775807 by omega), Int.toNat_natCast]
    unfold sureR at h
    by_cases he : rd row (i : Int) = rd out (i : Int)
    · simp only [if_pos he] at h ⊢
      exact ih (i + 1) out (by omega) ho h
    · simp only [if_neg he] at h ⊢
      exact ih (i + 1) (out.set i (-1)) (by omega) (by rw [List.length_set]; exact ho) h
theorem sure_l (n : Nat) (hn : n ≤ 3) (S : List (List Int)) (hS : ∀ x ∈ S, x.length = n) (hl : S.length ≤ 1728) (d : Nat) : ∀ (i : Nat) (out : List Int), i + d = S.length → out.length = n → ∃ R : List Int × Bool, R.1.length = n ∧ Big (fun k => spec_SureAges.l0 k out S (S.length : Int) i) R ∧ Big (fun k => impl_SureAges.l0 k out S (S.length : Int) i) R := by
  induction d with
  | zero =>
    intro i out hi ho
    refine ⟨(out, true), ho, Big.succ ?_, Big.succ ?_⟩
    · simp only [spec_SureAges.l0, if_neg (show ¬ (i : Int) < (S.length : Int) by omega)]
      exact Big.some_ _
    · simp only [impl_SureAges.l0, if_neg (show ¬ (i : Int) < (S.length : Int) by omega)]
      exact Big.some_ _
  | succ d ih =>
    intro i out hi ho
    have hr : (rd_L4 S i).length = n := hS _ (rdS_mem S i (by omega) (by omega))
    obtain ⟨R, h0, h1, h2⟩ := ih (i + 1) (sureR (rd_L4 S i) out 0 n) (by omega) (by rw [sureR_length]; exact ho)
    refine ⟨R, h0, Big.succ ?_, Big.succ ?_⟩
    · simp only [spec_SureAges.l0, ho, if_pos (show (i : Int) < (S.length : Int) by omega), if_pos (show 0 ≤ (i : Int) by omega)]
      exact sSure_l n hn S i (by omega) _ hr R n 0 out (by omega) ho h1
    · simp only [impl_SureAges.l0, hr, if_pos (show (i : Int) < (S.length : Int) by omega), if_pos (show 0 ≤ (i : Int) by omega)]
      exact iSure_l n hn S i (by omega) _ hr R n 0 out (by omega) ho h2
theorem SureAges_both (p : Int) (cl : List S55) : ∃ R : List Int × Bool, R.1.length ≤ 1048576 ∧ Big (fun k => spec_SureAges.f k p cl) R ∧ Big (fun k => impl_SureAges.f k p cl) R := by
  unfold spec_SureAges.f impl_SureAges.f
  have a := pzGood_at p cl
  have b := Solutions2_at p cl
  have no : ∀ l, Big (fun k => impl_SureAges.j0 k l true) ([], false) := fun l => Big.succ (by simp only [impl_SureAges.j0, if_true]; exact Big.some_ _)
  cases h : puz p cl
  · rw [h] at a b
    refine ⟨([], false), by simp, Big.bind a (by simp only [Bool.false_eq_true, if_false]; exact Big.some_ _), Big.bind b ?_⟩
    simp only [Bool.false_eq_true, if_false]
    exact no _
  · rw [h] at a b
    obtain ⟨hp, hl, hg⟩ := puz_good h
    have hrow := sols_row p hp cl
    have hA := pzAll_at p hp cl hg
    have hlen := sols_length p hp cl
    simp only [if_true] at b
    generalize hS : sols p cl = S at *
    by_cases h0 : S.length = 0
    · refine ⟨([], false), by simp, Big.bind a ?_, Big.bind b ?_⟩
      · simp only [if_true]
        refine Big.bind hA ?_
        simp only [if_pos (show (S.length : Int) = 0 by omega)]
        exact Big.some_ _
      · simp only [if_true, show ((S.length : Int) == 0) = true from beq_iff_eq.mpr (by omega)]
        exact no _
    · have hr := (hrow _ (rdS_mem S 0 (by omega) (by omega))).1
      obtain ⟨R, h3, h1, h2⟩ := sure_l p.toNat (by omega) S (fun x hx => by have := (hrow x hx).1; omega) hlen S.length 0 (rd_L4 S 0) (by omega) (by omega)
      have hown : spec_l1Own.f (rd_L4 S 0) = some (rd_L4 S 0) := by
        unfold spec_l1Own.f
        rw [Option.bind_some, if_pos (by simp; omega)]
        simp
      have hcl : slices_Clone_int_int.f (rd_L4 S 0) = some (rd_L4 S 0) := by
        unfold slices_Clone_int_int.f
        rw [Option.bind_some, if_pos (by simp; omega)]
        simp
      refine ⟨R, by omega, Big.bind a ?_, Big.bind b ?_⟩
      · simp only [if_true]
        refine Big.bind hA ?_
        simp only [if_neg (show ¬ (S.length : Int) = 0 by omega), if_pos (show (0 : Int) < (S.length : Int) by omega), hown, Option.bind_some]
        exact h1
      · simp only [if_true, show ((S.length : Int) == 0) = false from beq_eq_false_iff_ne.mpr (by omega)]
        refine Big.succ ?_
        simp only [impl_SureAges.j0, Bool.false_eq_true, if_false, if_pos (show (0 : Int) < (S.length : Int) by omega), hcl, Option.bind_some]
        exact h2
end Go.Proofs.Ytennnaibnlmjlaa.Q
