/- Chapter 9: hidden ages and DoesFit: program and reference answer alike. Condition: a list of at most 2^20 numbers. -/
import Derived.Test.YtlkommjeflojjaaQHid
import Derived.Test.YtlkommjeflojjaaQHarnessE
import Derived.Test.YtlkommjeflojjaaD1
import Derived.Test.YtlkommjeflojjaaD3
import Derived.Test.YtlkommjeflojjaaD4
import Derived.Test.YtlkommjeflojjaaD6
namespace Go.Proofs.Ytlkommjeflojjaa.Q
open Go.RowKit Go.Proofs.Ytlkommjeflojjaa.D Go.Proofs.YtlkommjeflojjaaW.PrintWords Go.Proofs.YtlkommjeflojjaaW.PrintLast

theorem l1All2_l (l : List Int) (a b : Int) (hl : l.length ≤ 1048576) (d : Nat) : ∀ i : Nat, i + d = l.length → Big (fun k => spec_l1All.l0 k a b l (l.length : Int) i) ((l.drop i).all fun x => inR x a b) := by
  induction d with
  | zero =>
    intro i hi
    refine Big.succ ?_
    simp only [spec_l1All.l0, if_neg (show ¬ (i : Int) < (l.length : Int) by omega)]
    rw [List.drop_of_length_le (by omega)]
    exact Big.some_ _
  | succ d ih =>
    intro i hi
    refine Big.succ ?_
    simp only [spec_l1All.l0]
    have hlt : i < l.length := by omega
    simp only [if_pos (show (i : Int) < (l.length : Int) by omega), if_pos (show 0 ≤ (i : Int) by omega), v_l1In, Option.bind_some]
    rw [List.drop_eq_getElem_cons hlt, List.all_cons, rd_nat, List.getD_eq_getElem?_getD, List.getElem?_eq_getElem hlt, Option.getD_some]
    cases h : inR l[i] a b with
    | true =>
      simp only [if_true, Bool.true_and]
      rw [w64n (by omega)]
      exact ih (i + 1) (by omega)
    | false =>
      simp only [Bool.false_eq_true, if_false, Bool.false_and]
      exact Big.some_ _
theorem pzHidden_at (l : List Int) (hl : l.length ≤ 1048576) : Big (fun k => spec_pzHidden.f k l) (hid l) := by
  unfold spec_pzHidden.f hid
  simp only [v_pzPeople, Option.bind_some]
  cases inR (l.length : Int) 2 3 with
  | true =>
    simp only [if_true, Bool.true_and]
    unfold spec_l1All.f
    exact Big.bind (l1All2_l l 1 12 hl l.length 0 (by omega)) (Big.some_ _)
  | false =>
    simp only [Bool.false_eq_true, if_false, Bool.false_and]
    exact Big.some_ _
theorem v_areHidden (l : List Int) : impl_areHidden.f l = some (hid l) := by
  unfold impl_areHidden.f hid
  simp only [v_between, Option.bind_some]
  cases inR (l.length : Int) 2 3 with
  | true => simp only [if_true, Bool.true_and, impl_areBetween.f, Option.bind_some]; rfl
  | false => simp only [Bool.false_eq_true, if_false, Bool.false_and]
theorem DoesFit_both (K A B : Int) (l : List Int) (hl : l.length ≤ 1048576) : ∃ R : Bool × Bool, Big (fun k => spec_DoesFit.f k K A B l) R ∧ Big (fun k => impl_DoesFit.f k K A B l) R := by
  unfold spec_DoesFit.f impl_DoesFit.f
  simp only [v_areHidden, Option.bind_some]
  have hH := pzHidden_at l hl
  cases h1 : hid l with
  | false =>
    rw [h1] at hH
    exact ⟨(false, false), Big.bind hH (by simp only [Bool.false_eq_true, if_false]; exact Big.some_ _), by simp only [Bool.false_eq_true, if_false]; exact Big.some_ _⟩
  | true =>
    rw [h1] at hH
    have hp := (hid_iff.mp h1).1
    have hI := IsClue_at (l.length : Int) K A B
    rw [inR_iff.mpr (show 2 ≤ (l.length : Int) ∧ (l.length : Int) ≤ 3 by omega), Bool.true_and] at hI
    have hS := pzClue_at (l.length : Int) K A B (by omega)
    cases h2 : clueB (l.length : Int) K A B with
    | false =>
      rw [h2] at hI hS
      refine ⟨(false, false), Big.bind hH ?_, ?_⟩
      · simp only [if_true]
        exact Big.bind hS (by simp only [Bool.false_eq_true, if_false]; exact Big.some_ _)
      · simp only [if_true]
        exact Big.bind hI (by simp only [Bool.false_eq_true, if_false]; exact Big.some_ _)
    | true =>
      rw [h2] at hI hS
      refine ⟨(fitN K A B l, true), Big.bind hH ?_, ?_⟩
      · simp only [if_true]
        refine Big.bind hS ?_
        simp only [if_true]
        exact Big.bind (pzFits_at K A B l h1 h2) (Big.some_ _)
      · simp only [if_true]
        refine Big.bind hI ?_
        simp only [if_true]
        exact Big.bind (fits_at K A B l h1 h2) (Big.some_ _)
end Go.Proofs.Ytlkommjeflojjaa.Q
