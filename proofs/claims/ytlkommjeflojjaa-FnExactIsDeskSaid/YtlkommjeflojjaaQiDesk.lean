/- Desks: the program's test and the reference's answer alike. Conditions: lengths that fit. -/
import Derived.Test.YtlkommjeflojjaaQiDeskD
import Derived.Test.YtlkommjeflojjaaQiDeskR
import Derived.Test.YtlkommjeflojjaaQiDeskT
import Derived.Test.YtlkommjeflojjaaQiAllS
import Derived.Test.YtlkommjeflojjaaQiHarnessE
import Derived.Test.YtlkommjeflojjaaQiHarnessT
import Derived.Test.YtlkommjeflojjaaI0
import Derived.Test.YtlkommjeflojjaaI2
import Derived.Test.YtlkommjeflojjaaI3
import Derived.Test.YtlkommjeflojjaaI4
import Derived.Test.YtlkommjeflojjaaI5
import Derived.Test.YtlkommjeflojjaaI6
import Derived.Test.YtlkommjeflojjaaI7
import Derived.Test.YtlkommjeflojjaaI9
namespace Go.Proofs.Ytlkommjeflojjaa.Q
open Go.RowKit Go.Proofs.Ytlkommjeflojjaa.I Go.Proofs.YtlkommjeflojjaaW.PrintWords Go.Proofs.YtlkommjeflojjaaW.PrintLast
set_option linter.unusedSimpArgs false

theorem ages_at (l : List Int) (hl : l.length ≤ 1048576) : Big (fun k => spec_agGood.f k l) (inR (l.length : Int) 1 8 && l.all fun x => inR x 0 120) := by
  unfold spec_agGood.f
  simp only [v_l1In, Option.bind_some]
  cases inR (l.length : Int) 1 8 with
  | true =>
    simp only [if_true, Bool.true_and]
    exact Big.bind (allS_at l 0 120 hl) (Big.some_ _)
  | false =>
    simp only [Bool.false_eq_true, if_false, Bool.false_and]
    exact Big.some_ _
theorem v_AreAges (l : List Int) : impl_AreAges.f l = some (inR (l.length : Int) 1 8 && l.all fun x => inR x 0 120) := by
  unfold impl_AreAges.f
  simp only [v_between, Option.bind_some]
  cases inR (l.length : Int) 1 8 with
  | true => simp only [if_true, Bool.true_and, impl_areBetween.f, Option.bind_some]; rfl
  | false => simp only [Bool.false_eq_true, if_false, Bool.false_and]
theorem IsDesk_both (l0 : List Int) (l1 : List S86) (a2 : Int) (a3 : ByteArray) (l4 : List S88) (h0 : l0.length ≤ 1048576) (h1 : l1.length ≤ 1048576) (h4 : l4.length ≤ 1048576) : ∃ b, Big (fun k => spec_IsDesk.f k l0 l1 a2 a3 l4) b ∧ Big (fun k => impl_IsDesk.f k l0 l1 a2 a3 l4) b := by
  have A := ages_at l0 h0
  have D := d_spec_at l1 h1
  have R := q_spec_at l4 h4
  obtain ⟨t, T1, T2⟩ := talk_both a3
  unfold spec_IsDesk.f spec_coGood.f impl_IsDesk.f
  simp only [v_AreAges, d_impl, q_impl, impl_isMost.f, v_between, Option.bind_some]
  have B : Big (fun k => spec_taBoth.f k a2 a3) (inR a2 2 40 && t) := by
    unfold spec_taBoth.f spec_taLimit.f
    simp only [v_l1In, Option.bind_some]
    cases inR a2 2 40
    · simp only [Bool.false_eq_true, if_false, Bool.false_and]
      exact Big.some_ _
    · simp only [if_true, Bool.true_and]
      exact Big.bind T1 (Big.some_ _)
  cases e0 : (inR (l0.length : Int) 1 8 && l0.all fun x => inR x 0 120)
  · rw [e0] at A
    exact ⟨false, Big.bind (Big.bind A (by simp only [Bool.false_eq_true, if_false]; exact Big.some_ _)) (Big.some_ _), by simp only [Bool.false_eq_true, if_false]; exact Big.some_ _⟩
  rw [e0] at A
  cases e1 : d_good l1
  · rw [e1] at D
    exact ⟨false, Big.bind (Big.bind A (by simp only [if_true]; exact Big.bind D (by simp only [Bool.false_eq_true, if_false]; exact Big.some_ _))) (Big.some_ _), by simp only [if_true, Bool.false_eq_true, if_false]; exact Big.some_ _⟩
  rw [e1] at D
  cases e2 : inR a2 2 40
  · rw [e2, Bool.false_and] at B
    exact ⟨false, Big.bind (Big.bind A (by simp only [if_true]; exact Big.bind D (by simp only [if_true]; exact Big.bind B (by simp only [Bool.false_eq_true, if_false]; exact Big.some_ _)))) (Big.some_ _), by simp only [if_true, Bool.false_eq_true, if_false]; exact Big.some_ _⟩
  rw [e2, Bool.true_and] at B
  cases t
  · exact ⟨false, Big.bind (Big.bind A (by simp only [if_true]; exact Big.bind D (by simp only [if_true]; exact Big.bind B (by simp only [Bool.false_eq_true, if_false]; exact Big.some_ _)))) (Big.some_ _), by simp only [if_true]; exact Big.bind T2 (by simp only [Bool.false_eq_true, if_false]; exact Big.some_ _)⟩
  exact ⟨q_good l4, Big.bind (Big.bind A (by simp only [if_true]; exact Big.bind D (by simp only [if_true]; exact Big.bind B (by simp only [if_true]; exact Big.bind R (Big.some_ _))))) (Big.some_ _), by simp only [if_true]; exact Big.bind T2 (by simp only [if_true]; exact Big.some_ _)⟩
theorem toDesk_at (l0 : List Int) (l1 : List S120) (a2 : Int) (a3 : ByteArray) (l4 : List S122) (h0 : l0.length ≤ 1048576) (h1 : l1.length ≤ 1048576) (h4 : l4.length ≤ 1048576) : Big (fun k => laws_toDesk.f k l0 l1 a2 a3 l4) (l0, l1.map cv_d, a2, a3, l4.map cv_q) := by
  unfold laws_toDesk.f
  exact Big.bind (toIntS_id l0 h0) (Big.bind (d_toS_at l1 h1) (Big.bind (q_toS_at l4 h4) (Big.some_ _)))
theorem eqDesk_self (l0 : List Int) (l1 : List S86) (a2 : Int) (a3 : ByteArray) (l4 : List S88) (h0 : l0.length ≤ 1048576) (h1 : l1.length ≤ 1048576) (h4 : l4.length ≤ 1048576) : Big (fun k => laws_eqDesk.f k l0 l1 a2 a3 l4 l0 l1 a2 a3 l4) true := by
  unfold laws_eqDesk.f
  refine Big.bind (eqIntS_self l0 (by omega)) ?_
  simp only [if_true]
  refine Big.bind (d_eqS_self l1 (by omega)) ?_
  simp only [if_true]
  refine Big.bind (q_eqS_self l4 (by omega)) ?_
  simp only [if_true]
  exact Big.some_ _
theorem szDesk_at (l0 : List Int) (l1 : List S120) (a2 : Int) (a3 : ByteArray) (l4 : List S122) (m0 : l0.length ≤ maxLen) (m1 : l1.length ≤ maxLen) (m3 : a3.size ≤ maxLen) (m4 : l4.length ≤ maxLen) : ∃ t, laws_szDesk.f l0 l1 a2 a3 l4 1048576 = some t ∧ (t < 0 ∨ (l0.length ≤ 1048576 ∧ l1.length ≤ 1048576 ∧ l4.length ≤ 1048576)) := by
  unfold maxLen at m0 m1 m3 m4
  unfold laws_szDesk.f laws_szIntS.f laws_szDateS.f laws_szRatioS.f
  rw [w64 (i := 1048576 - (l0.length : Int)) (by omega) (by omega)]
  by_cases c0 : 1048576 - (l0.length : Int) < 0
  · rw [if_pos c0, Option.bind_some, if_pos (by omega)]
    exact ⟨_, rfl, Or.inl (by omega)⟩
  rw [if_neg c0, Option.bind_some, if_neg c0, w64 (i := 1048576 - (l0.length : Int) - (l1.length : Int)) (by omega) (by omega)]
  by_cases c1 : 1048576 - (l0.length : Int) - (l1.length : Int) < 0
  · rw [if_pos c1, Option.bind_some, if_pos (by omega)]
    exact ⟨_, rfl, Or.inl (by omega)⟩
  rw [if_neg c1, Option.bind_some, if_neg c1, w64 (i := 1048576 - (l0.length : Int) - (l1.length : Int) - (a3.size : Int)) (by omega) (by omega)]
  by_cases c3 : 1048576 - (l0.length : Int) - (l1.length : Int) - (a3.size : Int) < 0
  · rw [if_pos c3]
    exact ⟨_, rfl, Or.inl (by omega)⟩
  rw [if_neg c3, w64 (i := 1048576 - (l0.length : Int) - (l1.length : Int) - (a3.size : Int) - (l4.length : Int)) (by omega) (by omega)]
  by_cases c4 : 1048576 - (l0.length : Int) - (l1.length : Int) - (a3.size : Int) - (l4.length : Int) < 0
  · rw [if_pos c4, Option.bind_some, if_pos (by omega)]
    exact ⟨_, rfl, Or.inl (by omega)⟩
  rw [if_neg c4, Option.bind_some, if_neg c4]
  exact ⟨_, rfl, Or.inr (by omega)⟩
end Go.Proofs.Ytlkommjeflojjaa.Q
