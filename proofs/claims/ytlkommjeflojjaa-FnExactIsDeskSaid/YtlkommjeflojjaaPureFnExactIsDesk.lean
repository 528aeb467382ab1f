/- The exact law of IsDesk: for all arguments the program returns what the reference returns, and its arguments stay as they were. No condition. -/
import Derived.Test.YtlkommjeflojjaaQiDesk
import Derived.Test.YtlkommjeflojjaaI0
import Derived.Test.YtlkommjeflojjaaI9
namespace Go.Proofs.Ytlkommjeflojjaa.Pure
open Go.RowKit Go.Proofs.Ytlkommjeflojjaa.Q Go.Proofs.Ytlkommjeflojjaa.I Go.Proofs.YtlkommjeflojjaaW.PrintWords Go.Proofs.YtlkommjeflojjaaW.PrintLast
set_option linter.unusedSimpArgs false
theorem FnExactIsDesk : ∀ (l0_0 : List Int) (l0_1 : List (S120)) (a0_2 : Int) (a0_3 : ByteArray) (l0_4 : List (S122)), (Lit.int .i64 a0_2).wf = true → l0_0.length ≤ maxLen → l0_1.length ≤ maxLen → l0_4.length ≤ maxLen → a0_3.size ≤ maxLen → (∀ p ∈ l0_0, (Lit.int .i64 p).wf = true) → ∃ k, laws_FnExactIsDesk.f k l0_0 l0_1 a0_2 a0_3 l0_4 = some true := by
  intro l0 l1 a2 a3 l4 _ m0 m1 m4 m3 _
  obtain ⟨t, hs, ht⟩ := szDesk_at l0 l1 a2 a3 l4 m0 m1 m3 m4
  by_cases hn : t < 0
  · exact ⟨0, by unfold laws_FnExactIsDesk.f; rw [hs, Option.bind_some, if_pos hn]⟩
  · obtain ⟨h0, h1, h4⟩ := ht.resolve_left hn
    have T := toDesk_at l0 l1 a2 a3 l4 h0 h1 h4
    have k1 : (l1.map cv_d).length ≤ 1048576 := by rw [List.length_map]; exact h1
    have k4 : (l4.map cv_q).length ≤ 1048576 := by rw [List.length_map]; exact h4
    obtain ⟨b, S, I⟩ := IsDesk_both l0 (l1.map cv_d) a2 a3 (l4.map cv_q) h0 k1 k4
    have E := eqDesk_self l0 (l1.map cv_d) a2 a3 (l4.map cv_q) h0 k1 k4
    refine Big.exists_ ?_
    unfold laws_FnExactIsDesk.f
    simp only [hs, Option.bind_some, if_neg hn]
    refine Big.bind T ?_
    refine Big.bind S ?_
    refine Big.bind T ?_
    refine Big.bind I ?_
    simp only [bne_self_eq_false, Bool.false_eq_true, if_false]
    refine Big.bind T ?_
    refine Big.bind E ?_
    simp only [if_true]
    exact Big.some_ _
end Go.Proofs.Ytlkommjeflojjaa.Pure
