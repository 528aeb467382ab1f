/- Talks: the program's test and the reference's answer alike. Condition: a text of at most 2^20 bytes. -/
import Derived.Test.YtlkommjeflojjaaQiVals
import Derived.Test.YtlkommjeflojjaaI4
import Derived.Test.YtlkommjeflojjaaI7
import Derived.Test.YtlkommjeflojjaaI8
namespace Go.Proofs.Ytlkommjeflojjaa.Q
open Go.RowKit Go.Proofs.Ytlkommjeflojjaa.I Go.Proofs.YtlkommjeflojjaaW.PrintWords Go.Proofs.YtlkommjeflojjaaW.PrintLast
set_option linter.unusedSimpArgs false

theorem idx_sign (c : Int) (h : 0 ≤ c ∧ c ≤ 255) : ∃ r, strings_IndexByte.f (⟨#[45, 43, 33]⟩ : ByteArray) c = some r ∧ (r < 0 ↔ ¬ (c = 45 ∨ c = 43 ∨ c = 33)) := by
  obtain ⟨n, rfl⟩ : ∃ n : Nat, c = (n : Int) := ⟨c.toNat, by omega⟩
  have hn : n ≤ 255 := by omega
  have hu : ∀ m : Nat, m ≤ 255 → n.toUInt8 = m.toUInt8 → n = m := by
    intro m hm e
    have := congrArg UInt8.toNat e
    simp only [Nat.toUInt8, UInt8.toNat_ofNat'] at this
    omega
  refine ⟨_, rfl, ?_⟩
  rw [Int.toNat_natCast]
  show Go.Lib.indexByte [45, 43, 33] n.toUInt8 < 0 ↔ _
  by_cases h1 : n = 45
  · subst h1
    exact ⟨fun h => absurd h (by decide), fun h => absurd (Or.inl rfl) h⟩
  by_cases h2 : n = 43
  · subst h2
    exact ⟨fun h => absurd h (by decide), fun h => absurd (Or.inr (Or.inl rfl)) h⟩
  by_cases h3 : n = 33
  · subst h3
    exact ⟨fun h => absurd h (by decide), fun h => absurd (Or.inr (Or.inr rfl)) h⟩
  · have b1 : ((45 : UInt8) == n.toUInt8) = false := beq_eq_false_iff_ne.mpr (fun e => h1 (hu 45 (by decide) e.symm))
    have b2 : ((43 : UInt8) == n.toUInt8) = false := beq_eq_false_iff_ne.mpr (fun e => h2 (hu 43 (by decide) e.symm))
    have b3 : ((33 : UInt8) == n.toUInt8) = false := beq_eq_false_iff_ne.mpr (fun e => h3 (hu 33 (by decide) e.symm))
    have e : Go.Lib.indexByte [45, 43, 33] n.toUInt8 = -1 := by simp [Go.Lib.indexByte, b1, b2, b3]
    rw [e]
    exact ⟨fun _ hh => by omega, fun _ => by decide⟩
theorem who_eq (s : ByteArray) : impl_isWho.f s = spec_taWho.f s := rfl
theorem talk_l (s : ByteArray) (hs : s.size ≤ 24) (he : s.size % 2 = 0) (d : Nat) : ∀ i : Nat, i + 2 * d = s.size → ∃ b, Big (fun k => spec_taTalk.l0 k s i) b ∧ Big (fun k => impl_isTalk.l0 k s i) b := by
  induction d with
  | zero =>
    intro i hi
    refine ⟨true, Big.succ ?_, Big.succ ?_⟩
    · simp only [spec_taTalk.l0, if_neg (show ¬ (i : Int) < (s.size : Int) by omega)]
      exact Big.some_ _
    · simp only [impl_isTalk.l0, if_neg (show ¬ (i : Int) < (s.size : Int) by omega)]
      exact Big.some_ _
  | succ d ih =>
    intro i hi
    have w1 : wrap64 ((i : Int) + 1) = (i : Int) + 1 := w64 (by omega) (by omega)
    have w2 : wrap64 ((i : Int) + 2) = ((i + 2 : Nat) : Int) := by rw [w64 (by omega) (by omega)]; omega
    obtain ⟨r, hr1, hr2⟩ := idx_sign (bt s ((i : Int) + 1)) (bt_range s _)
    obtain ⟨b, hb1, hb2⟩ := ih (i + 2) (by omega)
    have hwho : ∃ q, spec_taWho.f (s.extract (i : Int).toNat (((i : Int) + 1) : Int).toNat) = some q := by
      unfold spec_taWho.f
      split
      · exact ⟨_, rfl⟩
      · exact ⟨_, rfl⟩
    obtain ⟨q, hq⟩ := hwho
    cases q
    · refine ⟨false, Big.succ ?_, Big.succ ?_⟩
      · simp only [spec_taTalk.l0, w1, hq, Option.bind_some, if_pos (show (i : Int) < (s.size : Int) by omega), if_pos (show 0 ≤ (i : Int) by omega), if_pos (show (i : Int) ≤ (i : Int) + 1 by omega), if_pos (show (i : Int) + 1 ≤ (s.size : Int) by omega), Bool.false_eq_true, if_false]
        exact Big.some_ _
      · simp only [impl_isTalk.l0, w1, who_eq, hq, Option.bind_some, if_pos (show (i : Int) < (s.size : Int) by omega), if_pos (show 0 ≤ (i : Int) by omega), if_pos (show (i : Int) ≤ (i : Int) + 1 by omega), if_pos (show (i : Int) + 1 ≤ (s.size : Int) by omega), Bool.false_eq_true, if_false]
        exact Big.some_ _
    · by_cases hc : bt s ((i : Int) + 1) = 45 ∨ bt s ((i : Int) + 1) = 43 ∨ bt s ((i : Int) + 1) = 33
      · refine ⟨b, Big.succ ?_, Big.succ ?_⟩
        · simp only [spec_taTalk.l0, w1, w2, hq, Option.bind_some, if_pos (show (i : Int) < (s.size : Int) by omega), if_pos (show 0 ≤ (i : Int) by omega), if_pos (show (i : Int) ≤ (i : Int) + 1 by omega), if_pos (show (i : Int) + 1 ≤ (s.size : Int) by omega), if_true, if_pos (show 0 ≤ (i : Int) + 1 by omega), if_pos (show (i : Int) + 1 < (s.size : Int) by omega)]
          by_cases c1 : bt s ((i : Int) + 1) = 45
          · simp only [if_pos c1]
            exact hb1
          · by_cases c2 : bt s ((i : Int) + 1) = 43
            · simp only [if_neg c1, if_pos c2]
              exact hb1
            · simp only [if_neg c1, if_neg c2, if_pos (show bt s ((i : Int) + 1) = 33 from (hc.resolve_left c1).resolve_left c2)]
              exact hb1
        · simp only [impl_isTalk.l0, w1, w2, who_eq, hq, hr1, Option.bind_some, if_pos (show (i : Int) < (s.size : Int) by omega), if_pos (show 0 ≤ (i : Int) by omega), if_pos (show (i : Int) ≤ (i : Int) + 1 by omega), if_pos (show (i : Int) + 1 ≤ (s.size : Int) by omega), if_true, if_pos (show 0 ≤ (i : Int) + 1 by omega), if_pos (show (i : Int) + 1 < (s.size : Int) by omega), if_neg (show ¬ r < 0 from fun h => hr2.mp h hc)]
          exact hb2
      · refine ⟨false, Big.succ ?_, Big.succ ?_⟩
        · simp only [spec_taTalk.l0, w1, w2, hq, Option.bind_some, if_pos (show (i : Int) < (s.size : Int) by omega), if_pos (show 0 ≤ (i : Int) by omega), if_pos (show (i : Int) ≤ (i : Int) + 1 by omega), if_pos (show (i : Int) + 1 ≤ (s.size : Int) by omega), if_true, if_pos (show 0 ≤ (i : Int) + 1 by omega), if_pos (show (i : Int) + 1 < (s.size : Int) by omega), if_neg (show ¬ bt s ((i : Int) + 1) = 45 from fun h => hc (Or.inl h)), if_neg (show ¬ bt s ((i : Int) + 1) = 43 from fun h => hc (Or.inr (Or.inl h))), if_neg (show ¬ bt s ((i : Int) + 1) = 33 from fun h => hc (Or.inr (Or.inr h)))]
          exact Big.some_ _
        · simp only [impl_isTalk.l0, w1, w2, who_eq, hq, hr1, Option.bind_some, if_pos (show (i : Int) < (s.size : Int) by omega), if_pos (show 0 ≤ (i : Int) by omega), if_pos (show (i : Int) ≤ (i : Int) + 1 by omega), if_pos (show (i : Int) + 1 ≤ (s.size : Int) by omega), if_true, if_pos (show 0 ≤ (i : Int) + 1 by omega), if_pos (show (i : Int) + 1 < (s.size : Int) by omega), if_pos (show r < 0 from hr2.mpr hc)]
          exact Big.some_ _
theorem talk_both (s : ByteArray) : ∃ b, Big (fun k => spec_taTalk.f k s) b ∧ Big (fun k => impl_isTalk.f k s) b := by
  unfold spec_taTalk.f impl_isTalk.f
  have no1 : Big (fun k => spec_taTalk.j0 k s true) false := Big.succ (by simp only [spec_taTalk.j0, if_true]; exact Big.some_ _)
  have no2 : Big (fun k => impl_isTalk.j0 k s true) false := Big.succ (by simp only [impl_isTalk.j0, if_true]; exact Big.some_ _)
  by_cases he : (s.size : Int) % 2 = 0
  · by_cases hs : (s.size : Int) > 24
    · refine ⟨false, ?_, ?_⟩
      · simp only [if_neg (show ¬ (s.size : Int) % 2 = 1 by omega), decide_eq_true hs]
        exact no1
      · simp only [if_pos he, decide_eq_true hs]
        exact no2
    · obtain ⟨b, h1, h2⟩ := talk_l s (by omega) (by omega) (s.size / 2) 0 (by omega)
      refine ⟨b, ?_, ?_⟩
      · simp only [if_neg (show ¬ (s.size : Int) % 2 = 1 by omega), decide_eq_false hs]
        refine Big.succ ?_
        simp only [spec_taTalk.j0, Bool.false_eq_true, if_false]
        exact h1
      · simp only [if_pos he, decide_eq_false hs]
        refine Big.succ ?_
        simp only [impl_isTalk.j0, Bool.false_eq_true, if_false]
        exact h2
  · refine ⟨false, ?_, ?_⟩
    · simp only [if_pos (show (s.size : Int) % 2 = 1 by omega)]
      exact no1
    · simp only [if_neg he]
      exact no2
end Go.Proofs.Ytlkommjeflojjaa.Q
