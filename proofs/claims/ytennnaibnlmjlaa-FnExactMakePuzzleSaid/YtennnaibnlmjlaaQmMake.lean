/- Chapter 9 (puzzles): puzzles that are made. -/
import Derived.Test.YtennnaibnlmjlaaQmHid3
import Derived.Test.YtennnaibnlmjlaaQmPuzN
import Derived.Test.YtennnaibnlmjlaaM0
import Derived.Test.YtennnaibnlmjlaaM2
import Derived.Test.YtennnaibnlmjlaaM4
import Derived.Test.YtennnaibnlmjlaaM5
import Derived.Test.YtennnaibnlmjlaaM9
namespace Go.Proofs.Ytennnaibnlmjlaa.Q
open Go.RowKit Go.Proofs.Ytennnaibnlmjlaa.M Go.Proofs.YtennnaibnlmjlaaW.PrintWords Go.Proofs.YtennnaibnlmjlaaW.PrintLast
set_option linter.unusedSimpArgs false

theorem mk_nx {z : Int} (h : 0 ≤ z ∧ z ≤ 10006) : 0 ≤ impl_MakePuzzle.nx z ∧ impl_MakePuzzle.nx z ≤ 10006 := by
  unfold impl_MakePuzzle.nx
  rw [show wrap64 (z * 299) = z * 299 from w64 (by omega) (by omega), show wrap64 (z * 299 + 811) = z * 299 + 811 from w64 (by omega) (by omega)]
  have h1 := Int.tmod_nonneg 10007 (show 0 ≤ z * 299 + 811 by omega)
  have h2 := Int.tmod_lt_of_pos (z * 299 + 811) (show (0 : Int) < 10007 by decide)
  omega
theorem v_pzNext (z : Int) : spec_pzNext.f z = some (impl_MakePuzzle.nx z) := by
  unfold spec_pzNext.f impl_MakePuzzle.nx
  rw [Int.mul_comm]
theorem pzOf_at (K y : Int) (l : List Int) (h : hid l = true) (hK : 0 ≤ K ∧ K ≤ 5) (hy : 0 ≤ y) : okA (l.length : Int) K (impl_MakePuzzle.who K y l) ∧ impl_MakePuzzle.who K y l ≤ 9 ∧ Big (fun k => spec_pzOf.f k K y l) (K, impl_MakePuzzle.who K y l, valN K (impl_MakePuzzle.who K y l) l) := by
  have hl := (hid_iff.mp h).1
  have hn : ¬ (l.length : Int) = 0 := by omega
  have t1 := Int.tmod_nonneg (l.length : Int) hy
  have t2 := Int.tmod_lt_of_pos y (show (0 : Int) < (l.length : Int) by omega)
  have odd : ∀ q : Int, q = 1 ∨ q = 3 ∨ q = 5 → impl_MakePuzzle.who q y l = Int.tmod y (l.length : Int) := by
    intro q hq
    unfold impl_MakePuzzle.who
    rw [if_pos]
    rcases hq with rfl | rfl | rfl <;> rfl
  have even : ∀ q : Int, q = 0 ∨ q = 2 ∨ q = 4 → impl_MakePuzzle.who q y l = 0 := by
    intro q hq
    unfold impl_MakePuzzle.who
    rw [if_neg]
    rcases hq with rfl | rfl | rfl <;> decide
  unfold spec_pzOf.f
  by_cases h1 : K = 1
  · subst h1
    have ok : okA (l.length : Int) 1 (Int.tmod y (l.length : Int)) := ⟨t1, fun _ => t2, fun hh => absurd hh (by decide)⟩
    rw [odd 1 (by omega)]
    refine ⟨ok, by omega, ?_⟩
    simp only [if_true, if_neg hn]
    exact Big.bind (pzValue_at 1 _ l h (by omega) ok) (Big.some_ _)
  by_cases h3 : K = 3
  · subst h3
    have ok : okA (l.length : Int) 3 (Int.tmod y (l.length : Int)) := ⟨t1, fun _ => t2, fun hh => absurd hh (by decide)⟩
    rw [odd 3 (by omega)]
    refine ⟨ok, by omega, ?_⟩
    simp only [if_neg (show ¬ (3 : Int) = 1 by decide), if_true, if_neg hn]
    exact Big.bind (pzValue_at 3 _ l h (by omega) ok) (Big.some_ _)
  by_cases h5 : K = 5
  · subst h5
    have ok : okA (l.length : Int) 5 (Int.tmod y (l.length : Int)) := ⟨t1, fun _ => t2, fun hh => absurd hh (by decide)⟩
    rw [odd 5 (by omega)]
    refine ⟨ok, by omega, ?_⟩
    simp only [if_neg (show ¬ (5 : Int) = 1 by decide), if_neg (show ¬ (5 : Int) = 3 by decide), if_true, if_neg hn]
    exact Big.bind (pzValue_at 5 _ l h (by omega) ok) (Big.some_ _)
  · have ok : okA (l.length : Int) K 0 := ⟨by omega, fun _ => by omega, fun _ => by omega⟩
    rw [even K (by omega)]
    refine ⟨ok, by omega, ?_⟩
    simp only [if_neg h1, if_neg h3, if_neg h5]
    exact Big.bind (pzValue_at K 0 l h (by omega) ok) (Big.some_ _)
theorem make_l (l : List Int) (h : hid l = true) (n : Nat) : ∀ (z : Int) (acc : List S55), 0 ≤ z ∧ z ≤ 10006 → acc.length + n ≤ 6 → ∃ C : List S55, C.length ≤ 6 ∧ Big (fun k => spec_MakePuzzle.l0 k l n z (l.length : Int) acc) ((l.length : Int), C, true) ∧ Big (fun k => impl_MakePuzzle.go k l n z acc) C := by
  induction n with
  | zero =>
    intro z acc hz ha
    refine ⟨acc, by omega, Big.succ ?_, Big.some_ _⟩
    simp only [spec_MakePuzzle.l0, if_neg (show ¬ ((0 : Nat) : Int) > 0 by omega)]
    exact Big.some_ _
  | succ n ih =>
    intro z acc hz ha
    have z1 := mk_nx hz
    have z2 := mk_nx z1
    have k1 := Int.tmod_nonneg 6 z1.1
    have k2 := Int.tmod_lt_of_pos (impl_MakePuzzle.nx z) (show (0 : Int) < 6 by decide)
    obtain ⟨ok, hw9, hof⟩ := pzOf_at (Int.tmod (impl_MakePuzzle.nx z) 6) (impl_MakePuzzle.nx (impl_MakePuzzle.nx z)) l h (by omega) z2.1
    have ht := tells_at _ _ l h (show 0 ≤ Int.tmod (impl_MakePuzzle.nx z) 6 ∧ Int.tmod (impl_MakePuzzle.nx z) 6 ≤ 6 by omega) ok hw9
    rw [if_neg (show ¬ Int.tmod (impl_MakePuzzle.nx z) 6 = 6 by omega)] at ht
    obtain ⟨C, h0, h1, h2⟩ := ih (impl_MakePuzzle.nx (impl_MakePuzzle.nx z)) (acc ++ [⟨Int.tmod (impl_MakePuzzle.nx z) 6, impl_MakePuzzle.who (Int.tmod (impl_MakePuzzle.nx z) 6) (impl_MakePuzzle.nx (impl_MakePuzzle.nx z)) l, valN (Int.tmod (impl_MakePuzzle.nx z) 6) (impl_MakePuzzle.who (Int.tmod (impl_MakePuzzle.nx z) 6) (impl_MakePuzzle.nx (impl_MakePuzzle.nx z)) l) l⟩]) z2 (by simp; omega)
    refine ⟨C, h0, Big.succ ?_, ?_⟩
    · simp only [spec_MakePuzzle.l0, if_pos (show ((n + 1 : Nat) : Int) > 0 by omega), v_pzNext, Option.bind_some]
      refine Big.bind hof ?_
      simp only [if_pos (show acc.length < 5864062014805 by omega), show wrap64 (((n + 1 : Nat) : Int) - 1) = (n : Int) by rw [w64 (by omega) (by omega)]; omega]
      exact h1
    · unfold impl_MakePuzzle.go
      exact Big.bind ht h2
theorem MakePuzzle_both (l : List Int) (a b : Int) (hl : l.length ≤ 1048576) : ∃ R : Int × List S55 × Bool, R.2.1.length ≤ 1048576 ∧ Big (fun k => spec_MakePuzzle.f k l a b) R ∧ Big (fun k => impl_MakePuzzle.f k l a b) R := by
  unfold spec_MakePuzzle.f impl_MakePuzzle.f
  have no : Big (fun k => spec_MakePuzzle.j0 k l a b true) (0, [], false) := Big.succ (by simp only [spec_MakePuzzle.j0, if_true]; exact Big.some_ _)
  have H := pzHidden_at l hl
  simp only [v_areHidden, v_l1In, Option.bind_some]
  cases h : hid l
  · rw [h] at H
    exact ⟨(0, [], false), by simp, Big.bind H (by simp only [Bool.false_eq_true, if_false]; exact no), by simp only [Bool.false_eq_true, if_false]; exact Big.some_ _⟩
  · rw [h] at H
    by_cases q1 : 0 ≤ a ∧ a ≤ 6
    · by_cases q2 : 0 ≤ b ∧ b ≤ 9999
      · obtain ⟨n, rfl⟩ : ∃ n : Nat, a = (n : Int) := ⟨a.toNat, by omega⟩
        obtain ⟨C, h0, h1, h2⟩ := make_l l h n b [] (by omega) (by simp; omega)
        refine ⟨((l.length : Int), C, true), by simp only; omega, Big.bind H ?_, ?_⟩
        · simp only [if_true, if_pos (inR_iff.mpr q1), inR_iff.mpr q2, Bool.not_true]
          refine Big.succ ?_
          simp only [spec_MakePuzzle.j0, Bool.false_eq_true, if_false]
          exact h1
        · simp only [if_true, if_pos q1, if_pos q2, if_pos (show 0 < l.length by have := (hid_iff.mp h).1; omega), Int.toNat_natCast]
          exact Big.bind h2 (Big.some_ _)
      · refine ⟨(0, [], false), by simp, Big.bind H ?_, ?_⟩
        · simp only [if_true, if_pos (inR_iff.mpr q1), inR_not.mpr q2, Bool.not_false]
          exact no
        · simp only [if_true, if_pos q1, if_neg q2]
          exact Big.some_ _
    · refine ⟨(0, [], false), by simp, Big.bind H ?_, ?_⟩
      · simp only [if_true, inR_not.mpr q1, Bool.false_eq_true, if_false]
        exact no
      · simp only [if_true, if_neg q1]
        exact Big.some_ _
end Go.Proofs.Ytennnaibnlmjlaa.Q
