/- Chapter 9 (puzzles): the clue that alone leaves the fewest. -/
import Derived.Test.YtagkghlmjjhmnaaQSol
import Derived.Test.YtagkghlmjjhmnaaS0
import Derived.Test.YtagkghlmjjhmnaaS12
import Derived.Test.YtagkghlmjjhmnaaS15
import Derived.Test.YtagkghlmjjhmnaaS16
import Derived.Test.YtagkghlmjjhmnaaS6
namespace Go.Proofs.Ytagkghlmjjhmnaa.Q
open Go.RowKit Go.Proofs.Ytagkghlmjjhmnaa.S Go.Proofs.YtagkghlmjjhmnaaW.PrintWords Go.Proofs.YtagkghlmjjhmnaaW.PrintLast
set_option linter.unusedSimpArgs false

theorem take_drop_one {α : Type} (l : List α) (i : Nat) (h : i < l.length) : (l.take (i + 1)).drop i = [l[i]] := by
  rw [List.take_add_one, List.getElem?_eq_getElem h, List.drop_append_of_le_length (by rw [List.length_take]; omega)]
  rw [List.drop_eq_nil_of_le (by rw [List.length_take]; omega)]
  rfl
theorem best_one (p : Int) (hp : 2 ≤ p ∧ p ≤ 3) (cl : List S75) (hg : good p cl) (i : Nat) (h : i < cl.length) : Big (fun k => spec_pzAll.f k p ((cl.take (((i + 1 : Nat) : Int)).toNat).drop (i : Int).toNat)) (sols p [cl[i]]) ∧ Big (fun k => impl_solutions.f k p [⟨(rd_T75 cl i).f0, (rd_T75 cl i).f1, (rd_T75 cl i).f2⟩]) (sols p [cl[i]]) := by
  have hg1 : good p [cl[i]] := fun c hc => by
    rw [List.mem_singleton] at hc
    subst hc
    exact hg _ (List.getElem_mem h)
  rw [Int.toNat_natCast, Int.toNat_natCast, take_drop_one cl i h, rdT_nat cl i h]
  exact ⟨pzAll_at p hp _ hg1, solutions_at p hp _ hg1⟩
theorem best_l (p : Int) (hp : 2 ≤ p ∧ p ≤ 3) (cl : List S75) (hg : good p cl) (hl : cl.length ≤ 6) (d : Nat) : ∀ (i : Nat) (b n : Int), 1 ≤ i → i + d = cl.length → 0 ≤ n → ∃ R : Int × Bool, Big (fun k => spec_BestClue.l0 k b n (cl.length : Int) i p cl) R ∧ Big (fun k => impl_BestClue.l0 k b n cl (cl.length : Int) i p cl) R := by
  induction d with
  | zero =>
    intro i b n _ hi _
    refine ⟨(b, true), Big.succ ?_, Big.succ ?_⟩
    · simp only [spec_BestClue.l0, if_neg (show ¬ (i : Int) < (cl.length : Int) by omega)]
      exact Big.some_ _
    · simp only [impl_BestClue.l0, if_neg (show ¬ (i : Int) < (cl.length : Int) by omega)]
      exact Big.some_ _
  | succ d ih =>
    intro i b n h1 hi hn
    obtain ⟨hs, hm⟩ := best_one p hp cl hg i (by omega)
    obtain ⟨R, hR1, hR2⟩ : ∃ R : Int × Bool, Big (fun k => if ((sols p [cl[i]]).length : Int) < n then spec_BestClue.l0 k i ((sols p [cl[i]]).length : Int) (cl.length : Int) ((i + 1 : Nat) : Int) p cl else spec_BestClue.l0 k b n (cl.length : Int) ((i + 1 : Nat) : Int) p cl) R ∧ Big (fun k => if ((sols p [cl[i]]).length : Int) < n then impl_BestClue.l0 k i ((sols p [cl[i]]).length : Int) cl (cl.length : Int) ((i + 1 : Nat) : Int) p cl else impl_BestClue.l0 k b n cl (cl.length : Int) ((i + 1 : Nat) : Int) p cl) R := by
      by_cases hlt : ((sols p [cl[i]]).length : Int) < n
      · simp only [if_pos hlt]
        exact ih (i + 1) i _ (by omega) (by omega) (by omega)
      · simp only [if_neg hlt]
        exact ih (i + 1) b n (by omega) (by omega) hn
    refine ⟨R, Big.succ ?_, Big.succ ?_⟩
    · simp only [spec_BestClue.l0, w64n (show i < 9223372036854775807 by omega), if_pos (show (i : Int) < (cl.length : Int) by omega), if_pos (show 0 ≤ (i : Int) by omega), if_pos (show (i : Int) ≤ ((i + 1 : Nat) : Int) by omega), if_pos (show ((i + 1 : Nat) : Int) ≤ (cl.length : Int) by omega)]
      refine Big.bind hs ?_
      simp only [if_neg (show ¬ (i : Int) = 0 by omega)]
      exact hR1
    · simp only [impl_BestClue.l0, w64n (show i < 9223372036854775807 by omega), if_pos (show (i : Int) < (cl.length : Int) by omega), if_pos (show 0 ≤ (i : Int) by omega)]
      refine Big.bind hm ?_
      simp only [if_neg (show ¬ n < 0 by omega)]
      exact hR2
theorem BestClue_both (p : Int) (cl : List S75) : ∃ R : Int × Bool, Big (fun k => spec_BestClue.f k p cl) R ∧ Big (fun k => impl_BestClue.f k p cl) R := by
  have no : Big (fun k => spec_BestClue.j0 k true p cl) (0, false) := Big.succ (by simp only [spec_BestClue.j0, if_true]; exact Big.some_ _)
  have no' : Big (fun k => impl_BestClue.j0 k true p cl) (0, false) := Big.succ (by simp only [impl_BestClue.j0, if_true]; exact Big.some_ _)
  unfold spec_BestClue.f impl_BestClue.f
  cases h : puz p cl
  · have a := pzGood_at p cl
    have b := IsPuzzle_at p cl
    rw [h] at a b
    exact ⟨(0, false), Big.bind a (by simpa only [Bool.false_eq_true, if_false] using no), Big.bind b (by simpa only [Bool.false_eq_true, if_false] using no')⟩
  · have a := pzGood_at p cl
    have b := IsPuzzle_at p cl
    rw [h] at a b
    obtain ⟨hp, hl, hg⟩ := puz_good h
    cases cl with
    | nil => exact ⟨(0, false), Big.bind a (by simp only [if_true]; exact no), Big.bind b (by simp only [if_true]; exact no')⟩
    | cons c t =>
      have h0 : 0 < (c :: t).length := by simp
      generalize hcl : c :: t = cl at *
      clear hcl
      have e0 : ((cl.length : Int) == 0) = false := beq_eq_false_iff_ne.mpr (by omega)
      obtain ⟨hs, hm⟩ := best_one p hp cl hg 0 h0
      obtain ⟨R, hR1, hR2⟩ := best_l p hp cl hg hl (cl.length - 1) 1 0 ((sols p [cl[0]]).length : Int) (by omega) (by omega) (by omega)
      refine ⟨R, Big.bind a ?_, Big.bind b ?_⟩
      · simp only [if_true, e0]
        refine Big.succ ?_
        simp only [spec_BestClue.j0, Bool.false_eq_true, if_false]
        refine Big.succ ?_
        simp only [spec_BestClue.l0, show wrap64 (0 + 1) = ((0 + 1 : Nat) : Int) from w64n (i := 0) (by decide), if_pos (show (0 : Int) < (cl.length : Int) by omega), if_pos (show (0 : Int) ≤ 0 by omega), if_pos (show (0 : Int) ≤ ((0 + 1 : Nat) : Int) by omega), if_pos (show ((0 + 1 : Nat) : Int) ≤ (cl.length : Int) by omega)]
        refine Big.bind hs ?_
        simp only [if_true]
        exact hR1
      · simp only [if_true, e0]
        refine Big.succ ?_
        simp only [impl_BestClue.j0, Bool.false_eq_true, if_false]
        refine Big.succ ?_
        simp only [impl_BestClue.l0, show wrap64 (0 + 1) = ((0 + 1 : Nat) : Int) from w64n (i := 0) (by decide), if_pos (show (0 : Int) < (cl.length : Int) by omega), if_pos (show (0 : Int) ≤ 0 by omega)]
        refine Big.bind hm ?_
        simp only [if_pos (show (-1 : Int) < 0 by decide)]
        exact hR2
end Go.Proofs.Ytagkghlmjjhmnaa.Q
