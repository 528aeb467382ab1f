/- The statements' own comparison of puzzles. No condition but lengths that fit. -/
import Derived.Test.YtknigfnbhlmlgaaDoorQoTxt
import Derived.Test.YtknigfnbhlmlgaaDoorO0
import Derived.Test.YtknigfnbhlmlgaaDoorO1
import Derived.Test.YtknigfnbhlmlgaaDoorQoVals
import Derived.Test.YtknigfnbhlmlgaaDoorO2
import Derived.Test.YtknigfnbhlmlgaaDoorO9
import Derived.Test.YtknigfnbhlmlgaaDoorO3
import Derived.Test.YtknigfnbhlmlgaaDoorO8
import Derived.Test.YtknigfnbhlmlgaaDoorO13
namespace Go.Proofs.YtknigfnbhlmlgaaDoor.Q
open Go.RowKit Go.Proofs.YtknigfnbhlmlgaaDoor.O Go.Proofs.YtknigfnbhlmlgaaDoorW.PrintWords Go.Proofs.YtknigfnbhlmlgaaDoorW.PrintLast

theorem rdT_nat (l : List S80) (i : Nat) (h : i < l.length) : rd_T80 l (i : Int) = l[i] := by
  unfold rd_T80
  rw [Int.toNat_natCast, List.getD_eq_getElem?_getD, List.getElem?_eq_getElem h, Option.getD_some]
theorem eqClueS_l (l : List S80) (hl : l.length < 9223372036854775807) (d : Nat) : ∀ i : Nat, i + d = l.length → Big (fun k => laws_eqClueS.l0 k l l i) true := by
  induction d with
  | zero =>
    intro i hi
    refine Big.succ ?_
    simp only [laws_eqClueS.l0, if_neg (show ¬ (i : Int) < (l.length : Int) by omega)]
    exact Big.some_ _
  | succ d ih =>
    intro i hi
    refine Big.succ ?_
    simp only [laws_eqClueS.l0, laws_eqClue.f, if_true, Option.bind_some, if_pos (show (i : Int) < (l.length : Int) by omega), if_pos (show 0 ≤ (i : Int) by omega)]
    rw [w64n (by omega)]
    exact ih (i + 1) (by omega)
theorem eqClueS_self (l : List S80) (hl : l.length < 9223372036854775807) : Big (fun k => laws_eqClueS.f k l l) true := by
  unfold laws_eqClueS.f
  simp only [if_true]
  exact eqClueS_l l hl l.length 0 (by omega)
theorem eqPuzzle_self (p : Int) (l : List S80) (hl : l.length < 9223372036854775807) : Big (fun k => laws_eqPuzzle.f k p l p l) true := by
  unfold laws_eqPuzzle.f
  simp only [if_true]
  refine Big.bind (eqClueS_self l hl) ?_
  simp only [if_true]
  exact Big.some_ _
end Go.Proofs.YtknigfnbhlmlgaaDoor.Q

namespace Go.Proofs.YtknigfnbhlmlgaaDoor.Q
open Go.RowKit Go.Proofs.YtknigfnbhlmlgaaDoor.O Go.Proofs.YtknigfnbhlmlgaaDoorW.PrintWords Go.Proofs.YtknigfnbhlmlgaaDoorW.PrintLast

/-- A clue of p people. -/
def clueB (p K A B : Int) : Bool := inR B 0 2000 && (if K = 0 ∨ K = 2 ∨ K = 4 then A == 0 else if K = 1 then inR A 0 (p - 1) else if K = 3 ∨ K = 5 then inR A 0 (p - 1) && decide (B < 2) else if K = 6 then inR A 0 9 && inR B 2 9 else false)
theorem sClue_j1 (p K A B : Int) (hp : 2 ≤ p ∧ p ≤ 3) (b : Bool) : Big (fun k => spec_pzClue.j1 k p K b K A B) (if b = true then inR A 0 (p - 1) && decide (B < 2) else if K = 6 then inR A 0 9 && inR B 2 9 else false) := by
  refine Big.succ ?_
  simp only [spec_pzClue.j1, v_l1In, Option.bind_some, w64 (i := p - 1) (by omega) (by omega)]
  refine Big.of ?_
  cases b
  · by_cases h : K = 6
    · simp only [if_pos h, Bool.false_eq_true, if_false]
      cases inR A 0 9 <;> simp
    · simp [h]
  · simp only [if_true]
    cases inR A 0 (p - 1) <;> simp
theorem sClue_j0 (p K A B : Int) (hp : 2 ≤ p ∧ p ≤ 3) (b : Bool) : Big (fun k => spec_pzClue.j0 k p K b K A B) (if b = true then A == 0 else if K = 1 then inR A 0 (p - 1) else if K = 3 ∨ K = 5 then inR A 0 (p - 1) && decide (B < 2) else if K = 6 then inR A 0 9 && inR B 2 9 else false) := by
  refine Big.succ ?_
  simp only [spec_pzClue.j0, v_l1In, Option.bind_some, w64 (i := p - 1) (by omega) (by omega)]
  cases b
  · simp only [Bool.false_eq_true, if_false]
    by_cases h1 : K = 1
    · simp only [if_pos h1]
      exact Big.some_ _
    · simp only [if_neg h1]
      by_cases h3 : K = 3
      · simp only [if_pos h3, if_pos (show K = 3 ∨ K = 5 from .inl h3)]
        have := sClue_j1 p K A B hp (K == 3)
        rwa [if_pos (by simpa using h3)] at this
      · simp only [if_neg h3]
        have := sClue_j1 p K A B hp (K == 5)
        by_cases h5 : K = 5
        · rw [if_pos (by simpa using h5)] at this
          rw [if_pos (show K = 3 ∨ K = 5 from .inr h5)]
          exact this
        · rw [if_neg (by simpa using h5)] at this
          rw [if_neg (show ¬ (K = 3 ∨ K = 5) by omega)]
          exact this
  · simp only [if_true]
    exact Big.some_ _
theorem pzClue_at (p K A B : Int) (hp : 2 ≤ p ∧ p ≤ 3) : Big (fun k => spec_pzClue.f k p K A B) (clueB p K A B) := by
  unfold spec_pzClue.f clueB
  simp only [v_l1In, Option.bind_some]
  cases inR B 0 2000
  · simp only [Bool.false_eq_true, if_false, Bool.false_and]
    exact Big.some_ _
  · simp only [if_true, Bool.true_and]
    by_cases h0 : K = 0
    · simp only [if_pos h0]
      have := sClue_j0 p K A B hp (K == 0)
      rw [if_pos (by simpa using h0)] at this
      rw [if_pos (by omega)]
      exact this
    · simp only [if_neg h0]
      by_cases h2 : K = 2
      · simp only [if_pos h2]
        have := sClue_j0 p K A B hp (K == 2)
        rw [if_pos (by simpa using h2)] at this
        rw [if_pos (by omega)]
        exact this
      · simp only [if_neg h2]
        have := sClue_j0 p K A B hp (K == 4)
        by_cases h4 : K = 4
        · rw [if_pos (by simpa using h4)] at this
          rw [if_pos (by omega)]
          exact this
        · rw [if_neg (by simpa using h4)] at this
          rw [if_neg (by omega)]
          exact this
theorem iClue_j1 (p K A B : Int) (hp : 2 ≤ p ∧ p ≤ 3) (b : Bool) : Big (fun k => impl_IsClue.j1 k p K b K A B) (if b = true then inR A 0 (p - 1) && decide (B ≤ 1) else if K = 6 then inR A 0 9 && inR B 2 9 else A == 0) := by
  refine Big.succ ?_
  simp only [impl_IsClue.j1, v_between, Option.bind_some, w64 (i := p - 1) (by omega) (by omega)]
  refine Big.of ?_
  cases b
  · by_cases h : K = 6
    · simp only [if_pos h, Bool.false_eq_true, if_false]
      cases inR A 0 9 <;> simp
    · simp [h]
  · simp only [if_true]
    cases inR A 0 (p - 1) <;> simp
theorem iClue_j0 (p K A B : Int) (hp : 2 ≤ p ∧ p ≤ 3) : Big (fun k => impl_IsClue.j0 k p false K A B) (if K = 1 then inR A 0 (p - 1) else if K = 3 ∨ K = 5 then inR A 0 (p - 1) && decide (B ≤ 1) else if K = 6 then inR A 0 9 && inR B 2 9 else A == 0) := by
  refine Big.succ ?_
  simp only [impl_IsClue.j0, v_between, Option.bind_some, w64 (i := p - 1) (by omega) (by omega), Bool.false_eq_true, if_false]
  by_cases h1 : K = 1
  · simp only [if_pos h1]
    exact Big.some_ _
  · simp only [if_neg h1]
    by_cases h3 : K = 3
    · simp only [if_pos h3, if_pos (show K = 3 ∨ K = 5 from .inl h3)]
      have := iClue_j1 p K A B hp (K == 3)
      rwa [if_pos (by simpa using h3)] at this
    · simp only [if_neg h3]
      have := iClue_j1 p K A B hp (K == 5)
      by_cases h5 : K = 5
      · rw [if_pos (by simpa using h5)] at this
        rw [if_pos (show K = 3 ∨ K = 5 from .inr h5)]
        exact this
      · rw [if_neg (by simpa using h5)] at this
        rw [if_neg (show ¬ (K = 3 ∨ K = 5) by omega)]
        exact this
theorem IsClue_at (p K A B : Int) : Big (fun k => impl_IsClue.f k p K A B) (inR p 2 3 && clueB p K A B) := by
  unfold impl_IsClue.f
  simp only [v_between, Option.bind_some]
  have no : Big (fun k => impl_IsClue.j0 k p true K A B) false := Big.succ (by simp only [impl_IsClue.j0, if_true]; exact Big.some_ _)
  cases hp : inR p 2 3
  · simp only [Bool.false_eq_true, if_false, Bool.false_and]
    exact no
  · have hp' := inR_iff.mp hp
    simp only [if_true, Bool.true_and]
    cases hK : inR K 0 6
    · simp only [Bool.false_eq_true, if_false]
      rw [inR_not] at hK
      refine Big.cast no ?_
      unfold clueB
      rw [if_neg (by omega), if_neg (by omega), if_neg (by omega), if_neg (by omega), Bool.and_false]
    · simp only [if_true]
      have hK' := inR_iff.mp hK
      cases hB : inR B 0 2000
      · simp only [Bool.not_false]
        refine Big.cast no ?_
        unfold clueB
        rw [hB, Bool.false_and]
      · simp only [Bool.not_true]
        refine Big.cast (iClue_j0 p K A B hp') ?_
        unfold clueB
        rw [hB, Bool.true_and]
        by_cases h1 : K = 1
        · rw [if_pos h1, if_neg (by omega), if_pos h1]
        · rw [if_neg h1]
          by_cases h3 : K = 3 ∨ K = 5
          · rw [if_pos h3, if_neg (by omega), if_neg h1, if_pos h3]
            congr 1
            rw [decide_eq_decide]
            omega
          · rw [if_neg h3]
            by_cases h6 : K = 6
            · rw [if_pos h6, if_neg (by omega), if_neg h1, if_neg h3, if_pos h6]
            · rw [if_neg h6, if_pos (by omega)]
theorem v_pzPeople (p : Int) : spec_pzPeople.f p = some (inR p 2 3) := by simp [spec_pzPeople.f, v_l1In]
end Go.Proofs.YtknigfnbhlmlgaaDoor.Q

namespace Go.Proofs.YtknigfnbhlmlgaaDoor.Q
open Go.RowKit Go.Proofs.YtknigfnbhlmlgaaDoor.O Go.Proofs.YtknigfnbhlmlgaaDoorW.PrintWords Go.Proofs.YtknigfnbhlmlgaaDoorW.PrintLast

theorem rdT_cons_drop {l t : List S80} {a : S80} {i : Nat} (h : l.drop i = a :: t) : rd_T80 l (i : Int) = a ∧ i < l.length ∧ l.drop (i + 1) = t := by
  have hi : i < l.length := by
    rcases Nat.lt_or_ge i l.length with h1 | h1
    · exact h1
    · rw [List.drop_eq_nil_of_le h1] at h
      cases h
  rw [List.drop_eq_getElem_cons hi] at h
  injection h with h1 h2
  exact ⟨by rw [rdT_nat l i hi]; exact h1, hi, h2⟩
/-- A puzzle. -/
def puz (p : Int) (l : List S80) : Bool := inR p 2 3 && (decide (l.length ≤ 6) && l.all fun c => clueB p c.f0 c.f1 c.f2)
theorem pzGood_l (p : Int) (hp : 2 ≤ p ∧ p ≤ 3) (l : List S80) (hl : l.length ≤ 6) (t : List S80) : ∀ i : Nat, l.drop i = t → i ≤ l.length → Big (fun k => spec_pzGood.l0 k l (l.length : Int) i p l) (t.all fun c => clueB p c.f0 c.f1 c.f2) := by
  induction t with
  | nil =>
    intro i hd hi
    rw [List.drop_eq_nil_iff] at hd
    refine Big.succ ?_
    simp only [spec_pzGood.l0, if_neg (show ¬ (i : Int) < (l.length : Int) by omega)]
    exact Big.some_ _
  | cons c t ih =>
    intro i hd hi
    obtain ⟨h1, h2, h3⟩ := rdT_cons_drop hd
    refine Big.succ ?_
    simp only [spec_pzGood.l0, h1, if_pos (show (i : Int) < (l.length : Int) by omega), if_pos (show 0 ≤ (i : Int) by omega)]
    refine Big.bind (pzClue_at p c.f0 c.f1 c.f2 hp) ?_
    rw [w64n (by omega), List.all_cons]
    cases clueB p c.f0 c.f1 c.f2
    · simp only [Bool.false_eq_true, if_false, Bool.false_and]
      exact Big.some_ _
    · simp only [if_true, Bool.true_and]
      exact ih (i + 1) h3 (by omega)
theorem pzGood_at (p : Int) (l : List S80) : Big (fun k => spec_pzGood.f k p l) (puz p l) := by
  have no : Big (fun k => spec_pzGood.j0 k true p l) false := Big.succ (by simp only [spec_pzGood.j0, if_true]; exact Big.some_ _)
  unfold spec_pzGood.f puz
  simp only [v_pzPeople, Option.bind_some]
  cases hp : inR p 2 3
  · simpa only [Bool.false_eq_true, if_false, Bool.false_and] using no
  · simp only [if_true, Bool.true_and]
    by_cases h : l.length ≤ 6
    · rw [decide_eq_false (show ¬ (l.length : Int) > 6 by omega), decide_eq_true h, Bool.true_and]
      refine Big.succ ?_
      simp only [spec_pzGood.j0, Bool.false_eq_true, if_false]
      exact pzGood_l p (inR_iff.mp hp) l h l 0 rfl (Nat.zero_le _)
    · rw [decide_eq_true (show (l.length : Int) > 6 by omega), decide_eq_false h, Bool.false_and]
      exact no
theorem bad_at (p : Int) (hp : inR p 2 3 = true) (l : List S80) : Big (fun k => anyO_Clue (impl_IsPuzzle.bad k p) l) (l.any fun c => !clueB p c.f0 c.f1 c.f2) := by
  induction l with
  | nil => exact Big.some_ _
  | cons c t ih =>
    unfold anyO_Clue impl_IsPuzzle.bad
    have h1 : Big (fun k => (impl_IsClue.f k p c.f0 c.f1 c.f2).bind fun b => some (!b)) (!(inR p 2 3 && clueB p c.f0 c.f1 c.f2)) := Big.bind (IsClue_at p c.f0 c.f1 c.f2) (Big.some_ _)
    refine Big.bind h1 ?_
    rw [hp, Bool.true_and, List.any_cons]
    cases clueB p c.f0 c.f1 c.f2
    · simp only [Bool.not_false, if_true, Bool.true_or]
      exact Big.some_ _
    · simp only [Bool.not_true, Bool.false_eq_true, if_false, Bool.false_or]
      exact ih
theorem IsPuzzle_at (p : Int) (l : List S80) : Big (fun k => impl_IsPuzzle.f k p l) (puz p l) := by
  unfold impl_IsPuzzle.f puz
  have e : (decide (2 ≤ p) && decide (p ≤ 3)) = inR p 2 3 := rfl
  rw [e]
  cases hp : inR p 2 3
  · simp only [Bool.false_eq_true, if_false, Bool.false_and]
    exact Big.some_ _
  · simp only [if_true, Bool.true_and]
    by_cases h : l.length ≤ 6
    · simp only [if_pos (show (l.length : Int) ≤ 6 by omega), decide_eq_true h, Bool.true_and]
      refine Big.bind (bad_at p hp l) ?_
      refine Big.of ?_
      rw [List.not_any_eq_all_not]
      simp
    · simp only [if_neg (show ¬ (l.length : Int) ≤ 6 by omega), decide_eq_false h, Bool.false_and]
      exact Big.some_ _
end Go.Proofs.YtknigfnbhlmlgaaDoor.Q

namespace Go.Proofs.YtknigfnbhlmlgaaDoor.Q
open Go.RowKit Go.Proofs.YtknigfnbhlmlgaaDoor.O Go.Proofs.YtknigfnbhlmlgaaDoorW.PrintWords Go.Proofs.YtknigfnbhlmlgaaDoorW.PrintLast
set_option linter.unusedSimpArgs false

def mk3 (a : Int) : S80 := ⟨a, a + 1, a + 1 + 1⟩
def marks3 (a : Int) (n : Nat) : List S80 := (List.range n).map fun (i : Nat) => mk3 (a + 3 * (i : Int))
theorem marks3_length (a : Int) (n : Nat) : (marks3 a n).length = n := by simp [marks3]
theorem marks3_succ (a : Int) (n : Nat) : marks3 a (n + 1) = marks3 a n ++ [mk3 (a + 3 * (n : Int))] := by simp [marks3, List.range_succ]
theorem marks3_get (a : Int) (n i : Nat) (h : i < n) : rd_T80 (marks3 a n) (i : Int) = mk3 (a + 3 * (i : Int)) := by
  rw [rdT_nat _ _ (by rw [marks3_length]; exact h)]
  simp [marks3]
theorem rdT_set (x : List S80) (i : Nat) (v : S80) (h : i < x.length) : rd_T80 (x.set i v) (i : Int) = v := by
  rw [rdT_nat _ _ (by rw [List.length_set]; exact h)]
  simp
theorem marks3_set (a : Int) (l : List S80) (i : Nat) (h : i < l.length) : (marks3 a i ++ l.drop i).set i (mk3 (a + 3 * (i : Int))) = marks3 a (i + 1) ++ l.drop (i + 1) := by
  rw [List.drop_eq_getElem_cons h, marks3_succ, List.append_assoc]
  rw [List.set_append_right _ _ (by rw [marks3_length]; exact Nat.le_refl _)]
  rw [marks3_length, Nat.sub_self, List.set_cons_zero]
  rfl
theorem markClueS_l2 (l : List S80) (a : Int) (ha : 0 ≤ a) (hl : a + 3 * (l.length : Int) < 9223372036854775807) (d : Nat) : ∀ i : Nat, i + d = l.length → Big (fun k => laws_markClueS.l0 k (marks3 a i ++ l.drop i) (a + 3 * (i : Int)) i) (a + 3 * (l.length : Int), marks3 a l.length) := by
  induction d with
  | zero =>
    intro i hi
    have e : i = l.length := by omega
    subst e
    refine Big.succ ?_
    have hlen : (marks3 a l.length ++ l.drop l.length).length = l.length := by simp [marks3_length]
    simp only [laws_markClueS.l0, hlen, if_neg (show ¬ (l.length : Int) < (l.length : Int) by omega)]
    exact (Big.some_ _).cast (by simp)
  | succ d ih =>
    intro i hi
    have hlen : (marks3 a i ++ l.drop i).length = l.length := by simp [marks3_length]; omega
    have h1 := ih (i + 1) (by omega)
    rw [← marks3_set a l i (by omega)] at h1
    refine Big.succ ?_
    simp only [laws_markClueS.l0, hlen, if_pos (show (i : Int) < (l.length : Int) by omega), if_pos (show 0 ≤ (i : Int) by omega), Option.bind_some, Int.toNat_natCast, w64n (show i < 9223372036854775807 by omega), w64 (show -9223372036854775808 ≤ a + 3 * (i : Int) + 1 by omega) (by omega), w64 (show -9223372036854775808 ≤ a + 3 * (i : Int) + 1 + 1 by omega) (by omega), w64 (show -9223372036854775808 ≤ a + 3 * (i : Int) + 1 + 1 + 1 by omega) (by omega), (fun v => rdT_set (marks3 a i ++ l.drop i) i v (show i < (marks3 a i ++ l.drop i).length by omega)), List.set_set]
    rw [show a + 3 * ((i + 1 : Nat) : Int) = a + 3 * (i : Int) + 1 + 1 + 1 by omega] at h1
    exact h1
theorem heldClueS_l (a : Int) (n : Nat) (ha : 0 ≤ a) (hl : a + 3 * (n : Int) < 9223372036854775807) (d : Nat) : ∀ i : Nat, i + d = n → Big (fun k => laws_heldClueS.l0 k (marks3 a n) (a + 3 * (i : Int)) i) (a + 3 * (n : Int)) := by
  induction d with
  | zero =>
    intro i hi
    have e : i = n := by omega
    subst e
    refine Big.succ ?_
    simp only [laws_heldClueS.l0, marks3_length, if_neg (show ¬ (i : Int) < (i : Int) by omega)]
    exact Big.some_ _
  | succ d ih =>
    intro i hi
    have h1 := ih (i + 1) (by omega)
    refine Big.succ ?_
    simp only [laws_heldClueS.l0, marks3_length, marks3_get a n i (by omega), mk3, if_pos (show (i : Int) < (n : Int) by omega), if_pos (show 0 ≤ (i : Int) by omega), w64n (show i < 9223372036854775807 by omega), w64 (show -9223372036854775808 ≤ a + 3 * (i : Int) + 1 by omega) (by omega), w64 (show -9223372036854775808 ≤ a + 3 * (i : Int) + 1 + 1 by omega) (by omega), w64 (show -9223372036854775808 ≤ a + 3 * (i : Int) + 1 + 1 + 1 by omega) (by omega), if_true]
    rw [show a + 3 * ((i + 1 : Nat) : Int) = a + 3 * (i : Int) + 1 + 1 + 1 by omega] at h1
    exact h1
theorem markPuzzle_held (p : Int) (l : List S80) (hl : l.length ≤ 1048576) : Big (fun k => laws_markPuzzle.f k p l 1) (1 + 3 * (l.length : Int), marks3 1 l.length) ∧ ∀ p', Big (fun k => laws_heldPuzzle.f k p' (marks3 1 l.length) 1) (1 + 3 * (l.length : Int)) := by
  refine ⟨?_, fun p' => ?_⟩
  · unfold laws_markPuzzle.f laws_markClueS.f
    have h := markClueS_l2 l 1 (by omega) (by omega) l.length 0 (by omega)
    exact Big.bind h (Big.some_ _)
  · unfold laws_heldPuzzle.f laws_heldClueS.f
    have h := heldClueS_l 1 l.length (by omega) (by omega) l.length 0 (by omega)
    refine Big.bind h ?_
    simp only [if_neg (show ¬ 1 + 3 * (l.length : Int) < 0 by omega)]
    exact Big.some_ _
end Go.Proofs.YtknigfnbhlmlgaaDoor.Q
