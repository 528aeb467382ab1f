/- Chapter 9 (puzzles): the statements' own helpers on puzzles, and puzzles: what they answer. Conditions: as typed. -/
import Derived.Test.YtknigfnbhlmlgaaDoorQyClue
import Derived.Test.YtknigfnbhlmlgaaDoorQyPuzE
import Derived.Test.YtknigfnbhlmlgaaDoorY0
import Derived.Test.YtknigfnbhlmlgaaDoorY1
import Derived.Test.YtknigfnbhlmlgaaDoorY2
import Derived.Test.YtknigfnbhlmlgaaDoorY5
import Derived.Test.YtknigfnbhlmlgaaDoorY6
namespace Go.Proofs.YtknigfnbhlmlgaaDoor.Q
open Go.RowKit Go.Proofs.YtknigfnbhlmlgaaDoor.Y Go.Proofs.YtknigfnbhlmlgaaDoorW.PrintWords Go.Proofs.YtknigfnbhlmlgaaDoorW.PrintLast

/-- A clue, copied. -/
def cv (c : S99) : S80 := ⟨c.f0, c.f1, c.f2⟩
theorem rdL_nat (l : List S99) (i : Nat) (h : i < l.length) : rd_T99 l (i : Int) = l[i] := by
  unfold rd_T99
  rw [Int.toNat_natCast, List.getD_eq_getElem?_getD, List.getElem?_eq_getElem h, Option.getD_some]
theorem rdT_cons_drop {l t : List S80} {a : S80} {i : Nat} (h : l.drop i = a :: t) : rd_T80 l (i : Int) = a ∧ i < l.length ∧ l.drop (i + 1) = t := by
  have hi : i < l.length := by
    rcases Nat.lt_or_ge i l.length with h1 | h1
    · exact h1
    · rw [List.drop_eq_nil_of_le h1] at h
      cases h
  rw [List.drop_eq_getElem_cons hi] at h
  injection h with h1 h2
  exact ⟨by rw [rdT_nat l i hi]; exact h1, hi, h2⟩
theorem toClueS_l (l : List S99) (hl : l.length < 9223372036854775807) (d : Nat) : ∀ i : Nat, i + d = l.length → Big (fun k => laws_toClueS.l0 k l ((l.take i).map cv ++ List.replicate d z80) i) (l.map cv) := by
  induction d with
  | zero =>
    intro i hi
    refine Big.succ ?_
    simp only [laws_toClueS.l0, if_neg (show ¬ (i : Int) < (l.length : Int) by omega)]
    have : (l.take i).map cv ++ List.replicate 0 z80 = l.map cv := by simp [List.take_of_length_le (show l.length ≤ i by omega)]
    rw [this]
    exact Big.some_ _
  | succ d ih =>
    intro i hi
    refine Big.succ ?_
    have hlen : ((l.take i).map cv ++ List.replicate (d + 1) z80).length = l.length := by simp; omega
    simp only [laws_toClueS.l0, laws_toClue.f, Option.bind_some, if_pos (show (i : Int) < (l.length : Int) by omega), if_pos (show 0 ≤ (i : Int) by omega), hlen]
    rw [w64n (by omega)]
    have hs : ((l.take i).map cv ++ List.replicate (d + 1) z80).set (i : Int).toNat (⟨(rd_T99 l i).f0, (rd_T99 l i).f1, (rd_T99 l i).f2⟩ : S80) = (l.take (i + 1)).map cv ++ List.replicate d z80 := by
      rw [Int.toNat_natCast, List.set_append_right _ _ (by simp; omega)]
      have h1 : ((l.take i).map cv).length = i := by simp; omega
      rw [h1, Nat.sub_self, List.replicate_succ, List.set_cons_zero, rdL_nat l i (by omega), List.take_succ_eq_append_getElem (show i < l.length by omega), List.map_append, List.append_assoc]
      rfl
    rw [hs]
    exact ih (i + 1) (by omega)
theorem toClueS_at (l : List S99) (hl : l.length ≤ 1048576) : Big (fun k => laws_toClueS.f k l) (l.map cv) := by
  unfold laws_toClueS.f
  simp only [if_pos (show 0 ≤ (l.length : Int) by omega), Int.toNat_natCast, if_pos (show l.length ≤ 11728124029610 by omega)]
  exact toClueS_l l (by omega) l.length 0 (by omega)
theorem toPuzzle_at (p : Int) (l : List S99) (hl : l.length ≤ 1048576) : Big (fun k => laws_toPuzzle.f k p l) (p, l.map cv) := by
  unfold laws_toPuzzle.f
  exact Big.bind (toClueS_at l hl) (Big.some_ _)
theorem szPuzzle_small (p : Int) (l : List S99) (hl : l.length ≤ 1048576) : laws_szPuzzle.f p l 1048576 = some (1048576 - (l.length : Int)) := by
  unfold laws_szPuzzle.f laws_szClueS.f
  rw [w64 (by omega) (by omega), if_neg (by omega), Option.bind_some, if_neg (by omega)]
theorem szPuzzle_big (p : Int) (l : List S99) (hl : ¬ l.length ≤ 1048576) (hm : l.length ≤ maxLen) : laws_szPuzzle.f p l 1048576 = some (-1) := by
  unfold maxLen at hm
  unfold laws_szPuzzle.f laws_szClueS.f
  rw [w64 (by omega) (by omega), if_pos (by omega), Option.bind_some, if_pos (by omega)]

/-- A puzzle. -/
def puz (p : Int) (l : List S80) : Bool := inR p 2 3 && (decide (l.length ≤ 6) && l.all fun c => clueB p c.f0 c.f1 c.f2)
theorem pzGood_l (p : Int) (hp : 2 ≤ p ∧ p ≤ 3) (l : List S80) (hl : l.length ≤ 6) (t : List S80) : ∀ i : Nat, l.drop i = t → i ≤ l.length → Big (fun k => spec_pzGood.l0 k l (l.length : Int) i p l) (t.all fun c => clueB p c.f0 c.f1 c.f2) := by
  induction t with
  | nil =>
    intro i hd hi
    rw [List.drop_eq_nil_iff] at hd
    refine Big.succ ?_
    simp only [spec_pzGood.l0, if_neg (show ¬ (i : Int) < (l.length : Int) by omega)]
    exact Big.some_ _
  | cons c t ih =>
    intro i hd hi
    obtain ⟨h1, h2, h3⟩ := rdT_cons_drop hd
    refine Big.succ ?_
    simp only [spec_pzGood.l0, h1, if_pos (show (i : Int) < (l.length : Int) by omega), if_pos (show 0 ≤ (i : Int) by omega)]
    refine Big.bind (pzClue_at p c.f0 c.f1 c.f2 hp) ?_
    rw [w64n (by omega), List.all_cons]
    cases clueB p c.f0 c.f1 c.f2
    · simp only [Bool.false_eq_true, if_false, Bool.false_and]
      exact Big.some_ _
    · simp only [if_true, Bool.true_and]
      exact ih (i + 1) h3 (by omega)
theorem pzGood_at (p : Int) (l : List S80) : Big (fun k => spec_pzGood.f k p l) (puz p l) := by
  have no : Big (fun k => spec_pzGood.j0 k true p l) false := Big.succ (by simp only [spec_pzGood.j0, if_true]; exact Big.some_ _)
  unfold spec_pzGood.f puz
  simp only [v_pzPeople, Option.bind_some]
  cases hp : inR p 2 3
  · simpa only [Bool.false_eq_true, if_false, Bool.false_and] using no
  · simp only [if_true, Bool.true_and]
    by_cases h : l.length ≤ 6
    · rw [decide_eq_false (show ¬ (l.length : Int) > 6 by omega), decide_eq_true h, Bool.true_and]
      refine Big.succ ?_
      simp only [spec_pzGood.j0, Bool.false_eq_true, if_false]
      exact pzGood_l p (inR_iff.mp hp) l h l 0 rfl (Nat.zero_le _)
    · rw [decide_eq_true (show (l.length : Int) > 6 by omega), decide_eq_false h, Bool.false_and]
      exact no
theorem bad_at (p : Int) (hp : inR p 2 3 = true) (l : List S80) : Big (fun k => anyO_Clue (impl_IsPuzzle.bad k p) l) (l.any fun c => !clueB p c.f0 c.f1 c.f2) := by
  induction l with
  | nil => exact Big.some_ _
  | cons c t ih =>
    unfold anyO_Clue impl_IsPuzzle.bad
    have h1 : Big (fun k => (impl_IsClue.f k p c.f0 c.f1 c.f2).bind fun b => some (!b)) (!(inR p 2 3 && clueB p c.f0 c.f1 c.f2)) := Big.bind (IsClue_at p c.f0 c.f1 c.f2) (Big.some_ _)
    refine Big.bind h1 ?_
    rw [hp, Bool.true_and, List.any_cons]
    cases clueB p c.f0 c.f1 c.f2
    · simp only [Bool.not_false, if_true, Bool.true_or]
      exact Big.some_ _
    · simp only [Bool.not_true, Bool.false_eq_true, if_false, Bool.false_or]
      exact ih
theorem IsPuzzle_at (p : Int) (l : List S80) : Big (fun k => impl_IsPuzzle.f k p l) (puz p l) := by
  unfold impl_IsPuzzle.f puz
  have e : (decide (2 ≤ p) && decide (p ≤ 3)) = inR p 2 3 := rfl
  rw [e]
  cases hp : inR p 2 3
  · simp only [Bool.false_eq_true, if_false, Bool.false_and]
    exact Big.some_ _
  · simp only [if_true, Bool.true_and]
    by_cases h : l.length ≤ 6
    · simp only [if_pos (show (l.length : Int) ≤ 6 by omega), decide_eq_true h, Bool.true_and]
      refine Big.bind (bad_at p hp l) ?_
      refine Big.of ?_
      rw [List.not_any_eq_all_not]
      simp
    · simp only [if_neg (show ¬ (l.length : Int) ≤ 6 by omega), decide_eq_false h, Bool.false_and]
      exact Big.some_ _
end Go.Proofs.YtknigfnbhlmlgaaDoor.Q
