/- Rows of ratios: copied, compared, and tested, by the statements, the reference and the program. Conditions: lengths that fit. -/
import Derived.Test.YtlkommjeflojjaaQiVals
import Derived.Test.YtlkommjeflojjaaI0
import Derived.Test.YtlkommjeflojjaaI1
import Derived.Test.YtlkommjeflojjaaI2
import Derived.Test.YtlkommjeflojjaaI4
import Derived.Test.YtlkommjeflojjaaI5
import Derived.Test.YtlkommjeflojjaaI6
import Derived.Test.YtlkommjeflojjaaI8
namespace Go.Proofs.Ytlkommjeflojjaa.Q
open Go.RowKit Go.Proofs.Ytlkommjeflojjaa.I Go.Proofs.YtlkommjeflojjaaW.PrintWords Go.Proofs.YtlkommjeflojjaaW.PrintLast
set_option linter.unusedSimpArgs false

def cv_q (c : S122) : S88 := ⟨c.f0, c.f1⟩
theorem q_nat (l : List S88) (i : Nat) (h : i < l.length) : rd_T88 l (i : Int) = l[i] := by
  unfold rd_T88
  rw [Int.toNat_natCast, List.getD_eq_getElem?_getD, List.getElem?_eq_getElem h, Option.getD_some]
theorem qL_nat (l : List S122) (i : Nat) (h : i < l.length) : rd_T122 l (i : Int) = l[i] := by
  unfold rd_T122
  rw [Int.toNat_natCast, List.getD_eq_getElem?_getD, List.getElem?_eq_getElem h, Option.getD_some]
theorem q_toS_l (l : List S122) (hl : l.length < 9223372036854775807) (d : Nat) : ∀ i : Nat, i + d = l.length → Big (fun k => laws_toRatioS.l0 k l ((l.take i).map cv_q ++ List.replicate d z88) i) (l.map cv_q) := by
  induction d with
  | zero =>
    intro i hi
    refine Big.succ ?_
    simp only [laws_toRatioS.l0, if_neg (show ¬ (i : Int) < (l.length : Int) by omega)]
    have : (l.take i).map cv_q ++ List.replicate 0 z88 = l.map cv_q := by simp [List.take_of_length_le (show l.length ≤ i by omega)]
    rw [this]
    exact Big.some_ _
  | succ d ih =>
    intro i hi
    refine Big.succ ?_
    have hlen : ((l.take i).map cv_q ++ List.replicate (d + 1) z88).length = l.length := by simp; omega
    simp only [laws_toRatioS.l0, laws_toRatio.f, Option.bind_some, if_pos (show (i : Int) < (l.length : Int) by omega), if_pos (show 0 ≤ (i : Int) by omega), hlen]
    rw [w64n (by omega)]
    have hs : ((l.take i).map cv_q ++ List.replicate (d + 1) z88).set (i : Int).toNat (⟨(rd_T122 l i).f0, (rd_T122 l i).f1⟩ : S88) = (l.take (i + 1)).map cv_q ++ List.replicate d z88 := by
      rw [Int.toNat_natCast, List.set_append_right _ _ (by simp; omega)]
      have h1 : ((l.take i).map cv_q).length = i := by simp; omega
      rw [h1, Nat.sub_self, List.replicate_succ, List.set_cons_zero, qL_nat l i (by omega), List.take_succ_eq_append_getElem (show i < l.length by omega), List.map_append, List.append_assoc]
      rfl
    rw [hs]
    exact ih (i + 1) (by omega)
theorem q_toS_at (l : List S122) (hl : l.length ≤ 1048576) : Big (fun k => laws_toRatioS.f k l) (l.map cv_q) := by
  unfold laws_toRatioS.f
  simp only [if_pos (show 0 ≤ (l.length : Int) by omega), Int.toNat_natCast, if_pos (show l.length ≤ 17592186044416 by omega)]
  exact q_toS_l l (by omega) l.length 0 (by omega)
theorem q_eqS_l (l : List S88) (hl : l.length < 9223372036854775807) (d : Nat) : ∀ i : Nat, i + d = l.length → Big (fun k => laws_eqRatioS.l0 k l l i) true := by
  induction d with
  | zero =>
    intro i hi
    refine Big.succ ?_
    simp only [laws_eqRatioS.l0, if_neg (show ¬ (i : Int) < (l.length : Int) by omega)]
    exact Big.some_ _
  | succ d ih =>
    intro i hi
    refine Big.succ ?_
    simp only [laws_eqRatioS.l0, laws_eqRatio.f, if_true, Option.bind_some, if_pos (show (i : Int) < (l.length : Int) by omega), if_pos (show 0 ≤ (i : Int) by omega)]
    rw [w64n (by omega)]
    exact ih (i + 1) (by omega)
theorem q_eqS_self (l : List S88) (hl : l.length < 9223372036854775807) : Big (fun k => laws_eqRatioS.f k l l) true := by
  unfold laws_eqRatioS.f
  simp only [if_true]
  exact q_eqS_l l hl l.length 0 (by omega)
def q_ok (c : S88) : Bool := inR c.f0 1 100 && inR c.f1 1 100
def q_good (l : List S88) : Bool := inR (l.length : Int) 1 6 && l.all q_ok
theorem q_s (c : S88) : spec_raGood.f c.f0 c.f1 = some (q_ok c) := by
  unfold spec_raGood.f q_ok
  simp only [v_l1In, Option.bind_some]
  cases inR c.f0 1 100 <;> simp
theorem q_i (c : S88) : impl_IsRatio.f c.f0 c.f1 = some (q_ok c) := by
  unfold impl_IsRatio.f q_ok
  simp only [v_between, Option.bind_some]
  cases inR c.f0 1 100 <;> simp
theorem q_spec_l (l : List S88) (hl : l.length ≤ 1048576) (d : Nat) : ∀ i : Nat, i + d = l.length → Big (fun k => spec_raChain.l0 k l (l.length : Int) i) ((l.drop i).all q_ok) := by
  induction d with
  | zero =>
    intro i hi
    refine Big.succ ?_
    simp only [spec_raChain.l0, if_neg (show ¬ (i : Int) < (l.length : Int) by omega)]
    rw [List.drop_of_length_le (by omega)]
    exact Big.some_ _
  | succ d ih =>
    intro i hi
    refine Big.succ ?_
    have hlt : i < l.length := by omega
    simp only [spec_raChain.l0, if_pos (show (i : Int) < (l.length : Int) by omega), if_pos (show 0 ≤ (i : Int) by omega), q_s, Option.bind_some, w64n (show i < 9223372036854775807 by omega)]
    rw [List.drop_eq_getElem_cons hlt, List.all_cons, q_nat l i hlt]
    cases h : q_ok l[i] with
    | true =>
      simp only [if_true, Bool.true_and]
      exact ih (i + 1) (by omega)
    | false =>
      simp only [Bool.false_eq_true, if_false, Bool.false_and]
      exact Big.some_ _
theorem q_spec_at (l : List S88) (hl : l.length ≤ 1048576) : Big (fun k => spec_raChain.f k l) (q_good l) := by
  unfold spec_raChain.f q_good
  simp only [v_l1In, Option.bind_some]
  cases inR (l.length : Int) 1 6 with
  | true =>
    simp only [if_true, Bool.true_and]
    exact q_spec_l l hl l.length 0 (by omega)
  | false =>
    simp only [Bool.false_eq_true, if_false, Bool.false_and]
    exact Big.some_ _
theorem q_any (l : List S88) : anyO_Ratio impl_areRatios.bad l = some (l.any fun c => !q_ok c) := by
  induction l with
  | nil => rfl
  | cons c t ih =>
    unfold anyO_Ratio
    rw [show impl_areRatios.bad c = some (!q_ok c) by unfold impl_areRatios.bad; rw [q_i, Option.bind_some], Option.bind_some, List.any_cons]
    cases q_ok c
    · simp
    · simp only [Bool.not_true, Bool.false_eq_true, if_false, Bool.false_or]
      exact ih
theorem q_impl (l : List S88) : impl_areRatios.f l = some (q_good l) := by
  unfold impl_areRatios.f q_good inR
  rw [q_any, Option.bind_some, List.not_any_eq_all_not]
  cases (decide ((1 : Int) ≤ (l.length : Int)) && decide ((l.length : Int) ≤ 6)) with
  | true => simp
  | false => simp
end Go.Proofs.Ytlkommjeflojjaa.Q
