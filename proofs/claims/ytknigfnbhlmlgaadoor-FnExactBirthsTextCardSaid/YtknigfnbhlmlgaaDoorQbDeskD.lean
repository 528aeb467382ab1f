/- Rows of dates: copied, compared, and tested, by the statements, the reference and the program. Conditions: lengths that fit. -/
import Derived.Test.YtknigfnbhlmlgaaDoorQbVals
import Derived.Test.YtknigfnbhlmlgaaDoorR0
import Derived.Test.YtknigfnbhlmlgaaDoorR1
import Derived.Test.YtknigfnbhlmlgaaDoorR4
import Derived.Test.YtknigfnbhlmlgaaDoorR5
namespace Go.Proofs.YtknigfnbhlmlgaaDoor.Q
open Go.RowKit Go.Proofs.YtknigfnbhlmlgaaDoor.R Go.Proofs.YtknigfnbhlmlgaaDoorW.PrintWords Go.Proofs.YtknigfnbhlmlgaaDoorW.PrintLast
set_option linter.unusedSimpArgs false

def cv_d (c : S60) : S58 := ⟨c.f0, c.f1⟩
theorem d_nat (l : List S58) (i : Nat) (h : i < l.length) : rd_T58 l (i : Int) = l[i] := by
  unfold rd_T58
  rw [Int.toNat_natCast, List.getD_eq_getElem?_getD, List.getElem?_eq_getElem h, Option.getD_some]
theorem dL_nat (l : List S60) (i : Nat) (h : i < l.length) : rd_T60 l (i : Int) = l[i] := by
  unfold rd_T60
  rw [Int.toNat_natCast, List.getD_eq_getElem?_getD, List.getElem?_eq_getElem h, Option.getD_some]
theorem d_toS_l (l : List S60) (hl : l.length < 9223372036854775807) (d : Nat) : ∀ i : Nat, i + d = l.length → Big (fun k => laws_toDateS.l0 k l ((l.take i).map cv_d ++ List.replicate d z58) i) (l.map cv_d) := by
  induction d with
  | zero =>
    intro i hi
    refine Big.succ ?_
    simp only [laws_toDateS.l0, if_neg (show ¬ (i : Int) < (l.length : Int) by omega)]
    have : (l.take i).map cv_d ++ List.replicate 0 z58 = l.map cv_d := by simp [List.take_of_length_le (show l.length ≤ i by omega)]
    rw [this]
    exact Big.some_ _
  | succ d ih =>
    intro i hi
    refine Big.succ ?_
    have hlen : ((l.take i).map cv_d ++ List.replicate (d + 1) z58).length = l.length := by simp; omega
    simp only [laws_toDateS.l0, laws_toDate.f, Option.bind_some, if_pos (show (i : Int) < (l.length : Int) by omega), if_pos (show 0 ≤ (i : Int) by omega), hlen]
    rw [w64n (by omega)]
    have hs : ((l.take i).map cv_d ++ List.replicate (d + 1) z58).set (i : Int).toNat (⟨(rd_T60 l i).f0, (rd_T60 l i).f1⟩ : S58) = (l.take (i + 1)).map cv_d ++ List.replicate d z58 := by
      rw [Int.toNat_natCast, List.set_append_right _ _ (by simp; omega)]
      have h1 : ((l.take i).map cv_d).length = i := by simp; omega
      rw [h1, Nat.sub_self, List.replicate_succ, List.set_cons_zero, dL_nat l i (by omega), List.take_succ_eq_append_getElem (show i < l.length by omega), List.map_append, List.append_assoc]
      rfl
    rw [hs]
    exact ih (i + 1) (by omega)
theorem d_toS_at (l : List S60) (hl : l.length ≤ 1048576) : Big (fun k => laws_toDateS.f k l) (l.map cv_d) := by
  unfold laws_toDateS.f
  simp only [if_pos (show 0 ≤ (l.length : Int) by omega), Int.toNat_natCast, if_pos (show l.length ≤ 17592186044416 by omega)]
  exact d_toS_l l (by omega) l.length 0 (by omega)
theorem d_eqS_l (l : List S58) (hl : l.length < 9223372036854775807) (d : Nat) : ∀ i : Nat, i + d = l.length → Big (fun k => laws_eqDateS.l0 k l l i) true := by
  induction d with
  | zero =>
    intro i hi
    refine Big.succ ?_
    simp only [laws_eqDateS.l0, if_neg (show ¬ (i : Int) < (l.length : Int) by omega)]
    exact Big.some_ _
  | succ d ih =>
    intro i hi
    refine Big.succ ?_
    simp only [laws_eqDateS.l0, laws_eqDate.f, if_true, Option.bind_some, if_pos (show (i : Int) < (l.length : Int) by omega), if_pos (show 0 ≤ (i : Int) by omega)]
    rw [w64n (by omega)]
    exact ih (i + 1) (by omega)
theorem d_eqS_self (l : List S58) (hl : l.length < 9223372036854775807) : Big (fun k => laws_eqDateS.f k l l) true := by
  unfold laws_eqDateS.f
  simp only [if_true]
  exact d_eqS_l l hl l.length 0 (by omega)
def d_ok (c : S58) : Bool := inR c.f0 0 3000 && inR c.f1 1 365
def d_good (l : List S58) : Bool := inR (l.length : Int) 1 8 && l.all d_ok
theorem d_s (c : S58) : spec_biDate.f c.f0 c.f1 = some (d_ok c) := by
  unfold spec_biDate.f d_ok
  simp only [v_l1In, Option.bind_some]
  cases inR c.f0 0 3000 <;> simp
theorem d_i (c : S58) : impl_IsDate.f c.f0 c.f1 = some (d_ok c) := by
  unfold impl_IsDate.f d_ok
  simp only [v_between, Option.bind_some]
  cases inR c.f0 0 3000 <;> simp
theorem d_spec_l (l : List S58) (hl : l.length ≤ 1048576) (d : Nat) : ∀ i : Nat, i + d = l.length → Big (fun k => spec_biGood.l0 k l (l.length : Int) i) ((l.drop i).all d_ok) := by
  induction d with
  | zero =>
    intro i hi
    refine Big.succ ?_
    simp only [spec_biGood.l0, if_neg (show ¬ (i : Int) < (l.length : Int) by omega)]
    rw [List.drop_of_length_le (by omega)]
    exact Big.some_ _
  | succ d ih =>
    intro i hi
    refine Big.succ ?_
    have hlt : i < l.length := by omega
    simp only [spec_biGood.l0, if_pos (show (i : Int) < (l.length : Int) by omega), if_pos (show 0 ≤ (i : Int) by omega), d_s, Option.bind_some, w64n (show i < 9223372036854775807 by omega)]
    rw [List.drop_eq_getElem_cons hlt, List.all_cons, d_nat l i hlt]
    cases h : d_ok l[i] with
    | true =>
      simp only [if_true, Bool.true_and]
      exact ih (i + 1) (by omega)
    | false =>
      simp only [Bool.false_eq_true, if_false, Bool.false_and]
      exact Big.some_ _
theorem d_spec_at (l : List S58) (hl : l.length ≤ 1048576) : Big (fun k => spec_biGood.f k l) (d_good l) := by
  unfold spec_biGood.f d_good
  simp only [v_l1In, Option.bind_some]
  cases inR (l.length : Int) 1 8 with
  | true =>
    simp only [if_true, Bool.true_and]
    exact d_spec_l l hl l.length 0 (by omega)
  | false =>
    simp only [Bool.false_eq_true, if_false, Bool.false_and]
    exact Big.some_ _
theorem d_any (l : List S58) : anyO_Date impl_AreBirthDates.bad l = some (l.any fun c => !d_ok c) := by
  induction l with
  | nil => rfl
  | cons c t ih =>
    unfold anyO_Date
    rw [show impl_AreBirthDates.bad c = some (!d_ok c) by unfold impl_AreBirthDates.bad; rw [d_i, Option.bind_some], Option.bind_some, List.any_cons]
    cases d_ok c
    · simp
    · simp only [Bool.not_true, Bool.false_eq_true, if_false, Bool.false_or]
      exact ih
theorem d_impl (l : List S58) : impl_AreBirthDates.f l = some (d_good l) := by
  unfold impl_AreBirthDates.f d_good inR
  rw [d_any, Option.bind_some, List.not_any_eq_all_not]
  cases (decide ((1 : Int) ≤ (l.length : Int)) && decide ((l.length : Int) ≤ 8)) with
  | true => simp
  | false => simp
end Go.Proofs.YtknigfnbhlmlgaaDoor.Q
