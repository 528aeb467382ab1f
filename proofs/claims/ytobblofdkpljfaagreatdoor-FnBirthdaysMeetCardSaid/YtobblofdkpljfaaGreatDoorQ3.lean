/- Functions on dates: the program and the reference answer alike. Conditions: as typed. -/
import Derived.Test.YtobblofdkpljfaaGreatDoorQ2
import Derived.Test.YtobblofdkpljfaaGreatDoorR0
import Derived.Laws.BitsAllLaws
namespace Go.Proofs.YtobblofdkpljfaaGreatDoor.Q
open Go.RowKit Go Go.Proofs.YtobblofdkpljfaaGreatDoor.Eng Go.Proofs.YtobblofdkpljfaaGreatDoor Go.Proofs.YtobblofdkpljfaaGreatDoor.Y
set_option linter.unusedSimpArgs false
set_option linter.unusedVariables false

/-- On how many days of a year two are as old as each other. -/
def alikeF (a b : Int × Int) (y : Int) : Int × Bool := if (dOk a && dOk b && inR y 0 3000 && !decide (a.1 ≥ y) && !decide (b.1 ≥ y)) = true then (alikeN a b 365, true) else (0, false)
theorem iAlike_l (a b : Int × Int) (y : Int) (ha : dOk a = true) (hb : dOk b = true) (hy : 0 ≤ y ∧ y ≤ 3000) (h1 : a.1 < y) (h2 : b.1 < y) (d : Nat) : ∀ i : Nat, i + d = 365 → Big (fun k => impl_DaysAlike.l0 k y (alikeN a b i) (i : Int) a.1 a.2 b.1 b.2) (alikeN a b 365, true) := by
  have pa := dOk_iff.mp ha
  have pb := dOk_iff.mp hb
  induction d with
  | zero =>
    intro i hi
    refine Big.succ ?_
    unfold impl_DaysAlike.l0
    rw [show i = 365 by omega]
    exact Big.neg (by omega) (Big.some_ _)
  | succ d ih =>
    intro i hi
    have hc := alikeN_in a b i
    have he : dOk (y, (i : Int) + 1) = true := dOk_iff.mpr ⟨hy, by dsimp only; omega⟩
    have ee : ix (y, (i : Int) + 1) = y * 365 + (i : Int) := by unfold ix; dsimp only; omega
    have ga : ag a (y * 365 + (i : Int)) = y - a.1 - (if (i : Int) + 1 < a.2 then 1 else 0) := by rw [← ee]; exact ag_dat ha he
    have gb : ag b (y * 365 + (i : Int)) = y - b.1 - (if (i : Int) + 1 < b.2 then 1 else 0) := by rw [← ee]; exact ag_dat hb he
    have ia : ix a ≤ y * 365 + (i : Int) := by unfold ix; omega
    have ib : ix b ≤ y * 365 + (i : Int) := by unfold ix; omega
    refine Big.succ ?_
    unfold impl_DaysAlike.l0
    rw [w64 (i := y * 365) (by omega) (by omega), w64 (i := y * 365 + (i : Int)) (by omega) (by omega), v_age (d := (a.1, a.2)) ha ia (by omega), v_age (d := (b.1, b.2)) hb ib (by omega), w64n (by omega), w64 (i := alikeN a b i + 1) (by omega) (by omega)]
    refine Big.pos (by omega) (Big.bind (Big.some_ _) (Big.bind (Big.some_ _) ?_))
    rw [show ag (a.1, a.2) (y * 365 + (i : Int)) = ag a (y * 365 + (i : Int)) from rfl, show ag (b.1, b.2) (y * 365 + (i : Int)) = ag b (y * 365 + (i : Int)) from rfl, ga, gb]
    have nx := ih (i + 1) (by omega)
    by_cases c : a.1 + (if (i : Int) + 1 < a.2 then 1 else 0) = b.1 + (if (i : Int) + 1 < b.2 then 1 else 0)
    · refine Big.pos (by omega) ?_
      rw [show alikeN a b (i + 1) = alikeN a b i + 1 by rw [alikeN, if_pos c]] at nx
      exact nx
    · refine Big.neg (by omega) ?_
      rw [show alikeN a b (i + 1) = alikeN a b i by rw [alikeN, if_neg c, Int.add_zero]] at nx
      exact nx
theorem sAlike_l (a b : Int × Int) (y : Int) (ha : dOk a = true) (hb : dOk b = true) (hy : 0 ≤ y ∧ y ≤ 3000) (d : Nat) : ∀ i : Nat, i + d = 365 → Big (fun k => spec_DaysAlike.l0 k y (alikeN a b i) ((i : Int) + 1) a.1 a.2 b.1 b.2) (alikeN a b 365, true) := by
  have pa := dOk_iff.mp ha
  have pb := dOk_iff.mp hb
  induction d with
  | zero =>
    intro i hi
    refine Big.succ ?_
    unfold spec_DaysAlike.l0
    rw [show i = 365 by omega]
    exact Big.neg (by omega) (Big.some_ _)
  | succ d ih =>
    intro i hi
    have hc := alikeN_in a b i
    have he : dOk (y, (i : Int) + 1) = true := dOk_iff.mpr ⟨hy, by dsimp only; omega⟩
    have ga := ag_dat ha he
    have gb := ag_dat hb he
    dsimp only at ga gb
    refine Big.succ ?_
    unfold spec_DaysAlike.l0
    rw [v_biAge (d := (a.1, a.2)) ha he, v_biAge (d := (b.1, b.2)) hb he, w64 (i := (i : Int) + 1 + 1) (by omega) (by omega), w64 (i := alikeN a b i + 1) (by omega) (by omega)]
    refine Big.pos (by omega) (Big.bind (Big.some_ _) (Big.bind (Big.some_ _) ?_))
    rw [show ag (a.1, a.2) (ix (y, (i : Int) + 1)) = ag a (ix (y, (i : Int) + 1)) from rfl, show ag (b.1, b.2) (ix (y, (i : Int) + 1)) = ag b (ix (y, (i : Int) + 1)) from rfl, ga, gb]
    have nx := ih (i + 1) (by omega)
    rw [show ((i + 1 : Nat) : Int) + 1 = (i : Int) + 1 + 1 by omega] at nx
    by_cases c : a.1 + (if (i : Int) + 1 < a.2 then 1 else 0) = b.1 + (if (i : Int) + 1 < b.2 then 1 else 0)
    · refine Big.pos (by omega) ?_
      rw [show alikeN a b (i + 1) = alikeN a b i + 1 by rw [alikeN, if_pos c]] at nx
      exact nx
    · refine Big.neg (by omega) ?_
      rw [show alikeN a b (i + 1) = alikeN a b i by rw [alikeN, if_neg c, Int.add_zero]] at nx
      exact nx
theorem DaysAlike_is (a b : Int × Int) (y : Int) : Big (fun k => spec_DaysAlike.f k a b y) (alikeF a b y) ∧ Big (fun k => impl_DaysAlike.f k a b y) (alikeF a b y) := by
  have sj : Big (fun k => spec_DaysAlike.j0 k y true a.1 a.2 b.1 b.2) (0, false) := by
    refine Big.succ ?_
    unfold spec_DaysAlike.j0
    exact Big.pos rfl (Big.some_ _)
  have ij : Big (fun k => impl_DaysAlike.j0 k y true a.1 a.2 b.1 b.2) (0, false) := by
    refine Big.succ ?_
    unfold impl_DaysAlike.j0
    exact Big.pos rfl (Big.some_ _)
  unfold spec_DaysAlike.f impl_DaysAlike.f alikeF
  rw [v_biDate, v_biDate, v_IsDate, v_IsDate, v_l1In, v_between, show dOk (a.1, a.2) = dOk a from rfl, show dOk (b.1, b.2) = dOk b from rfl]
  cases ha : dOk a
  · exact ⟨Big.bind (Big.some_ _) (Big.neg (by decide) sj), Big.bind (Big.some_ _) (Big.neg (by decide) ij)⟩
  · cases hb : dOk b
    · exact ⟨Big.bind (Big.some_ _) (Big.pos rfl (Big.bind (Big.some_ _) (Big.neg (by decide) sj))), Big.bind (Big.some_ _) (Big.pos rfl (Big.bind (Big.some_ _) (Big.neg (by decide) ij)))⟩
    · cases hy : inR y 0 3000
      · exact ⟨Big.bind (Big.some_ _) (Big.pos rfl (Big.bind (Big.some_ _) (Big.pos rfl (Big.bind (Big.some_ _) (Big.neg (by decide) sj))))), Big.bind (Big.some_ _) (Big.pos rfl (Big.bind (Big.some_ _) (Big.pos rfl (Big.bind (Big.some_ _) (Big.neg (by decide) ij)))))⟩
      · by_cases c1 : a.1 ≥ y
        · rw [decide_eq_true c1]
          exact ⟨Big.bind (Big.some_ _) (Big.pos rfl (Big.bind (Big.some_ _) (Big.pos rfl (Big.bind (Big.some_ _) (Big.pos rfl (Big.pos c1 sj)))))), Big.bind (Big.some_ _) (Big.pos rfl (Big.bind (Big.some_ _) (Big.pos rfl (Big.bind (Big.some_ _) (Big.pos rfl (Big.pos c1 ij))))))⟩
        · rw [decide_eq_false c1]
          by_cases c2 : b.1 ≥ y
          · rw [decide_eq_true c2]
            exact ⟨Big.bind (Big.some_ _) (Big.pos rfl (Big.bind (Big.some_ _) (Big.pos rfl (Big.bind (Big.some_ _) (Big.pos rfl (Big.neg c1 sj)))))), Big.bind (Big.some_ _) (Big.pos rfl (Big.bind (Big.some_ _) (Big.pos rfl (Big.bind (Big.some_ _) (Big.pos rfl (Big.neg c1 ij))))))⟩
          · rw [decide_eq_false c2, if_pos (show (true && true && true && !false && !false) = true from rfl)]
            have hs : Big (fun k => spec_DaysAlike.j0 k y false a.1 a.2 b.1 b.2) (alikeN a b 365, true) := by
              refine Big.succ ?_
              unfold spec_DaysAlike.j0
              exact Big.neg (by decide) (sAlike_l a b y ha hb (inR_iff.mp hy) 365 0 (by omega))
            have hi : Big (fun k => impl_DaysAlike.j0 k y false a.1 a.2 b.1 b.2) (alikeN a b 365, true) := by
              refine Big.succ ?_
              unfold impl_DaysAlike.j0
              exact Big.neg (by decide) (iAlike_l a b y ha hb (inR_iff.mp hy) (by omega) (by omega) 365 0 (by omega))
            exact ⟨Big.bind (Big.some_ _) (Big.pos rfl (Big.bind (Big.some_ _) (Big.pos rfl (Big.bind (Big.some_ _) (Big.pos rfl (Big.neg c1 hs)))))), Big.bind (Big.some_ _) (Big.pos rfl (Big.bind (Big.some_ _) (Big.pos rfl (Big.bind (Big.some_ _) (Big.pos rfl (Big.neg c1 hi))))))⟩
/-- The least and the greatest gap. -/
def gapF (a b : Int × Int) : Int × Int × Bool := if (dOk a && dOk b && !decide (ix a > ix b)) = true then ((ix b - ix a) / 365, (ix b - ix a + 364) / 365, true) else (0, 0, false)
theorem GreatestGap_is (a b : Int × Int) : Big (fun k => spec_GreatestGap.f k a b) (gapF a b) ∧ Big (fun k => impl_GreatestGap.f k a b) (gapF a b) := by
  have sj : Big (fun k => spec_GreatestGap.j0 k true a.1 a.2 b.1 b.2) (0, 0, false) := by
    refine Big.succ ?_
    unfold spec_GreatestGap.j0
    dsimp only
    exact Big.pos rfl (Big.some_ _)
  have ij : Big (fun k => impl_GreatestGap.j0 k true a.1 a.2 b.1 b.2) (0, 0, false) := by
    refine Big.succ ?_
    unfold impl_GreatestGap.j0
    dsimp only
    exact Big.pos rfl (Big.some_ _)
  unfold spec_GreatestGap.f impl_GreatestGap.f gapF
  rw [v_biDate, v_biDate, v_IsDate, v_IsDate, show dOk (a.1, a.2) = dOk a from rfl, show dOk (b.1, b.2) = dOk b from rfl]
  cases ha : dOk a
  · exact ⟨Big.bind (Big.some_ _) (Big.neg (by decide) sj), Big.bind (Big.some_ _) (Big.neg (by decide) ij)⟩
  · cases hb : dOk b
    · exact ⟨Big.bind (Big.some_ _) (Big.pos rfl (Big.bind (Big.some_ _) (Big.neg (by decide) sj))), Big.bind (Big.some_ _) (Big.pos rfl (Big.bind (Big.some_ _) (Big.neg (by decide) ij)))⟩
    · have ia := ix_in ha
      have ib := ix_in hb
      rw [v_biDays (d := (a.1, a.2)) ha, v_biDays (d := (b.1, b.2)) hb, v_index (d := (a.1, a.2)) ha, v_index (d := (b.1, b.2)) hb, show ix (a.1, a.2) = ix a from rfl, show ix (b.1, b.2) = ix b from rfl]
      by_cases c : ix a > ix b
      · rw [decide_eq_true c, if_neg (by decide)]
        refine ⟨Big.bind (Big.some_ _) (Big.pos rfl (Big.bind (Big.some_ _) (Big.pos rfl (Big.bind (Big.some_ _) (Big.bind (Big.some_ _) ?_))))), Big.bind (Big.some_ _) (Big.pos rfl (Big.bind (Big.some_ _) (Big.pos rfl (Big.bind (Big.some_ _) (Big.bind (Big.some_ _) ?_)))))⟩
        · rw [decide_eq_true c]
          exact sj
        · rw [decide_eq_true c]
          exact ij
      · rw [decide_eq_false c, if_pos (show (true && true && !false) = true from rfl)]
        refine ⟨Big.bind (Big.some_ _) (Big.pos rfl (Big.bind (Big.some_ _) (Big.pos rfl (Big.bind (Big.some_ _) (Big.bind (Big.some_ _) ?_))))), Big.bind (Big.some_ _) (Big.pos rfl (Big.bind (Big.some_ _) (Big.pos rfl (Big.bind (Big.some_ _) (Big.bind (Big.some_ _) ?_)))))⟩
        · rw [decide_eq_false c]
          refine Big.succ ?_
          unfold spec_GreatestGap.j0
          dsimp only
          rw [v_biAge (d := (a.1, a.2)) (e := (b.1, b.2)) ha hb]
          refine Big.neg (by decide) (Big.bind (Big.some_ _) ?_)
          have pa := dOk_iff.mp ha
          have pb := dOk_iff.mp hb
          rw [show ag (a.1, a.2) (ix (b.1, b.2)) = (ix b - ix a) / 365 from rfl, w64 (i := (ix b - ix a) / 365 + 1) (by omega) (by omega)]
          by_cases e : a.2 = b.2
          · refine Big.pos e ?_
            rw [show (ix b - ix a + 364) / 365 = (ix b - ix a) / 365 by unfold ix; omega]
            exact Big.some_ _
          · refine Big.neg e ?_
            rw [show (ix b - ix a + 364) / 365 = (ix b - ix a) / 365 + 1 by unfold ix; omega]
            exact Big.some_ _
        · rw [decide_eq_false c]
          refine Big.succ ?_
          unfold impl_GreatestGap.j0
          dsimp only
          rw [v_index (d := (a.1, a.2)) ha, v_index (d := (b.1, b.2)) hb, show ix (a.1, a.2) = ix a from rfl, show ix (b.1, b.2) = ix b from rfl]
          refine Big.neg (by decide) (Big.bind (Big.some_ _) (Big.bind (Big.some_ _) ?_))
          rw [w64 (i := ix b - ix a) (by omega) (by omega), w64 (i := ix b - ix a + 365) (by omega) (by omega), w64 (i := ix b - ix a + 365 - 1) (by omega) (by omega), tdiv_nn (by omega), tdiv_nn (by omega), w64 (i := (ix b - ix a) / 365) (by omega) (by omega), w64 (i := (ix b - ix a + 365 - 1) / 365) (by omega) (by omega), show ix b - ix a + 365 - 1 = ix b - ix a + 364 by omega]
          exact Big.some_ _
/-- When the older one is twice as many days old. -/
def twiceF (a b : Int × Int) : (Int × Int) × Bool := if (dOk a && dOk b && !decide (ix b ≤ ix a)) = true then dAt (2 * ix b - ix a) else ((0, 0), false)
theorem TwiceAsOld_is (a b : Int × Int) : Big (fun k => spec_TwiceAsOld.f k a b) (twiceF a b) ∧ Big (fun k => impl_TwiceAsOld.f k a b) (twiceF a b) := by
  have sj : Big (fun k => spec_TwiceAsOld.j0 k true a.1 a.2 b.1 b.2 0 0) ((0, 0), false) := by
    refine Big.succ ?_
    unfold spec_TwiceAsOld.j0
    dsimp only
    exact Big.pos rfl (Big.some_ _)
  have ij : Big (fun k => impl_TwiceAsOld.j0 k true a.1 a.2 b.1 b.2 0 0) ((0, 0), false) := by
    refine Big.succ ?_
    unfold impl_TwiceAsOld.j0
    dsimp only
    exact Big.pos rfl (Big.some_ _)
  unfold spec_TwiceAsOld.f impl_TwiceAsOld.f twiceF
  rw [v_biDate, v_biDate, v_IsDate, v_IsDate, show dOk (a.1, a.2) = dOk a from rfl, show dOk (b.1, b.2) = dOk b from rfl]
  cases ha : dOk a
  · exact ⟨Big.bind (Big.some_ _) (Big.neg (by decide) sj), Big.bind (Big.some_ _) (Big.neg (by decide) ij)⟩
  · cases hb : dOk b
    · exact ⟨Big.bind (Big.some_ _) (Big.pos rfl (Big.bind (Big.some_ _) (Big.neg (by decide) sj))), Big.bind (Big.some_ _) (Big.pos rfl (Big.bind (Big.some_ _) (Big.neg (by decide) ij)))⟩
    · have ia := ix_in ha
      have ib := ix_in hb
      rw [v_biDays (d := (a.1, a.2)) ha, v_biDays (d := (b.1, b.2)) hb, v_index (d := (a.1, a.2)) ha, v_index (d := (b.1, b.2)) hb, show ix (a.1, a.2) = ix a from rfl, show ix (b.1, b.2) = ix b from rfl]
      by_cases c : ix b ≤ ix a
      · rw [decide_eq_true c, if_neg (by decide)]
        refine ⟨Big.bind (Big.some_ _) (Big.pos rfl (Big.bind (Big.some_ _) (Big.pos rfl (Big.bind (Big.some_ _) (Big.bind (Big.some_ _) ?_))))), Big.bind (Big.some_ _) (Big.pos rfl (Big.bind (Big.some_ _) (Big.pos rfl (Big.bind (Big.some_ _) (Big.bind (Big.some_ _) ?_)))))⟩
        · rw [decide_eq_true c]
          exact sj
        · rw [decide_eq_true c]
          exact ij
      · rw [decide_eq_false c, if_pos (show (true && true && !false) = true from rfl)]
        refine ⟨Big.bind (Big.some_ _) (Big.pos rfl (Big.bind (Big.some_ _) (Big.pos rfl (Big.bind (Big.some_ _) (Big.bind (Big.some_ _) ?_))))), Big.bind (Big.some_ _) (Big.pos rfl (Big.bind (Big.some_ _) (Big.pos rfl (Big.bind (Big.some_ _) (Big.bind (Big.some_ _) ?_)))))⟩
        · rw [decide_eq_false c]
          refine Big.succ ?_
          unfold spec_TwiceAsOld.j0
          dsimp only
          rw [v_biDays (d := (a.1, a.2)) ha, v_biDays (d := (b.1, b.2)) hb, show ix (a.1, a.2) = ix a from rfl, show ix (b.1, b.2) = ix b from rfl]
          refine Big.neg (by decide) (Big.bind (Big.some_ _) (Big.bind (Big.some_ _) ?_))
          rw [w64 (i := 2 * ix b) (by omega) (by omega), w64 (by omega) (by omega), v_biBack]
          exact Big.bind (Big.some_ _) (Big.some_ _)
        · rw [decide_eq_false c]
          refine Big.succ ?_
          unfold impl_TwiceAsOld.j0
          dsimp only
          rw [v_index (d := (a.1, a.2)) ha, v_index (d := (b.1, b.2)) hb, show ix (a.1, a.2) = ix a from rfl, show ix (b.1, b.2) = ix b from rfl]
          refine Big.neg (by decide) (Big.bind (Big.some_ _) (Big.bind (Big.some_ _) ?_))
          rw [w64 (i := 2 * ix b) (by omega) (by omega), w64 (by omega) (by omega), v_dateAt]
          exact Big.bind (Big.some_ _) (Big.some_ _)
/-- The half birthday that comes. -/
def halfN (h n : Int) : Int := if h ≤ n then h + ((n - h) / 365 + 1) * 365 else h
theorem half_l (on : Int × Int) (ho : dOk on = true) (d : Nat) : ∀ h : Int, 0 ≤ h → h ≤ 1100000 → (ix on - h) / 365 + 1 ≤ (d : Int) → Big (fun k => spec_HalfBirthday.l0 k h on.1 on.2 0 0) (dAt (halfN h (ix on))) ∧ Big (fun k => impl_HalfBirthday.l0 k h on.1 on.2 0 0) (dAt (halfN h (ix on))) := by
  have io := ix_in ho
  induction d with
  | zero =>
    intro h h0 h1 hd
    have c : ¬ h ≤ ix on := by omega
    unfold halfN
    rw [if_neg c]
    refine ⟨Big.succ ?_, Big.succ ?_⟩
    · unfold spec_HalfBirthday.l0
      rw [v_biDays (d := (on.1, on.2)) ho, v_biBack]
      exact Big.bind (Big.some_ _) (Big.neg c (Big.bind (Big.some_ _) (Big.some_ _)))
    · unfold impl_HalfBirthday.l0
      rw [v_index (d := (on.1, on.2)) ho, v_dateAt]
      exact Big.bind (Big.some_ _) (Big.neg c (Big.bind (Big.some_ _) (Big.some_ _)))
  | succ d ih =>
    intro h h0 h1 hd
    by_cases c : h ≤ ix on
    · obtain ⟨i1, i2⟩ := ih (h + 365) (by omega) (by omega) (by omega)
      have e : halfN (h + 365) (ix on) = halfN h (ix on) := by
        unfold halfN
        rw [if_pos c]
        split <;> omega
      rw [e] at i1 i2
      refine ⟨Big.succ ?_, Big.succ ?_⟩
      · unfold spec_HalfBirthday.l0
        rw [v_biDays (d := (on.1, on.2)) ho, w64 (i := h + 365) (by omega) (by omega)]
        exact Big.bind (Big.some_ _) (Big.pos c i1)
      · unfold impl_HalfBirthday.l0
        rw [v_index (d := (on.1, on.2)) ho, w64 (i := h + 365) (by omega) (by omega)]
        exact Big.bind (Big.some_ _) (Big.pos c i2)
    · unfold halfN
      rw [if_neg c]
      refine ⟨Big.succ ?_, Big.succ ?_⟩
      · unfold spec_HalfBirthday.l0
        rw [v_biDays (d := (on.1, on.2)) ho, v_biBack]
        exact Big.bind (Big.some_ _) (Big.neg c (Big.bind (Big.some_ _) (Big.some_ _)))
      · unfold impl_HalfBirthday.l0
        rw [v_index (d := (on.1, on.2)) ho, v_dateAt]
        exact Big.bind (Big.some_ _) (Big.neg c (Big.bind (Big.some_ _) (Big.some_ _)))
/-- The half birthday. -/
def halfF (b on : Int × Int) : (Int × Int) × Bool := if (dOk b && dOk on && decide (ix b ≤ ix on)) = true then dAt (halfN (ix b + 182) (ix on)) else ((0, 0), false)
theorem HalfBirthday_is (b on : Int × Int) : Big (fun k => spec_HalfBirthday.f k b on) (halfF b on) ∧ Big (fun k => impl_HalfBirthday.f k b on) (halfF b on) := by
  unfold spec_HalfBirthday.f impl_HalfBirthday.f halfF
  have h := bornOn_at [(b.1, b.2)] (on.1, on.2) (by simp)
  rw [onOk_one, show (dOk (b.1, b.2) && dOk (on.1, on.2) && decide (ix (b.1, b.2) ≤ ix (on.1, on.2))) = (dOk b && dOk on && decide (ix b ≤ ix on)) from rfl] at h
  rw [biBorn_at, show (dOk (b.1, b.2) && dOk (on.1, on.2) && decide (ix (b.1, b.2) ≤ ix (on.1, on.2))) = (dOk b && dOk on && decide (ix b ≤ ix on)) from rfl]
  cases hc : (dOk b && dOk on && decide (ix b ≤ ix on))
  · rw [hc] at h
    exact ⟨Big.bind (Big.some_ _) (Big.neg (by decide) (Big.some_ _)), Big.bind h (Big.neg (by decide) (Big.some_ _))⟩
  · rw [hc] at h
    rw [Bool.and_eq_true, Bool.and_eq_true] at hc
    have h1 := ix_in hc.1.1
    have h2 := ix_in hc.1.2
    rw [v_biDays (d := (b.1, b.2)) hc.1.1, v_index (d := (b.1, b.2)) hc.1.1, show ix (b.1, b.2) = ix b from rfl]
    obtain ⟨l1, l2⟩ := half_l on hc.1.2 ((ix on - (ix b + 182)) / 365 + 1).toNat (ix b + 182) (by omega) (by omega) (by omega)
    refine ⟨Big.bind (Big.some_ _) (Big.pos rfl (Big.bind (Big.some_ _) ?_)), Big.bind h (Big.pos rfl (Big.bind (Big.some_ _) ?_))⟩
    · rw [w64 (i := ix b + 182) (by omega) (by omega), if_pos rfl]
      exact l1
    · rw [w64 (i := ix b + 182) (by omega) (by omega), if_pos rfl]
      exact l2
/-- When somebody is so many days old. -/
def dayF (b : Int × Int) (n : Int) : (Int × Int) × Bool := if (dOk b && inR n 0 1000000) = true then dAt (ix b + n) else ((0, 0), false)
theorem DayOf_is (b : Int × Int) (n : Int) : Big (fun k => spec_DayOfDaysOld.f k b n) (dayF b n) ∧ Big (fun k => impl_DayOfDaysOld.f k b n) (dayF b n) := by
  have sj : Big (fun k => spec_DayOfDaysOld.j0 k n true b.1 b.2 0 0) ((0, 0), false) := by
    refine Big.succ ?_
    unfold spec_DayOfDaysOld.j0
    dsimp only
    exact Big.pos rfl (Big.some_ _)
  have ij : Big (fun k => impl_DayOfDaysOld.j0 k n true b.1 b.2 0 0) ((0, 0), false) := by
    refine Big.succ ?_
    unfold impl_DayOfDaysOld.j0
    dsimp only
    exact Big.pos rfl (Big.some_ _)
  unfold spec_DayOfDaysOld.f impl_DayOfDaysOld.f dayF
  rw [v_biDate, v_IsDate, v_l1In, v_between, show dOk (b.1, b.2) = dOk b from rfl]
  cases hb : dOk b
  · exact ⟨Big.bind (Big.some_ _) (Big.neg (by decide) sj), Big.bind (Big.some_ _) (Big.neg (by decide) ij)⟩
  · cases hn : inR n 0 1000000
    · exact ⟨Big.bind (Big.some_ _) (Big.pos rfl (Big.bind (Big.some_ _) sj)), Big.bind (Big.some_ _) (Big.pos rfl (Big.bind (Big.some_ _) ij))⟩
    · have h1 := ix_in hb
      have h2 := inR_iff.mp hn
      rw [if_pos (show (true && true) = true from rfl)]
      refine ⟨Big.bind (Big.some_ _) (Big.pos rfl (Big.bind (Big.some_ _) (Big.succ ?_))), Big.bind (Big.some_ _) (Big.pos rfl (Big.bind (Big.some_ _) (Big.succ ?_)))⟩
      · unfold spec_DayOfDaysOld.j0
        dsimp only
        rw [v_biDays (d := (b.1, b.2)) hb, show ix (b.1, b.2) = ix b from rfl]
        refine Big.neg (by decide) (Big.bind (Big.some_ _) ?_)
        rw [w64 (by omega) (by omega), v_biBack]
        exact Big.bind (Big.some_ _) (Big.some_ _)
      · unfold impl_DayOfDaysOld.j0
        dsimp only
        rw [v_index (d := (b.1, b.2)) hb, show ix (b.1, b.2) = ix b from rfl]
        refine Big.neg (by decide) (Big.bind (Big.some_ _) ?_)
        rw [w64 (by omega) (by omega), v_dateAt]
        exact Big.bind (Big.some_ _) (Big.some_ _)
end Go.Proofs.YtobblofdkpljfaaGreatDoor.Q
namespace Go.Proofs.YtobblofdkpljfaaGreatDoor.Q
open Go.RowKit Go Go.Proofs.YtobblofdkpljfaaGreatDoor.Eng Go.Proofs.YtobblofdkpljfaaGreatDoor Go.Proofs.YtobblofdkpljfaaGreatDoor.Y
set_option linter.unusedSimpArgs false
set_option linter.unusedVariables false

/-- Where the search by halves ends. -/
structure FsoE (l : List (Int × Int)) (s n : Int) : Prop where
  a : lastB l 0 ≤ n
  b : n ≤ 1095365
  c : n = lastB l 0 ∨ sumG (n - 1) l < s
  d : n = 1095365 ∨ sumG n l ≥ s
theorem fso_l (l : List (Int × Int)) (s : Int) (hb : bOk l = true) (m : Nat) : ∀ lo hi : Int, hi - lo ≤ (m : Int) → lo ≤ hi → lastB l 0 ≤ lo → hi ≤ 1095365 → (lo = lastB l 0 ∨ sumG (lo - 1) l < s) → (hi = 1095365 ∨ sumG hi l ≥ s) → ∃ n, FsoE l s n ∧ Big (fun k => spec_FirstSumOn.l1 k l s lo hi 0 0) (dAt n) ∧ Big (fun k => impl_FirstSumOn.l0 k l s lo hi 0 0) (dAt n) := by
  obtain ⟨hb1, hb2⟩ := bOk_iff.mp hb
  have hl0 := (lastB_ge l 0).1
  have last : ∀ lo hi : Int, lo = hi → lastB l 0 ≤ lo → hi ≤ 1095365 → (lo = lastB l 0 ∨ sumG (lo - 1) l < s) → (hi = 1095365 ∨ sumG hi l ≥ s) → ∃ n, FsoE l s n ∧ Big (fun k => spec_FirstSumOn.l1 k l s lo hi 0 0) (dAt n) ∧ Big (fun k => impl_FirstSumOn.l0 k l s lo hi 0 0) (dAt n) := by
    intro lo hi e h1 h2 h3 h4
    subst e
    refine ⟨lo, ⟨h1, h2, h3, h4⟩, Big.succ ?_, Big.succ ?_⟩
    · unfold spec_FirstSumOn.l1
      rw [v_biBack lo]
      exact Big.neg (by omega) (Big.bind (Big.some_ _) (Big.some_ _))
    · unfold impl_FirstSumOn.l0
      rw [v_dateAt lo]
      exact Big.neg (by omega) (Big.bind (Big.some_ _) (Big.some_ _))
  induction m with
  | zero =>
    intro lo hi h0 hle h1 h2 h3 h4
    exact last lo hi (by omega) h1 h2 h3 h4
  | succ m ih =>
    intro lo hi h0 hle h1 h2 h3 h4
    by_cases c : lo < hi
    · have hm : (lo + hi) / 2 < hi ∧ lo ≤ (lo + hi) / 2 := by omega
      have hmo : dOk (dat ((lo + hi) / 2)) = true := dat_ok (by omega)
      have ha : ∀ d ∈ l, dOk d = true ∧ ix d ≤ (lo + hi) / 2 := fun d hd => ⟨hb2 d hd, by have := (lastB_ge l 0).2 d hd; omega⟩
      have hs : Big (fun k => spec_biSum.f k l (dat ((lo + hi) / 2))) (sumG ((lo + hi) / 2) l) := by
        have := biSum_at l _ hmo (by omega) (by rw [ix_dat]; exact ha)
        rw [ix_dat] at this
        exact this
      have hi1 := agesOn_at l ((lo + hi) / 2) (by omega) (by omega) ha
      have hi2 := total_at l ((lo + hi) / 2) (by omega) (by omega) ha
      have ew : IntKind.i64.wrap ((IntKind.i64.wrap (lo + hi)).tdiv 2) = (lo + hi) / 2 := by rw [w64 (i := lo + hi) (by omega) (by omega), tdiv_nn (by omega), w64 (by omega) (by omega)]
      have eu : IntKind.i64.wrap ((lo + hi) / 2 + 1) = (lo + hi) / 2 + 1 := w64 (by omega) (by omega)
      by_cases g : sumG ((lo + hi) / 2) l ≥ s
      · obtain ⟨n, hn, n1, n2⟩ := ih lo ((lo + hi) / 2) (by omega) (by omega) h1 (by omega) h3 (.inr g)
        refine ⟨n, hn, Big.succ ?_, Big.succ ?_⟩
        · unfold spec_FirstSumOn.l1
          rw [ew, eu, v_biBack, dAt_yes (by omega)]
          exact Big.pos c (Big.bind (Big.some_ _) (Big.bind hs (Big.pos g n1)))
        · unfold impl_FirstSumOn.l0
          rw [ew, eu]
          exact Big.pos c (Big.bind hi1 (Big.bind hi2 (Big.pos g n2)))
      · obtain ⟨n, hn, n1, n2⟩ := ih ((lo + hi) / 2 + 1) hi (by omega) (by omega) (by omega) h2 (.inr (by rw [show (lo + hi) / 2 + 1 - 1 = (lo + hi) / 2 by omega]; omega)) h4
        refine ⟨n, hn, Big.succ ?_, Big.succ ?_⟩
        · unfold spec_FirstSumOn.l1
          rw [ew, eu, v_biBack, dAt_yes (by omega)]
          exact Big.pos c (Big.bind (Big.some_ _) (Big.bind hs (Big.neg g n1)))
        · unfold impl_FirstSumOn.l0
          rw [ew, eu]
          exact Big.pos c (Big.bind hi1 (Big.bind hi2 (Big.neg g n2)))
    · exact last lo hi (by omega) h1 h2 h3 h4
/-- The later one of two. -/
theorem from_l (l : List (Int × Int)) (s : Int) (hb : bOk l = true) (R : (Int × Int) × Bool) (hR : Big (fun k => spec_FirstSumOn.l1 k l s (lastB l 0) 1095365 0 0) R) (t : List (Int × Int)) : ∀ (i : Nat) (b : Int × Int), l.drop i = t → i ≤ l.length → dOk b = true → lastB t (ix b) = lastB l 0 → Big (fun k => spec_FirstSumOn.l0 k l s l (l.length : Int) (i : Int) 0 0 b.1 b.2) R := by
  obtain ⟨hb1, hb2⟩ := bOk_iff.mp hb
  induction t with
  | nil =>
    intro i b hd hi ho he
    have := dropx_nil hd
    refine Big.succ ?_
    unfold spec_FirstSumOn.l0
    rw [v_biDays (d := (b.1, b.2)) ho]
    refine Big.neg (by omega) (Big.bind (Big.some_ _) ?_)
    rw [show ix (b.1, b.2) = lastB l 0 from he]
    exact hR
  | cons d t ih =>
    intro i b hd hi ho he
    obtain ⟨h1, h2, h3⟩ := rdx_cons_drop hd
    have hdo : dOk d = true := all_drop hd hb2 d List.mem_cons_self
    rw [lastB] at he
    refine Big.succ ?_
    unfold spec_FirstSumOn.l0
    rw [h1, v_biDays (d := (d.1, d.2)) hdo, v_biDays (d := (b.1, b.2)) ho, w64n (by omega), show ix (d.1, d.2) = ix d from rfl, show ix (b.1, b.2) = ix b from rfl]
    refine Big.pos (by omega) (Big.pos (by omega) (Big.pos (by omega) (Big.bind (Big.some_ _) (Big.bind (Big.some_ _) ?_))))
    by_cases c : ix d > ix b
    · rw [if_pos (show ix b < ix d from c)] at he
      exact Big.pos c (ih (i + 1) d h3 (by omega) hdo he)
    · rw [if_neg (show ¬ ix b < ix d from c)] at he
      exact Big.neg c (ih (i + 1) b h3 (by omega) ho he)
theorem lastB_mono : ∀ (l : List (Int × Int)) (m n : Int), m ≤ n → (∃ d ∈ l, n ≤ ix d) → lastB l m = lastB l n
  | [], m, n, _, h => by obtain ⟨d, hd, _⟩ := h; cases hd
  | d :: l, m, n, h, he => by
    unfold lastB
    by_cases c : n ≤ ix d
    · by_cases c2 : m < ix d
      · rw [if_pos c2]
        split
        · rfl
        · rw [show n = ix d by omega]
      · rw [if_neg c2, if_neg (by omega), show m = n by omega]
    · rw [if_neg (show ¬ n < ix d by omega)]
      obtain ⟨e, he1, he2⟩ := he
      rcases List.mem_cons.1 he1 with rfl | he1
      · omega
      · exact lastB_mono l _ _ (by split <;> omega) ⟨e, he1, he2⟩
/-- What is known of the first day. -/
structure FsoH (l : List (Int × Int)) (s : Int) (R : (Int × Int) × Bool) : Prop where
  b : bOk l = true
  o : dOk R.1 = true
  a : lastB l 0 ≤ ix R.1
  g : sumG (ix R.1) l ≥ s
  z : ix R.1 = lastB l 0 ∨ sumG (ix R.1 - 1) l < s
theorem FirstSumOn_both (l : List (Int × Int)) (s : Int) (hl : l.length ≤ 2000000) : ∃ R : (Int × Int) × Bool, (R.2 = true → FsoH l s R) ∧ Big (fun k => spec_FirstSumOn.f k l s) R ∧ Big (fun k => impl_FirstSumOn.f k l s) R := by
  have sj : Big (fun k => spec_FirstSumOn.j0 k l s true 0 0) ((0, 0), false) := by
    refine Big.succ ?_
    unfold spec_FirstSumOn.j0
    exact Big.pos rfl (Big.some_ _)
  have ij : Big (fun k => impl_FirstSumOn.j0 k l s true 0 0) ((0, 0), false) := by
    refine Big.succ ?_
    unfold impl_FirstSumOn.j0
    exact Big.pos rfl (Big.some_ _)
  unfold spec_FirstSumOn.f impl_FirstSumOn.f
  rw [v_l1In, v_between]
  have hg := good_at l hl
  have hi := births_at l hl
  cases hb : bOk l
  · rw [hb] at hg hi
    exact ⟨((0, 0), false), (fun h => by cases h), Big.bind hg (Big.neg (by decide) sj), Big.bind hi (Big.neg (by decide) ij)⟩
  · rw [hb] at hg hi
    cases hs : inR s 0 10000
    · exact ⟨((0, 0), false), (fun h => by cases h), Big.bind hg (Big.pos rfl (Big.bind (Big.some_ _) sj)), Big.bind hi (Big.pos rfl (Big.bind (Big.some_ _) ij))⟩
    · obtain ⟨hb1, hb2⟩ := bOk_iff.mp hb
      have h0 := (lastB_ge l 0).1
      have h1 : lastB l 0 ≤ 1095364 := lastB_le 1095364 l 0 (by omega) (fun d hd => (ix_in (hb2 d hd)).2)
      obtain ⟨n, hn, n1, n2⟩ := fso_l l s hb (1095365 - lastB l 0).toNat (lastB l 0) 1095365 (by omega) (by omega) (Int.le_refl _) (Int.le_refl _) (.inl rfl) (.inl rfl)
      refine ⟨dAt n, fun h => ?_, Big.bind hg (Big.pos rfl (Big.bind (Big.some_ _) (Big.succ ?_))), Big.bind hi (Big.pos rfl (Big.bind (Big.some_ _) (Big.succ ?_)))⟩
      · obtain ⟨h2, h3⟩ := dAt_ok h
        obtain ⟨a, b, c, d⟩ := hn
        have e : ix (dAt n).1 = n := by rw [h3, ix_dat]
        exact ⟨hb, by rw [h3]; exact dat_ok h2, by rw [e]; exact a, by rw [e]; exact d.elim (fun d => by omega) (fun d => d), by rw [e]; exact c⟩
      · unfold spec_FirstSumOn.j0
        have hp : 0 < l.length := by omega
        obtain ⟨d, t, e⟩ : ∃ d t, l = d :: t := by
          cases l with
          | nil => simp at hp
          | cons d t => exact ⟨d, t, rfl⟩
        have er : rde l 0 = d := by rw [e]; rfl
        have hd : d ∈ l := by rw [e]; exact List.mem_cons_self
        have hd0 := ix_in (hb2 d hd)
        refine Big.neg (by decide) (Big.pos (by omega) ?_)
        rw [er]
        exact from_l l s hb _ n1 l 0 d rfl (Nat.zero_le _) (hb2 d hd) (lastB_mono l 0 (ix d) hd0.1 ⟨d, hd, Int.le_refl _⟩).symm
      · unfold impl_FirstSumOn.j0
        exact Big.neg (by decide) (Big.bind (last_at l hl hb2) n2)
end Go.Proofs.YtobblofdkpljfaaGreatDoor.Q
namespace Go.Proofs.YtobblofdkpljfaaGreatDoor.Q
open Go.RowKit Go Go.Proofs.YtobblofdkpljfaaGreatDoor.Eng Go.Proofs.YtobblofdkpljfaaGreatDoor Go.Proofs.YtobblofdkpljfaaGreatDoor.Y
set_option linter.unusedSimpArgs false
set_option linter.unusedVariables false

theorem sRow_l (l : List (Int × Int)) (hl : l.length ≤ 8) (o : List (List Int)) (day : Int) (ho : o.length ≤ 400) (hd : day ≤ 365) (h0 : 1 ≤ day) (R : List (List Int) × Bool) (hR : Big (fun k => spec_BirthdaysOf.l0 k l (o ++ (if whoF day l 0 = [] then [] else [day :: whoF day l 0])) (day + 1)) R) (t : List (Int × Int)) : ∀ (i : Nat) (r : List Int), l.drop i = t → i ≤ l.length → r.length ≤ i → whoF day l 0 = r ++ whoF day t (i : Int) → Big (fun k => spec_BirthdaysOf.l1 k l o day (day :: r) l (l.length : Int) (i : Int)) R := by
  induction t with
  | nil =>
    intro i r he hi hr hw
    have := dropx_nil he
    rw [show whoF day [] (i : Int) = [] from rfl, List.append_nil] at hw
    rw [hw] at hR
    refine Big.succ ?_
    unfold spec_BirthdaysOf.l1
    rw [w64 (i := day + 1) (by omega) (by omega)]
    refine Big.neg (by omega) ?_
    cases r with
    | nil =>
      rw [if_pos rfl, List.append_nil] at hR
      exact Big.neg (by simp) hR
    | cons x r =>
      rw [if_neg (by simp)] at hR
      refine Big.pos (by simp only [List.length_cons]; omega) (Big.pos (by omega) hR)
  | cons d t ih =>
    intro i r he hi hr hw
    obtain ⟨h1, h2, h3⟩ := rdx_cons_drop he
    rw [whoF] at hw
    refine Big.succ ?_
    unfold spec_BirthdaysOf.l1
    rw [h1, w64n (by omega)]
    refine Big.pos (by omega) (Big.pos (by omega) (Big.pos (by omega) ?_))
    by_cases c : d.2 = day
    · rw [if_pos c] at hw
      refine Big.pos c (Big.pos (by rw [List.length_cons]; omega) ?_)
      exact ih (i + 1) (r ++ [(i : Int)]) h3 (by omega) (by rw [List.length_append, List.length_singleton]; omega) (by rw [hw, List.append_assoc]; rfl)
    · rw [if_neg c, List.nil_append] at hw
      exact Big.neg c (ih (i + 1) r h3 (by omega) (by omega) hw)
theorem sRows_l (l : List (Int × Int)) (hl : l.length ≤ 8) (n : Nat) : ∀ (o : List (List Int)) (day : Int), day + (n : Int) = 366 → 1 ≤ day → (o.length : Int) < day → Big (fun k => spec_BirthdaysOf.l0 k l o day) (o ++ bRows l n day, true) := by
  induction n with
  | zero =>
    intro o day h h0 ho
    refine Big.succ ?_
    unfold spec_BirthdaysOf.l0
    rw [bRows, List.append_nil]
    exact Big.neg (by omega) (Big.some_ _)
  | succ n ih =>
    intro o day h h0 ho
    refine Big.succ ?_
    unfold spec_BirthdaysOf.l0
    refine Big.pos (by omega) ?_
    refine sRow_l l hl o day (by omega) (by omega) h0 _ ?_ l 0 [] rfl (Nat.zero_le _) (Nat.zero_le _) rfl
    have := ih (o ++ (if whoF day l 0 = [] then [] else [day :: whoF day l 0])) (day + 1) (by omega) (by omega) (by rw [List.length_append]; split <;> simp <;> omega)
    rw [List.append_assoc] at this
    exact this
theorem iRow_l (l : List (Int × Int)) (hl : l.length ≤ 8) (o : List (List Int)) (day : Int) (ho : o.length ≤ 400) (hd : day ≤ 365) (h0 : 1 ≤ day) (R : List (List Int) × Bool) (hR : Big (fun k => impl_BirthdaysOf.l0 k l (o ++ (if whoF day l 0 = [] then [] else [day :: whoF day l 0])) (day + 1)) R) (t : List (Int × Int)) : ∀ (i : Nat) (r : List Int), l.drop i = t → i ≤ l.length → r.length ≤ i → whoF day l 0 = r ++ whoF day t (i : Int) → Big (fun k => impl_BirthdaysOf.l1 k l o day (day :: r) l (l.length : Int) (i : Int)) R := by
  induction t with
  | nil =>
    intro i r he hi hr hw
    have := dropx_nil he
    rw [show whoF day [] (i : Int) = [] from rfl, List.append_nil] at hw
    rw [hw] at hR
    refine Big.succ ?_
    unfold impl_BirthdaysOf.l1
    rw [w64 (i := day + 1) (by omega) (by omega)]
    refine Big.neg (by omega) ?_
    cases r with
    | nil =>
      rw [if_pos rfl, List.append_nil] at hR
      exact Big.neg (by simp) hR
    | cons x r =>
      rw [if_neg (by simp)] at hR
      refine Big.pos (by simp only [List.length_cons]; omega) (Big.pos (by omega) hR)
  | cons d t ih =>
    intro i r he hi hr hw
    obtain ⟨h1, h2, h3⟩ := rdx_cons_drop he
    rw [whoF] at hw
    refine Big.succ ?_
    unfold impl_BirthdaysOf.l1
    rw [h1, w64n (by omega)]
    refine Big.pos (by omega) (Big.pos (by omega) (Big.pos (by omega) ?_))
    by_cases c : d.2 = day
    · rw [if_pos c] at hw
      refine Big.pos c (Big.pos (by rw [List.length_cons]; omega) ?_)
      exact ih (i + 1) (r ++ [(i : Int)]) h3 (by omega) (by rw [List.length_append, List.length_singleton]; omega) (by rw [hw, List.append_assoc]; rfl)
    · rw [if_neg c, List.nil_append] at hw
      exact Big.neg c (ih (i + 1) r h3 (by omega) (by omega) hw)
theorem iRows_l (l : List (Int × Int)) (hl : l.length ≤ 8) (n : Nat) : ∀ (o : List (List Int)) (day : Int), day + (n : Int) = 366 → 1 ≤ day → (o.length : Int) < day → Big (fun k => impl_BirthdaysOf.l0 k l o day) (o ++ bRows l n day, true) := by
  induction n with
  | zero =>
    intro o day h h0 ho
    refine Big.succ ?_
    unfold impl_BirthdaysOf.l0
    rw [bRows, List.append_nil]
    exact Big.neg (by omega) (Big.some_ _)
  | succ n ih =>
    intro o day h h0 ho
    refine Big.succ ?_
    unfold impl_BirthdaysOf.l0
    refine Big.pos (by omega) ?_
    refine iRow_l l hl o day (by omega) (by omega) h0 _ ?_ l 0 [] rfl (Nat.zero_le _) (Nat.zero_le _) rfl
    have := ih (o ++ (if whoF day l 0 = [] then [] else [day :: whoF day l 0])) (day + 1) (by omega) (by omega) (by rw [List.length_append]; split <;> simp <;> omega)
    rw [List.append_assoc] at this
    exact this
/-- The rows of birthdays. -/
def bdF (l : List (Int × Int)) : List (List Int) × Bool := if bOk l = true then (bRows l 365 1, true) else ([], false)
theorem BirthdaysOf_is (l : List (Int × Int)) (hl : l.length ≤ 2000000) : Big (fun k => spec_BirthdaysOf.f k l) (bdF l) ∧ Big (fun k => impl_BirthdaysOf.f k l) (bdF l) := by
  unfold spec_BirthdaysOf.f impl_BirthdaysOf.f bdF
  have hg := good_at l hl
  have hi := births_at l hl
  cases hb : bOk l
  · rw [hb] at hg hi
    exact ⟨Big.bind hg (Big.neg (by decide) (Big.some_ _)), Big.bind hi (Big.neg (by decide) (Big.some_ _))⟩
  · rw [hb] at hg hi
    have h8 := (bOk_iff.mp hb).1.2
    rw [if_pos rfl]
    exact ⟨Big.bind hg (Big.pos rfl (sRows_l l h8 365 [] 1 (by omega) (by omega) (by simp))), Big.bind hi (Big.pos rfl (iRows_l l h8 365 [] 1 (by omega) (by omega) (by simp)))⟩
end Go.Proofs.YtobblofdkpljfaaGreatDoor.Q
namespace Go.Proofs.YtobblofdkpljfaaGreatDoor.Q
open Go.RowKit Go Go.Proofs.YtobblofdkpljfaaGreatDoor.Eng Go.Proofs.YtobblofdkpljfaaGreatDoor Go.Proofs.YtobblofdkpljfaaGreatDoor.Y
set_option linter.unusedSimpArgs false
set_option linter.unusedVariables false

/-- The day of a birth. -/
def bf (l : List (Int × Int)) (w : Int) : Int := ix (rde l w)
theorem rde_mem {l : List (Int × Int)} {w : Int} (h : 0 ≤ w ∧ w < (l.length : Int)) : rde l w ∈ l := by
  unfold rde
  rw [List.getD_eq_getElem?_getD, List.getElem?_eq_getElem (show w.toNat < l.length by omega), Option.getD_some]
  exact List.getElem_mem _
theorem rde_app (A : List Int) (w : Int) (X : List Int) (n : Nat) (h : A.length = n) : rde (A ++ w :: X) (n : Int) = w := by
  unfold rde
  rw [Int.toNat_natCast, List.getD_eq_getElem?_getD, List.getElem?_append_right (by omega), h, Nat.sub_self]
  rfl
theorem sIns_l (l : List (Int × Int)) (hl : l.length ≤ 1000) (hb : ∀ d ∈ l, dOk d = true) (L : List Int) (w : Nat) (hw : w < l.length) (hLl : L.length = w) (hL : ∀ x ∈ L, 0 ≤ x ∧ x < (l.length : Int)) (R : List Int × Bool) (hR : Big (fun k => spec_OlderOf.l0 k l (insK (bf l) w L) l (l.length : Int) ((w + 1 : Nat) : Int)) R) (t : List Int) : ∀ (A : List Int) (j : Nat), L = A ++ t → A.length = j → insK (bf l) w L = A ++ insK (bf l) w t → Big (fun k => spec_OlderOf.l1 k l L (w : Int) (j : Int) l (l.length : Int) (w : Int) (rde l (w : Int)).1 (rde l (w : Int)).2) R := by
  have hwm : dOk (rde l (w : Int)) = true := hb _ (rde_mem ⟨by omega, by omega⟩)
  have done : ∀ (A : List Int) (j : Nat) (t : List Int), L = A ++ t → A.length = j → insK (bf l) w L = A ++ (w : Int) :: t → Big (fun k => (spec_l1Own.f (L.take ((j : Int)).toNat)).bind fun y11 => (if y11.length < 17592186044416 then (if (y11 ++ [(w : Int)]).length + (L.drop ((j : Int)).toNat).length < 17592186044416 then (spec_OlderOf.l0 k l ((y11 ++ [(w : Int)]) ++ (L.drop ((j : Int)).toNat)) l (l.length : Int) (IntKind.i64.wrap ((w : Int) + 1))) else (none)) else (none))) R := by
    intro A j t e1 e2 e3
    have ha : L.take ((j : Int)).toNat = A := by rw [Int.toNat_natCast, e1, ← e2, List.take_left]
    have ht : L.drop ((j : Int)).toNat = t := by rw [Int.toNat_natCast, e1, ← e2, List.drop_left]
    have hlen : A.length + t.length = w := by rw [← hLl, e1, List.length_append]
    rw [ha, ht, w64n (by omega)]
    refine Big.bind (a := A) ?_ (Big.pos (by omega) (Big.pos (by rw [List.length_append, List.length_singleton]; omega) ?_))
    · unfold spec_l1Own.f
      rw [if_pos (by omega)]
      exact Big.some_ _
    · rw [List.append_assoc, List.singleton_append, ← e3]
      exact hR
  induction t with
  | nil =>
    intro A j e1 e2 e3
    refine Big.succ ?_
    unfold spec_OlderOf.l1
    have : L.length = j := by rw [e1, List.length_append, List.length_nil]; omega
    exact Big.neg (by omega) (Big.pos (by omega) (Big.pos (by omega) (done A j [] e1 e2 e3)))
  | cons x t ih =>
    intro A j e1 e2 e3
    have hlen : L.length = j + 1 + t.length := by rw [e1, List.length_append, List.length_cons]; omega
    have er : rde L (j : Int) = x := by rw [e1]; exact rde_app A x t j e2
    have hx := hL x (by rw [e1]; simp)
    have hxo : dOk (rde l x) = true := hb _ (rde_mem hx)
    rw [insK] at e3
    refine Big.succ ?_
    unfold spec_OlderOf.l1
    rw [er, v_biDays hxo, v_biDays (d := ((rde l (w : Int)).1, (rde l (w : Int)).2)) hwm, w64n (i := j) (by omega)]
    refine Big.pos (by omega) (Big.pos (by omega) (Big.pos hx.1 (Big.pos hx.2 (Big.bind (Big.some_ _) (Big.bind (Big.some_ _) ?_)))))
    by_cases c : bf l x ≤ bf l (w : Int)
    · rw [if_pos c] at e3
      refine Big.pos c ?_
      exact ih (A ++ [x]) (j + 1) (by rw [e1]; simp) (by rw [List.length_append, List.length_singleton, e2]) (by rw [e3]; simp)
    · rw [if_neg c] at e3
      refine Big.neg c (Big.pos (by omega) (done A j (x :: t) e1 e2 e3))
theorem sOrd_l (l : List (Int × Int)) (hl : l.length ≤ 1000) (hb : ∀ d ∈ l, dOk d = true) (d : Nat) : ∀ i : Nat, i + d = l.length → Big (fun k => spec_OlderOf.l0 k l (ord (bf l) i) l (l.length : Int) (i : Int)) (ord (bf l) l.length, true) := by
  induction d with
  | zero =>
    intro i hi
    refine Big.succ ?_
    unfold spec_OlderOf.l0
    rw [show i = l.length by omega]
    exact Big.neg (by omega) (Big.some_ _)
  | succ d ih =>
    intro i hi
    refine Big.succ ?_
    unfold spec_OlderOf.l0
    refine Big.pos (by omega) (Big.pos (by omega) (Big.pos (by omega) ?_))
    exact sIns_l l hl hb (ord (bf l) i) i (by omega) (ord_len _ _) (fun x hx => by have := ord_mem (bf l) i x hx; omega) _ (ih (i + 1) (by omega)) (ord (bf l) i) [] 0 rfl rfl rfl
theorem cmp_at (l : List (Int × Int)) (hb : ∀ d ∈ l, dOk d = true) {x y : Int} (hx : 0 ≤ x ∧ x < (l.length : Int)) (hy : 0 ≤ y ∧ y < (l.length : Int)) : impl_OlderOf_1.f x y l = some (bf l x - bf l y) := by
  have h1 := hb _ (rde_mem hx)
  have h2 := hb _ (rde_mem hy)
  have i1 := ix_in h1
  have i2 := ix_in h2
  unfold impl_OlderOf_1.f
  rw [if_pos hx.1, if_pos hx.2, v_index h1, Option.bind_some, if_pos hy.1, if_pos hy.2, v_index h2, Option.bind_some, w64 (by omega) (by omega)]
  rfl
theorem iIns_l (l : List (Int × Int)) (hl : l.length ≤ 1000) (hb : ∀ d ∈ l, dOk d = true) (i : Nat) (hi : i < l.length) (C : List Int) (hC : i + 1 + C.length = l.length) (R : Unit × List Int) (hR : Big (fun k => slices_insertionSortCmpFunc.l0 k l.length 0 (l.length : Int) l ((i + 1 : Nat) : Int) (ord (bf l) (i + 1) ++ C)) R) (d : Nat) : ∀ A B : List Int, A.length = d → ord (bf l) i = A ++ B → (∀ b ∈ B, bf l (i : Int) < bf l b) → Big (fun k => slices_insertionSortCmpFunc.l1 k l.length 0 (l.length : Int) l (i : Int) (d : Int) (A ++ (i : Int) :: (B ++ C))) R := by
  have hlen : ∀ A B : List Int, ord (bf l) i = A ++ B → A.length + B.length = i := fun A B h => by rw [← List.length_append, ← h, ord_len]
  have mem : ∀ A B : List Int, ord (bf l) i = A ++ B → ∀ x ∈ A, 0 ≤ x ∧ x < (l.length : Int) := fun A B h x hx => by
    have := ord_mem (bf l) i x (by rw [h]; exact List.mem_append_left _ hx)
    omega
  have fin : ∀ A B : List Int, ord (bf l) i = A ++ B → (∀ a ∈ A, bf l a ≤ bf l (i : Int)) → (∀ b ∈ B, bf l (i : Int) < bf l b) → Big (fun k => slices_insertionSortCmpFunc.l0 k l.length 0 (l.length : Int) l (IntKind.i64.wrap ((i : Int) + 1)) (A ++ (i : Int) :: (B ++ C))) R := by
    intro A B h1 h2 h3
    rw [w64n (by omega)]
    have : A ++ (i : Int) :: (B ++ C) = ord (bf l) (i + 1) ++ C := by
      rw [ord, h1, insK_split (bf l) i A B h2 h3]
      simp
    rw [this]
    exact hR
  induction d with
  | zero =>
    intro A B h1 h2 h3
    have hA : A = [] := List.length_eq_zero_iff.mp h1
    subst hA
    refine Big.succ ?_
    unfold slices_insertionSortCmpFunc.l1
    exact Big.neg (by omega) (fin [] B h2 (by simp) h3)
  | succ d ih =>
    intro A B h1 h2 h3
    have hne : A ≠ [] := by rintro rfl; simp at h1
    obtain ⟨A', p, rfl⟩ : ∃ A' p, A = A' ++ [p] := ⟨A.dropLast, A.getLast hne, (List.dropLast_concat_getLast hne).symm⟩
    have h1' : A'.length = d := by rw [List.length_append, List.length_singleton] at h1; omega
    have hl1 := hlen _ _ h2
    rw [List.length_append, List.length_singleton] at hl1
    have hp := mem _ _ h2 p (by simp)
    have eL : A' ++ [p] ++ (i : Int) :: (B ++ C) = A' ++ p :: (i : Int) :: (B ++ C) := by simp
    have e1 : rde (A' ++ p :: (i : Int) :: (B ++ C)) ((d + 1 : Nat) : Int) = (i : Int) := by
      rw [← eL]
      exact rde_app _ _ _ _ (by rw [List.length_append, List.length_singleton, h1'])
    have e2 : rde (A' ++ p :: (i : Int) :: (B ++ C)) (d : Int) = p := rde_app _ _ _ _ h1'
    have eW : IntKind.i64.wrap (((d + 1 : Nat) : Int) - 1) = (d : Int) := by rw [w64 (by omega) (by omega)]; omega
    have eS : ((A' ++ p :: (i : Int) :: (B ++ C)).set (((d + 1 : Nat) : Int)).toNat p).set ((d : Int)).toNat (i : Int) = A' ++ (i : Int) :: (p :: B ++ C) := by
      rw [Int.toNat_natCast, Int.toNat_natCast, List.set_append_right _ _ (by omega), h1', show d + 1 - d = 1 by omega, List.set_cons_succ, List.set_cons_zero, List.set_append_right _ _ (by omega), h1', Nat.sub_self, List.set_cons_zero]
      rfl
    have hrl : (A' ++ p :: (i : Int) :: (B ++ C)).length = l.length := by
      simp only [List.length_append, List.length_cons]
      omega
    refine Big.succ ?_
    unfold slices_insertionSortCmpFunc.l1
    rw [eL, eW, e1, e2, eS, cmp_at l hb (x := (i : Int)) (y := p) ⟨by omega, by omega⟩ hp, hrl, List.length_set, hrl, Option.bind_some]
    refine Big.pos (by omega) (Big.pos (by omega) (Big.pos (by omega) (Big.pos (by omega) (Big.pos (by omega) (Big.pos (by omega) (Big.pos (by omega) (Big.pos (by omega) (Big.pos (by omega) (Big.bind (Big.some_ _) ?_)))))))))
    by_cases c : bf l (i : Int) < bf l p
    · refine Big.pos (by omega) ?_
      refine Big.pos (by omega) (Big.pos (by omega) (Big.pos (by omega) (Big.pos (by omega) (Big.pos (by omega) (Big.pos (by omega) (Big.pos (by omega) (Big.pos (by omega) (Big.pos (by omega) ?_))))))))
      refine ih A' (p :: B) h1' (by rw [h2]; simp) (fun b hb' => ?_)
      rcases List.mem_cons.1 hb' with rfl | hb'
      · exact c
      · exact h3 b hb'
    · refine Big.neg (by omega) ?_
      rw [← eL]
      refine fin _ B h2 (fun a ha => ?_) h3
      have hpw := ord_pair (bf l) i
      rw [h2] at hpw
      have hpw2 := (List.pairwise_append.1 (List.pairwise_append.1 hpw).1).2.2
      rcases List.mem_append.1 ha with ha | ha
      · have := hpw2 a ha p (by simp)
        unfold Ahd at this
        omega
      · rw [List.mem_singleton] at ha
        rw [ha]
        omega
/-- The numbers up to one. -/
def upto : Nat → List Int
  | 0 => []
  | n + 1 => upto n ++ [(n : Int)]
theorem upto_len : ∀ n : Nat, (upto n).length = n
  | 0 => rfl
  | n + 1 => by rw [upto, List.length_append, upto_len n]; rfl
theorem upto_split : ∀ d i : Nat, ∃ C, upto (i + 1 + d) = upto i ++ (i : Int) :: C ∧ C.length = d
  | 0, i => ⟨[], rfl, rfl⟩
  | d + 1, i => by
    obtain ⟨C, h1, h2⟩ := upto_split d i
    refine ⟨C ++ [((i + 1 + d : Nat) : Int)], ?_, by rw [List.length_append, h2]; rfl⟩
    rw [show i + 1 + (d + 1) = (i + 1 + d) + 1 by omega, upto, h1]
    simp
theorem iSort_l (l : List (Int × Int)) (hl : l.length ≤ 1000) (hb : ∀ d ∈ l, dOk d = true) (d : Nat) : ∀ (i : Nat) (C : List Int), i + d = l.length → (∃ D : List Int, upto l.length = D ++ C ∧ D.length = i) → Big (fun k => slices_insertionSortCmpFunc.l0 k l.length 0 (l.length : Int) l (i : Int) (ord (bf l) i ++ C)) ((), ord (bf l) l.length) := by
  induction d with
  | zero =>
    intro i C hi hC
    obtain ⟨D, hD, hDl⟩ := hC
    have hc0 : C = [] := by
      have := congrArg List.length hD
      rw [upto_len, List.length_append] at this
      exact List.length_eq_zero_iff.mp (by omega)
    subst hc0
    refine Big.succ ?_
    unfold slices_insertionSortCmpFunc.l0
    rw [List.append_nil, show i = l.length by omega]
    exact Big.neg (by omega) (Big.some_ _)
  | succ d ih =>
    intro i C hi hC
    obtain ⟨D, hD, hDl⟩ := hC
    obtain ⟨C', h1, h2⟩ := upto_split d i
    rw [show i + 1 + d = l.length by omega] at h1
    have hDC : D = upto i ∧ C = (i : Int) :: C' := List.append_inj (hD.symm.trans h1) (by rw [hDl, upto_len])
    rw [hDC.2]
    refine Big.succ ?_
    unfold slices_insertionSortCmpFunc.l0
    refine Big.pos (by omega) ?_
    have := iIns_l l hl hb i (by omega) C' (by omega) _ (ih (i + 1) C' (by omega) ⟨upto i ++ [(i : Int)], by rw [h1]; simp, by rw [List.length_append, upto_len]; rfl⟩) i (ord (bf l) i) [] (ord_len _ _) (by simp) (by simp)
    exact this
theorem sort_at (l : List (Int × Int)) (hl : l.length ≤ 19) (h1 : 1 ≤ l.length) (hb : ∀ d ∈ l, dOk d = true) : Big (fun k => slices_SortStableFunc.f k l.length (upto l.length) l) ((), ord (bf l) l.length) := by
  unfold slices_SortStableFunc.f slices_stableCmpFunc.f
  refine Big.bind (Big.succ ?_) (Big.some_ _)
  unfold slices_stableCmpFunc.l0
  refine Big.neg (by omega) (Big.bind (a := ((), ord (bf l) l.length)) ?_ (Big.succ ?_))
  · unfold slices_insertionSortCmpFunc.f
    obtain ⟨C, c1, c2⟩ := upto_split (l.length - 1) 0
    rw [show 0 + 1 + (l.length - 1) = l.length by omega] at c1
    have := iSort_l l (by omega) hb (l.length - 1) 1 C (by omega) ⟨[0], by rw [c1]; rfl, rfl⟩
    rw [c1]
    rw [show (IntKind.i64.wrap ((0 : Int) + 1)) = ((1 : Nat) : Int) from w64 (by omega) (by omega)]
    exact this
  · unfold slices_stableCmpFunc.l1
    exact Big.neg (by omega) (Big.some_ _)
theorem iOlder_l (l : List (Int × Int)) (hl : l.length ≤ 8) (h1 : 1 ≤ l.length) (hb : ∀ d ∈ l, dOk d = true) (d : Nat) : ∀ i : Nat, i + d = l.length → Big (fun k => impl_OlderOf.l0 k (upto i) (l.length : Int) (i : Int) l) (ord (bf l) l.length, true) := by
  induction d with
  | zero =>
    intro i hi
    have e : i = l.length := by omega
    subst e
    refine Big.succ ?_
    unfold impl_OlderOf.l0
    rw [upto_len]
    refine Big.neg (by omega) (Big.pos (by omega) (Big.bind (sort_at l (by omega) h1 hb) (Big.pos (by rw [ord_len]) (Big.some_ _))))
  | succ d ih =>
    intro i hi
    refine Big.succ ?_
    unfold impl_OlderOf.l0
    rw [w64n (by omega)]
    exact Big.pos (by omega) (Big.pos (by rw [upto_len]; omega) (ih (i + 1) (by omega)))
/-- People in the order of their births. -/
def olderF (l : List (Int × Int)) : List Int × Bool := if bOk l = true then (ord (bf l) l.length, true) else ([], false)
theorem OlderOf_is (l : List (Int × Int)) (hl : l.length ≤ 2000000) : Big (fun k => spec_OlderOf.f k l) (olderF l) ∧ Big (fun k => impl_OlderOf.f k l) (olderF l) := by
  unfold spec_OlderOf.f impl_OlderOf.f olderF
  have hg := good_at l hl
  have hi := births_at l hl
  cases hb : bOk l
  · rw [hb] at hg hi
    exact ⟨Big.bind hg (Big.neg (by decide) (Big.some_ _)), Big.bind hi (Big.neg (by decide) (Big.some_ _))⟩
  · rw [hb] at hg hi
    obtain ⟨h8, ha⟩ := bOk_iff.mp hb
    rw [if_pos rfl]
    exact ⟨Big.bind hg (Big.pos rfl (sOrd_l l (by omega) ha l.length 0 (by omega))), Big.bind hi (Big.pos rfl (iOlder_l l (by omega) h8.1 ha l.length 0 (by omega)))⟩
end Go.Proofs.YtobblofdkpljfaaGreatDoor.Q
namespace Go.Proofs.YtobblofdkpljfaaGreatDoor.Q
open Go.RowKit Go Go.Proofs.YtobblofdkpljfaaGreatDoor.Eng Go.Proofs.YtobblofdkpljfaaGreatDoor Go.Proofs.YtobblofdkpljfaaGreatDoor.Y
set_option linter.unusedSimpArgs false
set_option linter.unusedVariables false

theorem u64w (z : Int) : 0 ≤ IntKind.u64.wrap z ∧ IntKind.u64.wrap z < 18446744073709551616 := by
  have : IntKind.u64.wrap z = z % 18446744073709551616 := rfl
  rw [this]
  omega
theorem and255 (x : Int) (h0 : 0 ≤ x) (h1 : x < 18446744073709551616) : 0 ≤ Go.bits .and .u64 x 255 ∧ Go.bits .and .u64 x 255 ≤ 255 := by
  rw [u64_and x 255 h0 h1 (by omega) (by omega)]
  have : x.toNat &&& (255 : Int).toNat ≤ 255 := Nat.and_le_right
  omega
theorem bit255 (x : Int) : 0 ≤ bitI .and .u64 x 255 ∧ bitI .and .u64 x 255 ≤ 255 := by
  have h : bitI .and .u64 x 255 = IntKind.u64.wrap ((BitVec.ofInt 64 x &&& BitVec.ofInt 64 255).toNat : Int) := rfl
  have e : (BitVec.ofInt 64 x &&& BitVec.ofInt 64 255).toNat ≤ 255 := by
    rw [BitVec.toNat_and]
    exact Nat.le_trans Nat.and_le_right (by decide)
  rw [h]
  have := u64w (((BitVec.ofInt 64 x &&& BitVec.ofInt 64 255).toNat : Int))
  have h2 : IntKind.u64.wrap ((BitVec.ofInt 64 x &&& BitVec.ofInt 64 255).toNat : Int) = ((BitVec.ofInt 64 x &&& BitVec.ofInt 64 255).toNat : Int) % 18446744073709551616 := rfl
  rw [h2]
  omega
/-- Bytes. -/
def Byt (code : List Int) : Prop := (∀ x ∈ code, 0 ≤ x ∧ x ≤ 255) ∧ code.length ≤ 1048576
theorem next_at {code : List Int} (hc : Byt code) (a s : Int) (ha : 0 ≤ a ∧ a ≤ 2000000) : ∃ v s', spec_l1Cur_next.f code a s = some (v, code, a + 1, s') ∧ 0 ≤ v ∧ v ≤ 255 := by
  have hw : IntKind.i64.wrap (a + 1) = a + 1 := w64 (by omega) (by omega)
  unfold spec_l1Cur_next.f
  rw [hw]
  have hl := hc.2
  by_cases h : a < (code.length : Int)
  · have hm : 0 ≤ rde code a ∧ rde code a ≤ 255 := by
      obtain ⟨n, rfl⟩ : ∃ n : Nat, a = (n : Int) := ⟨a.toNat, by omega⟩
      rw [rd_nat, List.getD_eq_getElem?_getD, List.getElem?_eq_getElem (show n < code.length by omega), Option.getD_some]
      exact hc.1 _ (List.getElem_mem _)
    rw [if_pos h, if_pos ha.1, if_pos (by omega)]
    refine ⟨_, _, rfl, ?_⟩
    rw [w64 (i := rde code a) (by omega) (by omega)]
    exact hm
  · rw [if_neg h, if_neg (by omega)]
    refine ⟨_, _, rfl, ?_⟩
    have h2 := bit255 (shrI .u64 (IntKind.u64.wrap (IntKind.u64.wrap (IntKind.u64.wrap (s * 6364136223846793005) + IntKind.u64.wrap 0) + 1442695040888963407)) 40)
    rw [w64 (by omega) (by omega)]
    exact h2
theorem tmod_in (x n : Int) (h0 : 0 ≤ x) (hn : 0 < n) : 0 ≤ Int.tmod x n ∧ Int.tmod x n < n := by
  rw [Int.tmod_eq_emod_of_nonneg h0]
  exact ⟨Int.emod_nonneg _ (by omega), Int.emod_lt_of_pos _ hn⟩
theorem pick_at {code : List Int} (hc : Byt code) (a s n : Int) (ha : 0 ≤ a ∧ a ≤ 1900000) (hn : 1 ≤ n) : ∃ v a' s', spec_l1Cur_pick.f code a s n = some (v, code, a', s') ∧ (0 ≤ v ∧ v < n) ∧ a ≤ a' ∧ a' ≤ a + 2 := by
  unfold spec_l1Cur_pick.f
  by_cases h1 : n ≤ 1
  · rw [if_pos h1]
    exact ⟨0, a, s, rfl, by omega, by omega, by omega⟩
  · rw [if_neg h1]
    obtain ⟨v, s1, e1, hv⟩ := next_at hc a s (by omega)
    rw [e1, Option.bind_some]
    by_cases h2 : n > 200
    · rw [if_pos h2]
      obtain ⟨v2, s2, e2, hv2⟩ := next_at hc (a + 1) s1 (by omega)
      rw [e2, Option.bind_some, if_neg (by omega)]
      refine ⟨_, _, _, rfl, ?_, by show a ≤ a + 1 + 1; omega, by show a + 1 + 1 ≤ a + 2; omega⟩
      show 0 ≤ Int.tmod (IntKind.i64.wrap (IntKind.i64.wrap (v * 256) + v2)) n ∧ _
      rw [w64 (i := v * 256) (by omega) (by omega), w64 (by omega) (by omega)]
      exact tmod_in _ _ (by omega) (by omega)
    · rw [if_neg h2, if_neg (by omega)]
      exact ⟨_, _, _, rfl, tmod_in _ _ hv.1 (by omega), by show a ≤ a + 1; omega, by show a + 1 ≤ a + 2; omega⟩
theorem one_at {code : List Int} (hc : Byt code) (a s n : Int) (ha : 0 ≤ a ∧ a ≤ 1900000) (hn : 1 ≤ n) : ∃ v a' s', spec_l1Cur_one.f code a s n = some (v, code, a', s') ∧ a ≤ a' ∧ a' ≤ a + 2 := by
  obtain ⟨v, a', s', e, _, h1, h2⟩ := pick_at hc a s n ha hn
  unfold spec_l1Cur_one.f
  rw [e]
  exact ⟨_, _, _, rfl, h1, h2⟩
theorem among_at {code : List Int} (hc : Byt code) (a s : Int) (l : List Int) (ha : 0 ≤ a ∧ a ≤ 1900000) (hn : 1 ≤ l.length) : ∃ v a' s', spec_l1Cur_among.f code a s l = some (v, code, a', s') ∧ v ∈ l ∧ a ≤ a' ∧ a' ≤ a + 2 := by
  obtain ⟨v, a', s', e, hv, h1, h2⟩ := pick_at hc a s (l.length : Int) ha (by omega)
  unfold spec_l1Cur_among.f
  rw [e, Option.bind_some, if_pos hv.1, if_pos hv.2]
  refine ⟨_, _, _, rfl, ?_, h1, h2⟩
  obtain ⟨n, rfl⟩ : ∃ n : Nat, v = (n : Int) := ⟨v.toNat, by omega⟩
  show rde l (n : Int) ∈ l
  rw [rd_nat, List.getD_eq_getElem?_getD, List.getElem?_eq_getElem (show n < l.length by omega), Option.getD_some]
  exact List.getElem_mem _
theorem spoilt_l {code : List Int} (hc : Byt code) (wth : List UInt8) (hw : 1 ≤ wth.length) (n : Nat) : ∀ (t : List UInt8) (a s : Int), n ≤ 100 → t.length + n ≤ 1000000 → 0 ≤ a → a + 6 * (n : Int) ≤ 1800000 → ∃ t' a' s', t'.length ≤ t.length + n ∧ a ≤ a' ∧ a' ≤ a + 6 * (n : Int) ∧ Big (fun k => spec_l1Cur_spoilt.l0 k t wth (n : Int) code a s) (t', code, a', s') := by
  induction n with
  | zero =>
    intro t a s _ _ h0 _
    refine ⟨t, a, s, by omega, by omega, by omega, Big.succ ?_⟩
    unfold spec_l1Cur_spoilt.l0
    refine Big.neg (by omega) (Big.succ ?_)
    unfold spec_l1Cur_spoilt.j0
    exact Big.neg (by decide) (Big.some_ _)
  | succ n ih =>
    intro t a s hn ht h0 ha
    by_cases hz : t.length = 0
    · refine ⟨t, a, s, by omega, by omega, by omega, Big.succ ?_⟩
      unfold spec_l1Cur_spoilt.l0
      rw [decide_eq_false (show ¬ (t.length : Int) > 0 by omega)]
      refine Big.pos (by omega) (Big.succ ?_)
      unfold spec_l1Cur_spoilt.j0
      exact Big.neg (by decide) (Big.some_ _)
    · obtain ⟨i, a1, s1, e1, hi, h1, h2⟩ := pick_at hc a s (t.length : Int) (by omega) (by omega)
      obtain ⟨c, a2, s2, e2, hcc, h3, h4⟩ := pick_at hc a1 s1 (wth.length : Int) (by omega) (by omega)
      obtain ⟨m, a3, s3, e3, hm, h5, h6⟩ := pick_at hc a2 s2 3 (by omega) (by omega)
      have hw1 : IntKind.i64.wrap (i + 1) = i + 1 := w64 (by omega) (by omega)
      have hn1 : IntKind.i64.wrap (((n + 1 : Nat) : Int) - 1) = (n : Int) := by rw [w64 (by omega) (by omega)]; omega
      have lt : (t.take i.toNat).length = i.toNat := by rw [List.length_take]; omega
      have ld : (t.drop i.toNat).length = t.length - i.toNat := List.length_drop
      have ld1 : (t.drop (i + 1).toNat).length = t.length - (i + 1).toNat := List.length_drop
      have head : ∀ {r : List UInt8 × List Int × Int × Int}, Big (fun k => spec_l1Cur_spoilt.j0 k t wth ((n + 1 : Nat) : Int) true code a s) r → Big (fun k => spec_l1Cur_spoilt.l0 k t wth ((n + 1 : Nat) : Int) code a s) r := by
        intro r hr
        refine Big.succ ?_
        unfold spec_l1Cur_spoilt.l0
        refine Big.pos (by omega) ?_
        rw [decide_eq_true (show (t.length : Int) > 0 by omega)]
        exact hr
      by_cases m0 : m = 0
      · obtain ⟨t', a', s', g1, g2, g3, g4⟩ := ih ((t.take i.toNat ++ ([((rde wth c).toNat : Int)].map fun n => UInt8.ofNat n.toNat)) ++ t.drop i.toNat) a3 s3 (by omega) (by simp; omega) (by omega) (by omega)
        refine ⟨t', a', s', by simp at g1; omega, by omega, by omega, head (Big.succ ?_)⟩
        unfold spec_l1Cur_spoilt.j0
        refine Big.pos rfl (Big.bind (Big.of e1) (Big.bind (Big.of e2) (Big.pos (by simp only; omega) (Big.pos (by simp only; omega) (Big.bind (Big.of e3) (Big.pos m0 ?_))))))
        refine Big.pos (by simp only; omega) (Big.pos (by simp only; omega) (Big.pos (by simp; omega) (Big.pos (by simp; omega) ?_)))
        rw [hn1]
        exact g4
      · by_cases m1 : m = 1
        · obtain ⟨t', a', s', g1, g2, g3, g4⟩ := ih ((t.take i.toNat ++ ([((rde wth c).toNat : Int)].map fun n => UInt8.ofNat n.toNat)) ++ t.drop (i + 1).toNat) a3 s3 (by omega) (by simp; omega) (by omega) (by omega)
          refine ⟨t', a', s', by simp at g1; omega, by omega, by omega, head (Big.succ ?_)⟩
          unfold spec_l1Cur_spoilt.j0
          refine Big.pos rfl (Big.bind (Big.of e1) (Big.bind (Big.of e2) (Big.pos (by simp only; omega) (Big.pos (by simp only; omega) (Big.bind (Big.of e3) (Big.neg m0 (Big.pos m1 ?_)))))))
          simp only [hw1, hn1]
          refine Big.pos (by omega) (Big.pos (by omega) (Big.pos (by simp; omega) (Big.pos (by omega) (Big.pos (by omega) (Big.pos (by simp; omega) ?_)))))
          exact g4
        · obtain ⟨t', a', s', g1, g2, g3, g4⟩ := ih (t.take i.toNat ++ t.drop (i + 1).toNat) a3 s3 (by omega) (by simp; omega) (by omega) (by omega)
          refine ⟨t', a', s', by simp at g1; omega, by omega, by omega, head (Big.succ ?_)⟩
          unfold spec_l1Cur_spoilt.j0
          refine Big.pos rfl (Big.bind (Big.of e1) (Big.bind (Big.of e2) (Big.pos (by simp only; omega) (Big.pos (by simp only; omega) (Big.bind (Big.of e3) (Big.neg m0 (Big.neg m1 ?_)))))))
          simp only [hw1, hn1]
          refine Big.pos (by omega) (Big.pos (by omega) (Big.pos (by omega) (Big.pos (by omega) (Big.pos (by simp; omega) ?_))))
          exact g4
theorem sureDate_at {code : List Int} (hc : Byt code) (a s : Int) (ha : 0 ≤ a ∧ a ≤ 1800000) : ∃ d a' s', spec_l1Cur_sureDate.f code a s = some (d, code, a', s') ∧ dOk d = true ∧ a ≤ a' ∧ a' ≤ a + 4 := by
  obtain ⟨v, a1, s1, e1, hv, h1, h2⟩ := among_at hc a s [1990, 1991, 1992, 1995, 1999, 1960] (by omega) (by simp)
  obtain ⟨w, a2, s2, e2, hw, h3, h4⟩ := among_at hc a1 s1 [1, 50, 99, 100, 101, 200, 364, 365] (by omega) (by simp)
  refine ⟨(v, w), a2, s2, ?_, dOk_iff.mpr ?_, by omega, by omega⟩
  · unfold spec_l1Cur_sureDate.f
    rw [e1, Option.bind_some]
    show (spec_l1Cur_among.f code a1 s1 [1, 50, 99, 100, 101, 200, 364, 365]).bind _ = _
    rw [e2, Option.bind_some]
  · simp only [List.mem_cons, List.mem_nil_iff, or_false] at hv hw
    dsimp only
    omega
theorem date_at {code : List Int} (hc : Byt code) (a s : Int) (ha : 0 ≤ a ∧ a ≤ 1800000) : ∃ d a' s', spec_l1Cur_date.f code a s = some (d, code, a', s') ∧ a ≤ a' ∧ a' ≤ a + 8 := by
  obtain ⟨v, a1, s1, e1, hv, h1, h2⟩ := among_at hc a s [1999, 2000, 2001, 2010, 2000, 1990, 1992, 3000] (by omega) (by simp)
  obtain ⟨w, a2, s2, e2, hw, h3, h4⟩ := among_at hc a1 s1 [1, 49, 50, 60, 99, 100, 101, 200, 365] (by omega) (by simp)
  obtain ⟨p, a3, s3, e3, hp, h5, h6⟩ := pick_at hc a2 s2 18 (by omega) (by omega)
  obtain ⟨x, a4, s4, e4, _, h7, h8⟩ := among_at hc a3 s3 [0, (-1), 366, 4611686018427387904] (by omega) (by simp)
  obtain ⟨y, a5, s5, e5, _, h9, h10⟩ := among_at hc a3 s3 [(-1), 0, 3001, 4611686018427387904] (by omega) (by simp)
  unfold spec_l1Cur_date.f
  rw [e1, Option.bind_some]
  dsimp only
  rw [e2, Option.bind_some]
  dsimp only
  rw [e3, Option.bind_some]
  dsimp only
  rw [e4, e5]
  by_cases c0 : p = 0
  · rw [if_pos c0, Option.bind_some]
    exact ⟨_, _, _, rfl, by dsimp only; omega, by dsimp only; omega⟩
  · rw [if_neg c0]
    by_cases c1 : p = 1
    · rw [if_pos c1, Option.bind_some]
      exact ⟨_, _, _, rfl, by dsimp only; omega, by dsimp only; omega⟩
    · rw [if_neg c1]
      exact ⟨_, _, _, rfl, by omega, by omega⟩
theorem sureB_l {code : List Int} (hc : Byt code) (n : Nat) : ∀ (L : List (Int × Int)) (a s : Int), n ≤ 100 → L.length + n ≤ 200 → 0 ≤ a → a + 4 * (n : Int) ≤ 1800000 → (∀ d ∈ L, dOk d = true) → ∃ L' a' s', L'.length = L.length + n ∧ (∀ d ∈ L', dOk d = true) ∧ a ≤ a' ∧ a' ≤ a + 4 * (n : Int) ∧ Big (fun k => spec_l1Cur_sureBirths.l0 k L (n : Int) code a s) (L', code, a', s') := by
  induction n with
  | zero =>
    intro L a s _ _ h0 _ hx
    refine ⟨L, a, s, rfl, hx, by omega, by omega, Big.succ ?_⟩
    unfold spec_l1Cur_sureBirths.l0
    exact Big.neg (by omega) (Big.some_ _)
  | succ n ih =>
    intro L a s hn hL h0 ha hx
    obtain ⟨d, a1, s1, e1, hd, h1, h2⟩ := sureDate_at hc a s (by omega)
    obtain ⟨L', a', s', hl, hx', h5, h6, hB⟩ := ih (L ++ [d]) a1 s1 (by omega) (by rw [List.length_append, List.length_singleton]; omega) (by omega) (by omega) (fun x hm => by
      rcases List.mem_append.1 hm with hm | hm
      · exact hx x hm
      · rw [List.mem_singleton] at hm
        rw [hm]
        exact hd)
    rw [List.length_append, List.length_singleton] at hl
    refine ⟨L', a', s', by omega, hx', by omega, by omega, Big.succ ?_⟩
    unfold spec_l1Cur_sureBirths.l0
    refine Big.pos (by omega) (Big.bind (Big.of e1) (Big.pos (by omega) ?_))
    rw [show IntKind.i64.wrap (((n + 1 : Nat) : Int) - 1) = (n : Int) by rw [w64 (by omega) (by omega)]; omega]
    exact hB
theorem sureB_at {code : List Int} (hc : Byt code) (a s : Int) (ha : 0 ≤ a ∧ a ≤ 1500000) : ∃ L a' s', bOk L = true ∧ L.length ≤ 4 ∧ a ≤ a' ∧ a' ≤ a + 30 ∧ Big (fun k => spec_l1Cur_sureBirths.f k code a s) (L, code, a', s') := by
  obtain ⟨v, a1, s1, e1, hv, h1, h2⟩ := pick_at hc a s 4 (by omega) (by omega)
  obtain ⟨m, hm⟩ : ∃ m : Nat, (m : Int) = 1 + v := ⟨(1 + v).toNat, by omega⟩
  obtain ⟨L', a', s', hl, hx, h5, h6, hB⟩ := sureB_l hc m [] a1 s1 (by omega) (by simp; omega) (by omega) (by omega) (fun x hx => by cases hx)
  rw [List.length_nil] at hl
  refine ⟨L', a', s', bOk_iff.mpr ⟨by omega, hx⟩, by omega, by omega, by omega, ?_⟩
  unfold spec_l1Cur_sureBirths.f
  refine Big.bind (Big.of e1) ?_
  rw [w64 (i := 1 + v) (by omega) (by omega), ← hm]
  exact hB
theorem births_l {code : List Int} (hc : Byt code) (n : Nat) : ∀ (L : List (Int × Int)) (a s : Int), L.length + n = 9 → 0 ≤ a → a + 6 * (n : Int) + 2 ≤ 1800000 → ∃ L' a' s', L'.length ≤ 50 ∧ a ≤ a' ∧ a' ≤ a + 6 * (n : Int) + 2 ∧ Big (fun k => spec_l1Cur_births.l0 k L code a s) (L', code, a', s') := by
  induction n with
  | zero =>
    intro L a s hL h0 ha
    obtain ⟨v, a1, s1, e1, hv, h1, h2⟩ := pick_at hc a s 2 (by omega) (by omega)
    refine ⟨L, a1, s1, by omega, by omega, by omega, Big.succ ?_⟩
    unfold spec_l1Cur_births.l0
    refine Big.bind (Big.of e1) ?_
    rw [w64 (i := 8 + v) (by omega) (by omega)]
    exact Big.neg (by omega) (Big.some_ _)
  | succ n ih =>
    intro L a s hL h0 ha
    obtain ⟨v, a1, s1, e1, hv, h1, h2⟩ := pick_at hc a s 2 (by omega) (by omega)
    by_cases h : (L.length : Int) < 8 + v
    · obtain ⟨d, a2, s2, e2, hd, h3, h4⟩ := sureDate_at hc a1 s1 (by omega)
      obtain ⟨L', a', s', hl, h5, h6, hB⟩ := ih (L ++ [d]) a2 s2 (by rw [List.length_append, List.length_singleton]; omega) (by omega) (by omega)
      refine ⟨L', a', s', hl, by omega, by omega, Big.succ ?_⟩
      unfold spec_l1Cur_births.l0
      refine Big.bind (Big.of e1) ?_
      rw [w64 (i := 8 + v) (by omega) (by omega)]
      exact Big.pos h (Big.bind (Big.of e2) (Big.pos (by omega) hB))
    · refine ⟨L, a1, s1, by omega, by omega, by omega, Big.succ ?_⟩
      unfold spec_l1Cur_births.l0
      refine Big.bind (Big.of e1) ?_
      rw [w64 (i := 8 + v) (by omega) (by omega)]
      exact Big.neg h (Big.some_ _)
theorem birthsD_at {code : List Int} (hc : Byt code) (a s : Int) (ha : 0 ≤ a ∧ a ≤ 1000000) : ∃ L a' s', L.length ≤ 60 ∧ a ≤ a' ∧ a' ≤ a + 500 ∧ Big (fun k => spec_l1Cur_births.f k code a s) (L, code, a', s') := by
  obtain ⟨L, a1, s1, hb, hl, h1, h2, hB⟩ := sureB_at hc a s (by omega)
  have hp := (bOk_iff.mp hb).1.1
  obtain ⟨v, a2, s2, e2, hv, h3, h4⟩ := pick_at hc a1 s1 14 (by omega) (by omega)
  by_cases c0 : v = 0
  · refine ⟨[], a2, s2, by simp, by omega, by omega, ?_⟩
    unfold spec_l1Cur_births.f
    exact Big.bind hB (Big.bind (Big.of e2) (Big.pos c0 (Big.some_ _)))
  · by_cases c1 : v = 1
    · obtain ⟨x, a3, s3, e3, h5, h6⟩ := date_at hc a2 s2 (by omega)
      refine ⟨L.set 0 x, a3, s3, by rw [List.length_set]; omega, by omega, by omega, ?_⟩
      unfold spec_l1Cur_births.f
      exact Big.bind hB (Big.bind (Big.of e2) (Big.neg c0 (Big.pos c1 (Big.bind (Big.of e3) (Big.pos (by show (0 : Int) < (L.length : Int); omega) (Big.some_ _))))))
    · by_cases c2 : v = 2
      · obtain ⟨L', a3, s3, hl3, h5, h6, hB3⟩ := births_l hc (9 - L.length) L a2 s2 (by omega) (by omega) (by omega)
        refine ⟨L', a3, s3, by omega, by omega, by omega, ?_⟩
        unfold spec_l1Cur_births.f
        exact Big.bind hB (Big.bind (Big.of e2) (Big.neg c0 (Big.neg c1 (Big.pos c2 hB3))))
      · refine ⟨L, a2, s2, by omega, by omega, by omega, ?_⟩
        unfold spec_l1Cur_births.f
        exact Big.bind hB (Big.bind (Big.of e2) (Big.neg c0 (Big.neg c1 (Big.neg c2 (Big.some_ _)))))
theorem drawDA {code : List Int} (hc : Byt code) : ∃ a b y, Big (fun _ => spec_DrawDaysAlike.f code) (a, b, y) := by
  obtain ⟨a, a1, s1, e1, _, h1, h2⟩ := sureDate_at hc 0 0 (by omega)
  obtain ⟨b, a2, s2, e2, _, h3, h4⟩ := sureDate_at hc a1 s1 (by omega)
  obtain ⟨y, a3, s3, e3, _, h5, h6⟩ := among_at hc a2 s2 [2000, 2000, 1996, 1992, 0, 3000, 3001] (by omega) (by simp)
  refine ⟨a, b, y, ?_⟩
  unfold spec_DrawDaysAlike.f
  exact Big.bind (Big.of e1) (Big.bind (Big.of e2) (Big.bind (Big.of e3) (Big.some_ _)))
theorem drawFS {code : List Int} (hc : Byt code) : ∃ L s, L.length ≤ 60 ∧ Big (fun k => spec_DrawFirstSumOn.f k code) (L, s) := by
  obtain ⟨L, a1, s1, hl, h1, h2, hB⟩ := birthsD_at hc 0 0 (by omega)
  obtain ⟨y, a3, s3, e3, _, h5, h6⟩ := among_at hc a1 s1 [0, 1, 10, 25, 40, 100, 10000, 10001, (-1)] (by omega) (by simp)
  refine ⟨L, y, hl, ?_⟩
  unfold spec_DrawFirstSumOn.f
  exact Big.bind hB (Big.bind (Big.of e3) (Big.some_ _))
theorem drawTW {code : List Int} (hc : Byt code) : ∃ a b, Big (fun _ => spec_DrawTwiceAsOld.f code) (a, b) := by
  obtain ⟨a, a1, s1, e1, _, h1, h2⟩ := sureDate_at hc 0 0 (by omega)
  obtain ⟨c, a2, s2, e2, h3, h4⟩ := one_at hc a1 s1 4 (by omega) (by omega)
  unfold spec_DrawTwiceAsOld.f spec_DrawGreatestGap.f
  cases c
  · obtain ⟨b, a3, s3, e3, _, h5, h6⟩ := sureDate_at hc a2 s2 (by omega)
    exact ⟨a, b, Big.bind (Big.bind (Big.of e1) (Big.bind (Big.of e2) (Big.neg (by simp) (Big.bind (Big.of e3) (Big.some_ _))))) (Big.some_ _)⟩
  · obtain ⟨b, a3, s3, e3, h5, h6⟩ := date_at hc a2 s2 (by omega)
    exact ⟨a, b, Big.bind (Big.bind (Big.of e1) (Big.bind (Big.of e2) (Big.pos rfl (Big.bind (Big.of e3) (Big.some_ _))))) (Big.some_ _)⟩
theorem drawHB {code : List Int} (hc : Byt code) : ∃ a b, Big (fun _ => spec_DrawHalfBirthday.f code) (a, b) := by
  obtain ⟨a, a1, s1, e1, _, h1, h2⟩ := sureDate_at hc 0 0 (by omega)
  obtain ⟨b, a2, s2, e2, h3, h4⟩ := date_at hc a1 s1 (by omega)
  refine ⟨a, b, ?_⟩
  unfold spec_DrawHalfBirthday.f spec_DrawAgeOn.f
  exact Big.bind (Big.bind (Big.of e1) (Big.bind (Big.of e2) (Big.some_ _))) (Big.some_ _)
theorem drawDO {code : List Int} (hc : Byt code) : ∃ a n, Big (fun _ => spec_DrawDayOfDaysOld.f code) (a, n) := by
  obtain ⟨a, a1, s1, e1, h1, h2⟩ := date_at hc 0 0 (by omega)
  obtain ⟨n, a2, s2, e2, _, h3, h4⟩ := among_at hc a1 s1 [0, 1, 100, 10000, 1000000, 1000001, (-1)] (by omega) (by simp)
  refine ⟨a, n, ?_⟩
  unfold spec_DrawDayOfDaysOld.f
  exact Big.bind (Big.of e1) (Big.bind (Big.of e2) (Big.some_ _))
theorem drawPD {code : List Int} (hc : Byt code) : ∃ s : List UInt8, s.length ≤ 1048576 ∧ Big (fun k => spec_DrawParseBirths.f k code) s := by
  obtain ⟨L, a1, s1, hb, hl, h1, h2, hB⟩ := sureB_at hc 0 0 (by omega)
  have hT := sText_at L (by omega) (bOk_iff.mp hb).2
  have hlen := dtxt_len hb
  obtain ⟨b, a2, s2, e2, h3, h4⟩ := one_at hc a1 s1 3 (by omega) (by omega)
  unfold spec_DrawParseBirths.f
  cases b
  · exact ⟨_, by omega, Big.bind hB (Big.bind hT (Big.bind (Big.of e2) (Big.neg (by simp) (Big.some_ _))))⟩
  · obtain ⟨v, a3, s3, e3, hv, h5, h6⟩ := pick_at hc a2 s2 2 (by omega) (by omega)
    obtain ⟨m, hm⟩ : ∃ m : Nat, (m : Int) = 1 + v := ⟨(1 + v).toNat, by omega⟩
    obtain ⟨t', a', s', g1, g2, g3, g4⟩ := spoilt_l hc [48, 49, 50, 51, 46, 44, 120] (by simp) m (dtxt L) a3 s3 (by omega) (by omega) (by omega) (by omega)
    refine ⟨t', by omega, Big.bind hB (Big.bind hT (Big.bind (Big.of e2) (Big.pos rfl (Big.bind (a := (t', code, a', s')) ?_ (Big.some_ _)))))⟩
    unfold spec_l1Cur_spoilt.f
    refine Big.bind (Big.of e3) ?_
    rw [w64 (i := 1 + v) (by omega) (by omega), ← hm]
    exact g4
end Go.Proofs.YtobblofdkpljfaaGreatDoor.Q
