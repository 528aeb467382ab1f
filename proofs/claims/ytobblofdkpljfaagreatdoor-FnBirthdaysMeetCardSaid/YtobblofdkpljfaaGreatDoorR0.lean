/- What the functions of this seat come to, over plain values. No condition. -/
import Derived.Test.YtobblofdkpljfaaGreatDoorE3
import Derived.Test.YtobblofdkpljfaaGreatDoorK2
set_option linter.all false
namespace Go.Proofs.YtobblofdkpljfaaGreatDoor.Y
open Go Go.Proofs.YtobblofdkpljfaaGreatDoor.Eng Go.Proofs Go.Proofs.YtobblofdkpljfaaGreatDoor
set_option maxRecDepth 100000
set_option linter.unusedVariables false
noncomputable section
def laws_big.f (x0 : List Int) (x1 : List Int) : Option (Bool) := if (x0.length : Int) > 1048576 then (some true) else (some (decide ((x1.length : Int) > (IntKind.i64.wrap (1048576 - (x0.length : Int))))))
theorem laws_big.f.br (x0 : List Int) (x1 : List Int) : LeO (laws_big.f x0 x1) (S.laws_big.f x0 x1) := by
  refine LeO.of (S.laws_big.f.eq _ _) ?_
  unfold laws_big.f
  exact (LeO.dec (fun h0 => LeO.refl _) (fun h0 => LeO.refl _))
def spec_l1Cur_next.f (x0_0 : List Int) (x0_1 : Int) (x0_2 : Int) : Option (Int × (List Int) × Int × Int) := if x0_1 < (x0_0.length : Int) then (if 0 ≤ x0_1 then (if (IntKind.i64.wrap (x0_1 + 1)) ≤ (x0_0.length : Int) then (some ((IntKind.i64.wrap (rde x0_0 x0_1)), x0_0, (IntKind.i64.wrap (x0_1 + 1)), (IntKind.u64.wrap ((IntKind.u64.wrap ((IntKind.u64.wrap (x0_2 * 6364136223846793005)) + (IntKind.u64.wrap (IntKind.i64.wrap (rde x0_0 x0_1))))) + 1442695040888963407)))) else (some ((IntKind.i64.wrap (bitI .and .u64 (shrI .u64 (IntKind.u64.wrap ((IntKind.u64.wrap ((IntKind.u64.wrap (x0_2 * 6364136223846793005)) + (IntKind.u64.wrap (IntKind.i64.wrap (rde x0_0 x0_1))))) + 1442695040888963407)) 40) 255)), x0_0, (IntKind.i64.wrap (x0_1 + 1)), (IntKind.u64.wrap ((IntKind.u64.wrap ((IntKind.u64.wrap (x0_2 * 6364136223846793005)) + (IntKind.u64.wrap (IntKind.i64.wrap (rde x0_0 x0_1))))) + 1442695040888963407))))) else (none)) else (if (IntKind.i64.wrap (x0_1 + 1)) ≤ (x0_0.length : Int) then (some (0, x0_0, (IntKind.i64.wrap (x0_1 + 1)), (IntKind.u64.wrap ((IntKind.u64.wrap ((IntKind.u64.wrap (x0_2 * 6364136223846793005)) + (IntKind.u64.wrap 0))) + 1442695040888963407)))) else (some ((IntKind.i64.wrap (bitI .and .u64 (shrI .u64 (IntKind.u64.wrap ((IntKind.u64.wrap ((IntKind.u64.wrap (x0_2 * 6364136223846793005)) + (IntKind.u64.wrap 0))) + 1442695040888963407)) 40) 255)), x0_0, (IntKind.i64.wrap (x0_1 + 1)), (IntKind.u64.wrap ((IntKind.u64.wrap ((IntKind.u64.wrap (x0_2 * 6364136223846793005)) + (IntKind.u64.wrap 0))) + 1442695040888963407)))))
theorem spec_l1Cur_next.f.br (x0_0 : List Int) (x0_1 : Int) (x0_2 : Int) : LeO (spec_l1Cur_next.f x0_0 x0_1 x0_2) (S.spec_l1Cur_next.f x0_0 x0_1 x0_2) := by
  refine LeO.of (S.spec_l1Cur_next.f.eq _ _ _) ?_
  unfold spec_l1Cur_next.f
  exact (LeO.dec (fun h0 => (LeO.tst fun h1 => (LeO.rdI h1 h0 (LeO.dec (fun h2 => LeO.refl _) (fun h2 => LeO.refl _))))) (fun h0 => (LeO.dec (fun h1 => LeO.refl _) (fun h1 => LeO.refl _))))
def spec_l1Cur_pick.f (x0_0 : List Int) (x0_1 : Int) (x0_2 : Int) (x1 : Int) : Option (Int × (List Int) × Int × Int) := if x1 ≤ 1 then (some (0, x0_0, x0_1, x0_2)) else ((spec_l1Cur_next.f x0_0 x0_1 x0_2).bind fun y2 => (if x1 > 200 then ((spec_l1Cur_next.f y2.2.1 y2.2.2.1 y2.2.2.2).bind fun y5 => (if x1 = 0 then (none) else (some (((IntKind.i64.wrap ((IntKind.i64.wrap (y2.1 * 256)) + y5.1)).tmod x1), y5.2.1, y5.2.2.1, y5.2.2.2)))) else (if x1 = 0 then (none) else (some ((y2.1.tmod x1), y2.2.1, y2.2.2.1, y2.2.2.2)))))
theorem spec_l1Cur_pick.f.br (x0_0 : List Int) (x0_1 : Int) (x0_2 : Int) (x1 : Int) : LeO (spec_l1Cur_pick.f x0_0 x0_1 x0_2 x1) (S.spec_l1Cur_pick.f x0_0 x0_1 x0_2 x1) := by
  refine LeO.of (S.spec_l1Cur_pick.f.eq _ _ _ _) ?_
  unfold spec_l1Cur_pick.f
  exact (LeO.dec (fun h0 => LeO.refl _) (fun h0 => (LeO.bind (spec_l1Cur_next.f.br _ _ _) (fun y2 => (LeO.dec (fun h1 => (LeO.bind (spec_l1Cur_next.f.br _ _ _) (fun y5 => (LeO.ite (LeO.none _) (LeO.refl _))))) (fun h1 => (LeO.ite (LeO.none _) (LeO.refl _))))))))
def spec_l1Cur_among.f (x0_0 : List Int) (x0_1 : Int) (x0_2 : Int) (x1 : List Int) : Option (Int × (List Int) × Int × Int) := (spec_l1Cur_pick.f x0_0 x0_1 x0_2 (x1.length : Int)).bind fun y2 => (if 0 ≤ y2.1 then (if y2.1 < (x1.length : Int) then (some ((rde x1 y2.1), y2.2.1, y2.2.2.1, y2.2.2.2)) else (none)) else (none))
theorem spec_l1Cur_among.f.br (x0_0 : List Int) (x0_1 : Int) (x0_2 : Int) (x1 : List Int) : LeO (spec_l1Cur_among.f x0_0 x0_1 x0_2 x1) (S.spec_l1Cur_among.f x0_0 x0_1 x0_2 x1) := by
  refine LeO.of (S.spec_l1Cur_among.f.eq _ _ _ _) ?_
  unfold spec_l1Cur_among.f
  exact (LeO.bind (spec_l1Cur_pick.f.br _ _ _ _) (fun y2 => (LeO.tst fun h0 => (LeO.tst fun h1 => (LeO.rdI h0 h1 (LeO.refl _))))))
def spec_l1Cur_sureDate.f (x0_0 : List Int) (x0_1 : Int) (x0_2 : Int) : Option ((Int × Int) × (List Int) × Int × Int) := (spec_l1Cur_among.f x0_0 x0_1 x0_2 [1990, 1991, 1992, 1995, 1999, 1960]).bind fun y1 => ((spec_l1Cur_among.f y1.2.1 y1.2.2.1 y1.2.2.2 [1, 50, 99, 100, 101, 200, 364, 365]).bind fun y2 => (some ((y1.1, y2.1), y2.2.1, y2.2.2.1, y2.2.2.2)))
theorem spec_l1Cur_sureDate.f.br (x0_0 : List Int) (x0_1 : Int) (x0_2 : Int) : LeO (spec_l1Cur_sureDate.f x0_0 x0_1 x0_2) (S.spec_l1Cur_sureDate.f x0_0 x0_1 x0_2) := by
  refine LeO.of (S.spec_l1Cur_sureDate.f.eq _ _ _) ?_
  unfold spec_l1Cur_sureDate.f
  exact (LeO.bind (spec_l1Cur_among.f.br _ _ _ _) (fun y1 => (LeO.bind (spec_l1Cur_among.f.br _ _ _ _) (fun y2 => LeO.refl _))))
def spec_DrawDaysAlike.f (x0 : List Int) : Option ((Int × Int) × (Int × Int) × Int) := (spec_l1Cur_sureDate.f x0 0 0).bind fun y1 => ((spec_l1Cur_sureDate.f y1.2.1 y1.2.2.1 y1.2.2.2).bind fun y2 => ((spec_l1Cur_among.f y2.2.1 y2.2.2.1 y2.2.2.2 [2000, 2000, 1996, 1992, 0, 3000, 3001]).bind fun y3 => (some ((y1.1.1, y1.1.2), (y2.1.1, y2.1.2), y3.1))))
theorem spec_DrawDaysAlike.f.br (x0 : List Int) : LeO (spec_DrawDaysAlike.f x0) (S.spec_DrawDaysAlike.f x0) := by
  refine LeO.of (S.spec_DrawDaysAlike.f.eq _) ?_
  unfold spec_DrawDaysAlike.f
  exact (LeO.bind (spec_l1Cur_sureDate.f.br _ _ _) (fun y1 => (LeO.bind (spec_l1Cur_sureDate.f.br _ _ _) (fun y2 => (LeO.bind (spec_l1Cur_among.f.br _ _ _ _) (fun y3 => LeO.refl _))))))
def impl_between.f (x0 : Int) (x1 : Int) (x2 : Int) : Option (Bool) := if x0 ≥ x1 then (some (decide (x0 ≤ x2))) else (some false)
theorem impl_between.f.br (x0 : Int) (x1 : Int) (x2 : Int) : LeO (impl_between.f x0 x1 x2) (S.impl_between.f x0 x1 x2) := by
  refine LeO.of (S.impl_between.f.eq _ _ _) ?_
  unfold impl_between.f
  exact (LeO.dec (fun h0 => LeO.refl _) (fun h0 => LeO.refl _))
def impl_IsDate.f (x0 : Int × Int) : Option (Bool) := (impl_between.f x0.1 0 3000).bind fun y1 => (if y1 = true then ((impl_between.f x0.2 1 365).bind fun y2 => (some y2)) else (some false))
theorem impl_IsDate.f.br (x0 : Int × Int) : LeO (impl_IsDate.f x0) (S.impl_IsDate.f x0) := by
  refine LeO.of (S.impl_IsDate.f.eq _) ?_
  unfold impl_IsDate.f
  exact (LeO.bind (impl_between.f.br _ _ _) (fun y1 => (LeO.ite' (fun h0 => (LeO.bind (impl_between.f.br _ _ _) (fun y2 => LeO.refl _))) (fun h0 => LeO.refl _))))
def impl_Date_index.f (x0 : Int × Int) : Option (Int) := some (IntKind.i64.wrap ((IntKind.i64.wrap ((IntKind.i64.wrap (x0.1 * 365)) + x0.2)) - 1))
theorem impl_Date_index.f.br (x0 : Int × Int) : LeO (impl_Date_index.f x0) (S.impl_Date_index.f x0) := by
  refine LeO.of (S.impl_Date_index.f.eq _) ?_
  unfold impl_Date_index.f
  exact LeO.refl _
def impl_Date_age.f (x0 : Int × Int) (x1 : Int) : Option (Int) := (impl_Date_index.f (x0.1, x0.2)).bind fun y1 => (some (IntKind.i64.wrap ((IntKind.i64.wrap (x1 - y1)).tdiv 365)))
theorem impl_Date_age.f.br (x0 : Int × Int) (x1 : Int) : LeO (impl_Date_age.f x0 x1) (S.impl_Date_age.f x0 x1) := by
  refine LeO.of (S.impl_Date_age.f.eq _ _) ?_
  unfold impl_Date_age.f
  exact (LeO.bind (impl_Date_index.f.br _) (fun y1 => LeO.refl _))
mutual
def impl_DaysAlike.j0 : Nat → Int → Bool → Int → Int → Int → Int → Option (Int × Bool)
  | 0, _, _, _, _, _, _ => none
  | k + 1, x2, x35, xb3_0, xb3_1, xb4_0, xb4_1 => if x35 = true then (some (0, false)) else (impl_DaysAlike.l0 k x2 0 0 xb3_0 xb3_1 xb4_0 xb4_1)
def impl_DaysAlike.l0 : Nat → Int → Int → Int → Int → Int → Int → Int → Option (Int × Bool)
  | 0, _, _, _, _, _, _, _ => none
  | k + 1, x2, x8, x36, xb3_0, xb3_1, xb4_0, xb4_1 => if x36 < 365 then ((impl_Date_age.f (xb3_0, xb3_1) (IntKind.i64.wrap ((IntKind.i64.wrap (x2 * 365)) + x36))).bind fun y4 => ((impl_Date_age.f (xb4_0, xb4_1) (IntKind.i64.wrap ((IntKind.i64.wrap (x2 * 365)) + x36))).bind fun y5 => (if y4 = y5 then (impl_DaysAlike.l0 k x2 (IntKind.i64.wrap (x8 + 1)) (IntKind.i64.wrap (x36 + 1)) xb3_0 xb3_1 xb4_0 xb4_1) else (impl_DaysAlike.l0 k x2 x8 (IntKind.i64.wrap (x36 + 1)) xb3_0 xb3_1 xb4_0 xb4_1)))) else (some (x8, true))
end
def impl_DaysAlike.f (k : Nat) (x0 : Int × Int) (x1 : Int × Int) (x2 : Int) : Option (Int × Bool) := (impl_IsDate.f (x0.1, x0.2)).bind fun y1 => (if y1 = true then ((impl_IsDate.f (x1.1, x1.2)).bind fun y9 => (if y9 = true then ((impl_between.f x2 0 3000).bind fun y11 => (if y11 = true then (if x0.1 ≥ x2 then (impl_DaysAlike.j0 k x2 true x0.1 x0.2 x1.1 x1.2) else (impl_DaysAlike.j0 k x2 (decide (x1.1 ≥ x2)) x0.1 x0.2 x1.1 x1.2)) else (impl_DaysAlike.j0 k x2 true x0.1 x0.2 x1.1 x1.2))) else (impl_DaysAlike.j0 k x2 true x0.1 x0.2 x1.1 x1.2))) else (impl_DaysAlike.j0 k x2 true x0.1 x0.2 x1.1 x1.2))
theorem impl_DaysAlike.br_l : ∀ k, (∀ (x2 : Int) (x35 : Bool) (xb3_0 : Int) (xb3_1 : Int) (xb4_0 : Int) (xb4_1 : Int), LeO (impl_DaysAlike.j0 k x2 x35 xb3_0 xb3_1 xb4_0 xb4_1) (S.impl_DaysAlike.j0 x2 x35 xb3_0 xb3_1 xb4_0 xb4_1)) ∧ (∀ (x2 : Int) (x8 : Int) (x36 : Int) (xb3_0 : Int) (xb3_1 : Int) (xb4_0 : Int) (xb4_1 : Int), LeO (impl_DaysAlike.l0 k x2 x8 x36 xb3_0 xb3_1 xb4_0 xb4_1) (S.impl_DaysAlike.l0 x2 x8 x36 xb3_0 xb3_1 xb4_0 xb4_1))
  | 0 => ⟨fun _ _ _ _ _ _ => LeO.none _, fun _ _ _ _ _ _ _ => LeO.none _⟩
  | k + 1 => by
    have ih := impl_DaysAlike.br_l k
    obtain ⟨ih_j0, ih_l0⟩ := ih
    refine ⟨fun x2 x35 xb3_0 xb3_1 xb4_0 xb4_1 => ?_, fun x2 x8 x36 xb3_0 xb3_1 xb4_0 xb4_1 => ?_⟩
    · refine LeO.of (S.impl_DaysAlike.j0.eq _ _ _ _ _ _) ?_
      unfold impl_DaysAlike.j0
      exact (LeO.ite' (fun h0 => LeO.refl _) (fun h0 => (ih_l0 _ _ _ _ _ _ _)))
    · refine LeO.of (S.impl_DaysAlike.l0.eq _ _ _ _ _ _ _) ?_
      unfold impl_DaysAlike.l0
      exact (LeO.dec (fun h0 => (LeO.bind (impl_Date_age.f.br _ _) (fun y4 => (LeO.bind (impl_Date_age.f.br _ _) (fun y5 => (LeO.beq (fun h1 => (ih_l0 _ _ _ _ _ _ _)) (fun h1 => (ih_l0 _ _ _ _ _ _ _)))))))) (fun h0 => LeO.refl _))
theorem impl_DaysAlike.f.br (k : Nat) (x0 : Int × Int) (x1 : Int × Int) (x2 : Int) : LeO (impl_DaysAlike.f k x0 x1 x2) (S.impl_DaysAlike.f x0 x1 x2) := by
  refine LeO.of (S.impl_DaysAlike.f.eq _ _ _) ?_
  unfold impl_DaysAlike.f
  have ih_j0 := (impl_DaysAlike.br_l k).1
  exact (LeO.bind (impl_IsDate.f.br _) (fun y1 => (LeO.nob (fun h0 => (LeO.bind (impl_IsDate.f.br _) (fun y9 => (LeO.nob (fun h1 => (LeO.bind (impl_between.f.br _ _ _) (fun y11 => (LeO.nob (fun h2 => (LeO.dec (fun h3 => (ih_j0 _ _ _ _ _ _)) (fun h3 => (ih_j0 _ _ _ _ _ _)))) (fun h2 => (ih_j0 _ _ _ _ _ _)))))) (fun h1 => (ih_j0 _ _ _ _ _ _)))))) (fun h0 => (ih_j0 _ _ _ _ _ _)))))
def spec_l1In.f (x0 : Int) (x1 : Int) (x2 : Int) : Option (Bool) := if x0 ≥ x1 then (some (decide (x0 ≤ x2))) else (some false)
theorem spec_l1In.f.br (x0 : Int) (x1 : Int) (x2 : Int) : LeO (spec_l1In.f x0 x1 x2) (S.spec_l1In.f x0 x1 x2) := by
  refine LeO.of (S.spec_l1In.f.eq _ _ _) ?_
  unfold spec_l1In.f
  exact (LeO.dec (fun h0 => LeO.refl _) (fun h0 => LeO.refl _))
def spec_biDate.f (x0 : Int × Int) : Option (Bool) := (spec_l1In.f x0.1 0 3000).bind fun y1 => (if y1 = true then ((spec_l1In.f x0.2 1 365).bind fun y2 => (some y2)) else (some false))
theorem spec_biDate.f.br (x0 : Int × Int) : LeO (spec_biDate.f x0) (S.spec_biDate.f x0) := by
  refine LeO.of (S.spec_biDate.f.eq _) ?_
  unfold spec_biDate.f
  exact (LeO.bind (spec_l1In.f.br _ _ _) (fun y1 => (LeO.ite' (fun h0 => (LeO.bind (spec_l1In.f.br _ _ _) (fun y2 => LeO.refl _))) (fun h0 => LeO.refl _))))
def spec_biAge.f (x0 : Int × Int) (x1 : Int × Int) : Option (Int) := if x1.2 < x0.2 then (some (IntKind.i64.wrap ((IntKind.i64.wrap (x1.1 - x0.1)) - 1))) else (some (IntKind.i64.wrap (x1.1 - x0.1)))
theorem spec_biAge.f.br (x0 : Int × Int) (x1 : Int × Int) : LeO (spec_biAge.f x0 x1) (S.spec_biAge.f x0 x1) := by
  refine LeO.of (S.spec_biAge.f.eq _ _) ?_
  unfold spec_biAge.f
  exact (LeO.dec (fun h0 => LeO.refl _) (fun h0 => LeO.refl _))
mutual
def spec_DaysAlike.j0 : Nat → Int → Bool → Int → Int → Int → Int → Option (Int × Bool)
  | 0, _, _, _, _, _, _ => none
  | k + 1, x2, x35, xb3_0, xb3_1, xb4_0, xb4_1 => if x35 = true then (some (0, false)) else (spec_DaysAlike.l0 k x2 0 1 xb3_0 xb3_1 xb4_0 xb4_1)
def spec_DaysAlike.l0 : Nat → Int → Int → Int → Int → Int → Int → Int → Option (Int × Bool)
  | 0, _, _, _, _, _, _, _ => none
  | k + 1, x2, x8, x9, xb3_0, xb3_1, xb4_0, xb4_1 => if x9 ≤ 365 then ((spec_biAge.f (xb3_0, xb3_1) (x2, x9)).bind fun y2 => ((spec_biAge.f (xb4_0, xb4_1) (x2, x9)).bind fun y3 => (if y2 = y3 then (spec_DaysAlike.l0 k x2 (IntKind.i64.wrap (x8 + 1)) (IntKind.i64.wrap (x9 + 1)) xb3_0 xb3_1 xb4_0 xb4_1) else (spec_DaysAlike.l0 k x2 x8 (IntKind.i64.wrap (x9 + 1)) xb3_0 xb3_1 xb4_0 xb4_1)))) else (some (x8, true))
end
def spec_DaysAlike.f (k : Nat) (x0 : Int × Int) (x1 : Int × Int) (x2 : Int) : Option (Int × Bool) := (spec_biDate.f (x0.1, x0.2)).bind fun y1 => (if y1 = true then ((spec_biDate.f (x1.1, x1.2)).bind fun y7 => (if y7 = true then ((spec_l1In.f x2 0 3000).bind fun y9 => (if y9 = true then (if x0.1 ≥ x2 then (spec_DaysAlike.j0 k x2 true x0.1 x0.2 x1.1 x1.2) else (spec_DaysAlike.j0 k x2 (decide (x1.1 ≥ x2)) x0.1 x0.2 x1.1 x1.2)) else (spec_DaysAlike.j0 k x2 true x0.1 x0.2 x1.1 x1.2))) else (spec_DaysAlike.j0 k x2 true x0.1 x0.2 x1.1 x1.2))) else (spec_DaysAlike.j0 k x2 true x0.1 x0.2 x1.1 x1.2))
theorem spec_DaysAlike.br_l : ∀ k, (∀ (x2 : Int) (x35 : Bool) (xb3_0 : Int) (xb3_1 : Int) (xb4_0 : Int) (xb4_1 : Int), LeO (spec_DaysAlike.j0 k x2 x35 xb3_0 xb3_1 xb4_0 xb4_1) (S.spec_DaysAlike.j0 x2 x35 xb3_0 xb3_1 xb4_0 xb4_1)) ∧ (∀ (x2 : Int) (x8 : Int) (x9 : Int) (xb3_0 : Int) (xb3_1 : Int) (xb4_0 : Int) (xb4_1 : Int), LeO (spec_DaysAlike.l0 k x2 x8 x9 xb3_0 xb3_1 xb4_0 xb4_1) (S.spec_DaysAlike.l0 x2 x8 x9 xb3_0 xb3_1 xb4_0 xb4_1))
  | 0 => ⟨fun _ _ _ _ _ _ => LeO.none _, fun _ _ _ _ _ _ _ => LeO.none _⟩
  | k + 1 => by
    have ih := spec_DaysAlike.br_l k
    obtain ⟨ih_j0, ih_l0⟩ := ih
    refine ⟨fun x2 x35 xb3_0 xb3_1 xb4_0 xb4_1 => ?_, fun x2 x8 x9 xb3_0 xb3_1 xb4_0 xb4_1 => ?_⟩
    · refine LeO.of (S.spec_DaysAlike.j0.eq _ _ _ _ _ _) ?_
      unfold spec_DaysAlike.j0
      exact (LeO.ite' (fun h0 => LeO.refl _) (fun h0 => (ih_l0 _ _ _ _ _ _ _)))
    · refine LeO.of (S.spec_DaysAlike.l0.eq _ _ _ _ _ _ _) ?_
      unfold spec_DaysAlike.l0
      exact (LeO.dec (fun h0 => (LeO.bind (spec_biAge.f.br _ _) (fun y2 => (LeO.bind (spec_biAge.f.br _ _) (fun y3 => (LeO.beq (fun h1 => (ih_l0 _ _ _ _ _ _ _)) (fun h1 => (ih_l0 _ _ _ _ _ _ _)))))))) (fun h0 => LeO.refl _))
theorem spec_DaysAlike.f.br (k : Nat) (x0 : Int × Int) (x1 : Int × Int) (x2 : Int) : LeO (spec_DaysAlike.f k x0 x1 x2) (S.spec_DaysAlike.f x0 x1 x2) := by
  refine LeO.of (S.spec_DaysAlike.f.eq _ _ _) ?_
  unfold spec_DaysAlike.f
  have ih_j0 := (spec_DaysAlike.br_l k).1
  exact (LeO.bind (spec_biDate.f.br _) (fun y1 => (LeO.nob (fun h0 => (LeO.bind (spec_biDate.f.br _) (fun y7 => (LeO.nob (fun h1 => (LeO.bind (spec_l1In.f.br _ _ _) (fun y9 => (LeO.nob (fun h2 => (LeO.dec (fun h3 => (ih_j0 _ _ _ _ _ _)) (fun h3 => (ih_j0 _ _ _ _ _ _)))) (fun h2 => (ih_j0 _ _ _ _ _ _)))))) (fun h1 => (ih_j0 _ _ _ _ _ _)))))) (fun h0 => (ih_j0 _ _ _ _ _ _)))))
def spec_l1Cur_sureBirths.l0 : Nat → (List (Int × Int)) → Int → List Int → Int → Int → Option ((List (Int × Int)) × (List Int) × Int × Int)
  | 0, _, _, _, _, _ => none
  | k + 1, x3, x4, x0_0, x0_1, x0_2 => if x4 > 0 then ((spec_l1Cur_sureDate.f x0_0 x0_1 x0_2).bind fun y2 => (if x3.length < 8796093022208 then (spec_l1Cur_sureBirths.l0 k (x3 ++ [y2.1]) (IntKind.i64.wrap (x4 - 1)) y2.2.1 y2.2.2.1 y2.2.2.2) else (none))) else (some (x3, x0_0, x0_1, x0_2))
def spec_l1Cur_sureBirths.f (k : Nat) (x0_0 : List Int) (x0_1 : Int) (x0_2 : Int) : Option ((List (Int × Int)) × (List Int) × Int × Int) := (spec_l1Cur_pick.f x0_0 x0_1 x0_2 4).bind fun y1 => (spec_l1Cur_sureBirths.l0 k [] (IntKind.i64.wrap (1 + y1.1)) y1.2.1 y1.2.2.1 y1.2.2.2)
theorem spec_l1Cur_sureBirths.br_l : ∀ k, (∀ (x3 : List (Int × Int)) (x4 : Int) (x0_0 : List Int) (x0_1 : Int) (x0_2 : Int), LeO (spec_l1Cur_sureBirths.l0 k x3 x4 x0_0 x0_1 x0_2) (S.spec_l1Cur_sureBirths.l0 x3 x4 x0_0 x0_1 x0_2))
  | 0 => fun _ _ _ _ _ => LeO.none _
  | k + 1 => by
    have ih := spec_l1Cur_sureBirths.br_l k
    have ih_l0 := ih
    refine fun x3 x4 x0_0 x0_1 x0_2 => ?_
    · refine LeO.of (S.spec_l1Cur_sureBirths.l0.eq _ _ _ _ _) ?_
      show LeO (spec_l1Cur_sureBirths.l0 (k + 1) x3 x4 x0_0 x0_1 x0_2) _
      unfold spec_l1Cur_sureBirths.l0
      exact (LeO.dec (fun h0 => (LeO.bind (spec_l1Cur_sureDate.f.br _ _ _) (fun y2 => (LeO.tst fun h1 => (LeO.cat1 h1 (ih_l0 _ _ _ _ _)))))) (fun h0 => LeO.refl _))
theorem spec_l1Cur_sureBirths.f.br (k : Nat) (x0_0 : List Int) (x0_1 : Int) (x0_2 : Int) : LeO (spec_l1Cur_sureBirths.f k x0_0 x0_1 x0_2) (S.spec_l1Cur_sureBirths.f x0_0 x0_1 x0_2) := by
  refine LeO.of (S.spec_l1Cur_sureBirths.f.eq _ _ _) ?_
  unfold spec_l1Cur_sureBirths.f
  have ih_l0 := (spec_l1Cur_sureBirths.br_l k)
  exact (LeO.bind (spec_l1Cur_pick.f.br _ _ _ _) (fun y1 => (ih_l0 _ _ _ _ _)))
def spec_l1Cur_date.f (x0_0 : List Int) (x0_1 : Int) (x0_2 : Int) : Option ((Int × Int) × (List Int) × Int × Int) := (spec_l1Cur_among.f x0_0 x0_1 x0_2 [1999, 2000, 2001, 2010, 2000, 1990, 1992, 3000]).bind fun y1 => ((spec_l1Cur_among.f y1.2.1 y1.2.2.1 y1.2.2.2 [1, 49, 50, 60, 99, 100, 101, 200, 365]).bind fun y2 => ((spec_l1Cur_pick.f y2.2.1 y2.2.2.1 y2.2.2.2 18).bind fun y3 => (if y3.1 = 0 then ((spec_l1Cur_among.f y3.2.1 y3.2.2.1 y3.2.2.2 [0, (-1), 366, 4611686018427387904]).bind fun y5 => (some ((y1.1, y5.1), y5.2.1, y5.2.2.1, y5.2.2.2))) else (if y3.1 = 1 then ((spec_l1Cur_among.f y3.2.1 y3.2.2.1 y3.2.2.2 [(-1), 0, 3001, 4611686018427387904]).bind fun y7 => (some ((y7.1, y2.1), y7.2.1, y7.2.2.1, y7.2.2.2))) else (some ((y1.1, y2.1), y3.2.1, y3.2.2.1, y3.2.2.2))))))
theorem spec_l1Cur_date.f.br (x0_0 : List Int) (x0_1 : Int) (x0_2 : Int) : LeO (spec_l1Cur_date.f x0_0 x0_1 x0_2) (S.spec_l1Cur_date.f x0_0 x0_1 x0_2) := by
  refine LeO.of (S.spec_l1Cur_date.f.eq _ _ _) ?_
  unfold spec_l1Cur_date.f
  exact (LeO.bind (spec_l1Cur_among.f.br _ _ _ _) (fun y1 => (LeO.bind (spec_l1Cur_among.f.br _ _ _ _) (fun y2 => (LeO.bind (spec_l1Cur_pick.f.br _ _ _ _) (fun y3 => (LeO.beq (fun h0 => (LeO.bind (spec_l1Cur_among.f.br _ _ _ _) (fun y5 => LeO.refl _))) (fun h0 => (LeO.beq (fun h1 => (LeO.bind (spec_l1Cur_among.f.br _ _ _ _) (fun y7 => LeO.refl _))) (fun h1 => LeO.refl _))))))))))
def spec_l1Cur_births.l0 : Nat → (List (Int × Int)) → List Int → Int → Int → Option ((List (Int × Int)) × (List Int) × Int × Int)
  | 0, _, _, _, _ => none
  | k + 1, x3, x0_0, x0_1, x0_2 => (spec_l1Cur_pick.f x0_0 x0_1 x0_2 2).bind fun y2 => (if (x3.length : Int) < (IntKind.i64.wrap (8 + y2.1)) then ((spec_l1Cur_sureDate.f y2.2.1 y2.2.2.1 y2.2.2.2).bind fun y5 => (if x3.length < 8796093022208 then (spec_l1Cur_births.l0 k (x3 ++ [y5.1]) y5.2.1 y5.2.2.1 y5.2.2.2) else (none))) else (some (x3, y2.2.1, y2.2.2.1, y2.2.2.2)))
def spec_l1Cur_births.f (k : Nat) (x0_0 : List Int) (x0_1 : Int) (x0_2 : Int) : Option ((List (Int × Int)) × (List Int) × Int × Int) := (spec_l1Cur_sureBirths.f k x0_0 x0_1 x0_2).bind fun y1 => ((spec_l1Cur_pick.f y1.2.1 y1.2.2.1 y1.2.2.2 14).bind fun y2 => (if y2.1 = 0 then (some ([], y2.2.1, y2.2.2.1, y2.2.2.2)) else (if y2.1 = 1 then ((spec_l1Cur_date.f y2.2.1 y2.2.2.1 y2.2.2.2).bind fun y5 => (if 0 < (y1.1.length : Int) then (some (y1.1.set 0 y5.1, y5.2.1, y5.2.2.1, y5.2.2.2)) else (none))) else (if y2.1 = 2 then (spec_l1Cur_births.l0 k y1.1 y2.2.1 y2.2.2.1 y2.2.2.2) else (some (y1.1, y2.2.1, y2.2.2.1, y2.2.2.2))))))
theorem spec_l1Cur_births.br_l : ∀ k, (∀ (x3 : List (Int × Int)) (x0_0 : List Int) (x0_1 : Int) (x0_2 : Int), LeO (spec_l1Cur_births.l0 k x3 x0_0 x0_1 x0_2) (S.spec_l1Cur_births.l0 x3 x0_0 x0_1 x0_2))
  | 0 => fun _ _ _ _ => LeO.none _
  | k + 1 => by
    have ih := spec_l1Cur_births.br_l k
    have ih_l0 := ih
    refine fun x3 x0_0 x0_1 x0_2 => ?_
    · refine LeO.of (S.spec_l1Cur_births.l0.eq _ _ _ _) ?_
      show LeO (spec_l1Cur_births.l0 (k + 1) x3 x0_0 x0_1 x0_2) _
      unfold spec_l1Cur_births.l0
      exact (LeO.bind (spec_l1Cur_pick.f.br _ _ _ _) (fun y2 => (LeO.dec (fun h0 => (LeO.bind (spec_l1Cur_sureDate.f.br _ _ _) (fun y5 => (LeO.tst fun h1 => (LeO.cat1 h1 (ih_l0 _ _ _ _)))))) (fun h0 => LeO.refl _))))
theorem spec_l1Cur_births.f.br (k : Nat) (x0_0 : List Int) (x0_1 : Int) (x0_2 : Int) : LeO (spec_l1Cur_births.f k x0_0 x0_1 x0_2) (S.spec_l1Cur_births.f x0_0 x0_1 x0_2) := by
  refine LeO.of (S.spec_l1Cur_births.f.eq _ _ _) ?_
  unfold spec_l1Cur_births.f
  have ih_l0 := (spec_l1Cur_births.br_l k)
  exact (LeO.bind (spec_l1Cur_sureBirths.f.br k _ _ _) (fun y1 => (LeO.bind (spec_l1Cur_pick.f.br _ _ _ _) (fun y2 => (LeO.beq (fun h0 => LeO.refl _) (fun h0 => (LeO.beq (fun h1 => (LeO.bind (spec_l1Cur_date.f.br _ _ _) (fun y5 => (LeO.tst fun h3 => (LeO.rdI (by decide) h3 (LeO.refl _)))))) (fun h1 => (LeO.beq (fun h2 => (ih_l0 _ _ _ _)) (fun h2 => LeO.refl _))))))))))
def spec_DrawFirstSumOn.f (k : Nat) (x0 : List Int) : Option ((List (Int × Int)) × Int) := (spec_l1Cur_births.f k x0 0 0).bind fun y1 => ((spec_l1Cur_among.f y1.2.1 y1.2.2.1 y1.2.2.2 [0, 1, 10, 25, 40, 100, 10000, 10001, (-1)]).bind fun y2 => (some (y1.1, y2.1)))
theorem spec_DrawFirstSumOn.f.br (k : Nat) (x0 : List Int) : LeO (spec_DrawFirstSumOn.f k x0) (S.spec_DrawFirstSumOn.f x0) := by
  refine LeO.of (S.spec_DrawFirstSumOn.f.eq _) ?_
  unfold spec_DrawFirstSumOn.f
  exact (LeO.bind (spec_l1Cur_births.f.br k _ _ _) (fun y1 => (LeO.bind (spec_l1Cur_among.f.br _ _ _ _) (fun y2 => LeO.refl _))))
def impl_AreBirthDates_1.f (x0 : Int × Int) : Option (Bool) := (impl_IsDate.f (x0.1, x0.2)).bind fun y1 => (some (!y1))
theorem impl_AreBirthDates_1.f.br (x0 : Int × Int) : LeO (impl_AreBirthDates_1.f x0) (S.impl_AreBirthDates_1.f x0) := by
  refine LeO.of (S.impl_AreBirthDates_1.f.eq _) ?_
  unfold impl_AreBirthDates_1.f
  exact (LeO.bind (impl_IsDate.f.br _) (fun y1 => LeO.refl _))
def slices_IndexFunc.l0 : Nat → (List (Int × Int)) → Int → Int → Option (Int)
  | 0, _, _, _ => none
  | k + 1, x0, x7, x8 => if x8 < x7 then (if 0 ≤ x8 then (if x8 < (x0.length : Int) then (((impl_AreBirthDates_1.f (rde x0 x8)).bind some).bind fun y3 => (if y3 = true then (some x8) else (slices_IndexFunc.l0 k x0 x7 (IntKind.i64.wrap (x8 + 1))))) else (none)) else (none)) else (some (-1))
def slices_IndexFunc.f (k : Nat) (x0 : List (Int × Int)) : Option (Int) := slices_IndexFunc.l0 k x0 (x0.length : Int) 0
theorem slices_IndexFunc.br_l : ∀ k, (∀ (x0 : List (Int × Int)) (x7 : Int) (x8 : Int), LeO (slices_IndexFunc.l0 k x0 x7 x8) (S.slices_IndexFunc.l0 x0 x7 x8))
  | 0 => fun _ _ _ => LeO.none _
  | k + 1 => by
    have ih := slices_IndexFunc.br_l k
    have ih_l0 := ih
    refine fun x0 x7 x8 => ?_
    · refine LeO.of (S.slices_IndexFunc.l0.eq _ _ _) ?_
      show LeO (slices_IndexFunc.l0 (k + 1) x0 x7 x8) _
      unfold slices_IndexFunc.l0
      exact (LeO.dec (fun h0 => (LeO.tst fun h1 => (LeO.tst fun h2 => (LeO.rdI h1 h2 (LeO.bind (LeO.bind (impl_AreBirthDates_1.f.br _) (fun _ => LeO.refl _)) (fun y3 => (LeO.ite' (fun h3 => LeO.refl _) (fun h3 => (ih_l0 _ _ _))))))))) (fun h0 => LeO.refl _))
theorem slices_IndexFunc.f.br (k : Nat) (x0 : List (Int × Int)) : LeO (slices_IndexFunc.f k x0) (S.slices_IndexFunc.f x0) := by
  refine LeO.of (S.slices_IndexFunc.f.eq _) ?_
  unfold slices_IndexFunc.f
  have ih_l0 := (slices_IndexFunc.br_l k)
  exact (ih_l0 _ _ _)
def slices_ContainsFunc.f (k : Nat) (x0 : List (Int × Int)) : Option (Bool) := (slices_IndexFunc.f k x0).bind fun y1 => (some (decide (y1 ≥ 0)))
theorem slices_ContainsFunc.f.br (k : Nat) (x0 : List (Int × Int)) : LeO (slices_ContainsFunc.f k x0) (S.slices_ContainsFunc.f x0) := by
  refine LeO.of (S.slices_ContainsFunc.f.eq _) ?_
  unfold slices_ContainsFunc.f
  exact (LeO.bind (slices_IndexFunc.f.br k _) (fun y1 => LeO.refl _))
def impl_AreBirthDates.f (k : Nat) (x0 : List (Int × Int)) : Option (Bool) := (impl_between.f (x0.length : Int) 1 8).bind fun y2 => (if y2 = true then ((slices_ContainsFunc.f k x0).bind fun y3 => (some (!y3))) else (some false))
theorem impl_AreBirthDates.f.br (k : Nat) (x0 : List (Int × Int)) : LeO (impl_AreBirthDates.f k x0) (S.impl_AreBirthDates.f x0) := by
  refine LeO.of (S.impl_AreBirthDates.f.eq _) ?_
  unfold impl_AreBirthDates.f
  exact (LeO.bind (impl_between.f.br _ _ _) (fun y2 => (LeO.ite' (fun h0 => (LeO.bind (slices_ContainsFunc.f.br k _) (fun y3 => LeO.refl _))) (fun h0 => LeO.refl _))))
def impl_lastBirth.l0 : Nat → Int → (List (Int × Int)) → Int → Int → Option (Int)
  | 0, _, _, _, _ => none
  | k + 1, x3, x6, x7, x8 => if x8 < x7 then (if 0 ≤ x8 then (if x8 < (x6.length : Int) then ((impl_Date_index.f ((rde x6 x8).1, (rde x6 x8).2)).bind fun y3 => (impl_lastBirth.l0 k (mx2 x3 y3) x6 x7 (IntKind.i64.wrap (x8 + 1)))) else (none)) else (none)) else (some x3)
def impl_lastBirth.f (k : Nat) (x0 : List (Int × Int)) : Option (Int) := impl_lastBirth.l0 k 0 x0 (x0.length : Int) 0
theorem impl_lastBirth.br_l : ∀ k, (∀ (x3 : Int) (x6 : List (Int × Int)) (x7 : Int) (x8 : Int), LeO (impl_lastBirth.l0 k x3 x6 x7 x8) (S.impl_lastBirth.l0 x3 x6 x7 x8))
  | 0 => fun _ _ _ _ => LeO.none _
  | k + 1 => by
    have ih := impl_lastBirth.br_l k
    have ih_l0 := ih
    refine fun x3 x6 x7 x8 => ?_
    · refine LeO.of (S.impl_lastBirth.l0.eq _ _ _ _) ?_
      show LeO (impl_lastBirth.l0 (k + 1) x3 x6 x7 x8) _
      unfold impl_lastBirth.l0
      exact (LeO.dec (fun h0 => (LeO.tst fun h1 => (LeO.tst fun h2 => (LeO.rdI h1 h2 (LeO.bind (impl_Date_index.f.br _) (fun y3 => (ih_l0 _ _ _ _))))))) (fun h0 => LeO.refl _))
theorem impl_lastBirth.f.br (k : Nat) (x0 : List (Int × Int)) : LeO (impl_lastBirth.f k x0) (S.impl_lastBirth.f x0) := by
  refine LeO.of (S.impl_lastBirth.f.eq _) ?_
  unfold impl_lastBirth.f
  have ih_l0 := (impl_lastBirth.br_l k)
  exact (ih_l0 _ _ _ _)
def impl_agesOn.l0 : Nat → Int → List Int → (List (Int × Int)) → Int → Int → Option (List Int)
  | 0, _, _, _, _, _ => none
  | k + 1, x1, x5, x9, x10, x11 => if x11 < x10 then (if 0 ≤ x11 then (if x11 < (x9.length : Int) then ((impl_Date_age.f ((rde x9 x11).1, (rde x9 x11).2) x1).bind fun y3 => (if x5.length < 17592186044416 then (impl_agesOn.l0 k x1 (x5 ++ [y3]) x9 x10 (IntKind.i64.wrap (x11 + 1))) else (none))) else (none)) else (none)) else (some x5)
def impl_agesOn.f (k : Nat) (x0 : List (Int × Int)) (x1 : Int) : Option (List Int) := impl_agesOn.l0 k x1 [] x0 (x0.length : Int) 0
theorem impl_agesOn.br_l : ∀ k, (∀ (x1 : Int) (x5 : List Int) (x9 : List (Int × Int)) (x10 : Int) (x11 : Int), LeO (impl_agesOn.l0 k x1 x5 x9 x10 x11) (S.impl_agesOn.l0 x1 x5 x9 x10 x11))
  | 0 => fun _ _ _ _ _ => LeO.none _
  | k + 1 => by
    have ih := impl_agesOn.br_l k
    have ih_l0 := ih
    refine fun x1 x5 x9 x10 x11 => ?_
    · refine LeO.of (S.impl_agesOn.l0.eq _ _ _ _ _) ?_
      show LeO (impl_agesOn.l0 (k + 1) x1 x5 x9 x10 x11) _
      unfold impl_agesOn.l0
      exact (LeO.dec (fun h0 => (LeO.tst fun h1 => (LeO.tst fun h2 => (LeO.rdI h1 h2 (LeO.bind (impl_Date_age.f.br _ _) (fun y3 => (LeO.tst fun h3 => (LeO.cat1 h3 (ih_l0 _ _ _ _ _))))))))) (fun h0 => LeO.refl _))
theorem impl_agesOn.f.br (k : Nat) (x0 : List (Int × Int)) (x1 : Int) : LeO (impl_agesOn.f k x0 x1) (S.impl_agesOn.f x0 x1) := by
  refine LeO.of (S.impl_agesOn.f.eq _ _) ?_
  unfold impl_agesOn.f
  have ih_l0 := (impl_agesOn.br_l k)
  exact (ih_l0 _ _ _ _ _)
def impl_total.l0 : Nat → Int → List Int → Int → Int → Option (Int)
  | 0, _, _, _, _ => none
  | k + 1, x3, x6, x7, x8 => if x8 < x7 then (if 0 ≤ x8 then (if x8 < (x6.length : Int) then (impl_total.l0 k (IntKind.i64.wrap (x3 + (rde x6 x8))) x6 x7 (IntKind.i64.wrap (x8 + 1))) else (none)) else (none)) else (some x3)
def impl_total.f (k : Nat) (x0 : List Int) : Option (Int) := impl_total.l0 k 0 x0 (x0.length : Int) 0
theorem impl_total.br_l : ∀ k, (∀ (x3 : Int) (x6 : List Int) (x7 : Int) (x8 : Int), LeO (impl_total.l0 k x3 x6 x7 x8) (S.impl_total.l0 x3 x6 x7 x8))
  | 0 => fun _ _ _ _ => LeO.none _
  | k + 1 => by
    have ih := impl_total.br_l k
    have ih_l0 := ih
    refine fun x3 x6 x7 x8 => ?_
    · refine LeO.of (S.impl_total.l0.eq _ _ _ _) ?_
      show LeO (impl_total.l0 (k + 1) x3 x6 x7 x8) _
      unfold impl_total.l0
      exact (LeO.dec (fun h0 => (LeO.tst fun h1 => (LeO.tst fun h2 => (LeO.rdI h1 h2 (ih_l0 _ _ _ _))))) (fun h0 => LeO.refl _))
theorem impl_total.f.br (k : Nat) (x0 : List Int) : LeO (impl_total.f k x0) (S.impl_total.f x0) := by
  refine LeO.of (S.impl_total.f.eq _) ?_
  unfold impl_total.f
  have ih_l0 := (impl_total.br_l k)
  exact (ih_l0 _ _ _ _)
def impl_dateAt.f (x0 : Int) : Option ((Int × Int) × Bool) := (impl_between.f x0 0 1095364).bind fun y1 => (if y1 = true then (some (((IntKind.i64.wrap (x0.tdiv 365)), (IntKind.i64.wrap ((x0.tmod 365) + 1))), true)) else (some ((0, 0), false)))
theorem impl_dateAt.f.br (x0 : Int) : LeO (impl_dateAt.f x0) (S.impl_dateAt.f x0) := by
  refine LeO.of (S.impl_dateAt.f.eq _) ?_
  unfold impl_dateAt.f
  exact (LeO.bind (impl_between.f.br _ _ _) (fun y1 => (LeO.nob (fun h0 => LeO.refl _) (fun h0 => LeO.refl _))))
mutual
def impl_FirstSumOn.j0 : Nat → (List (Int × Int)) → Int → Bool → Int → Int → Option ((Int × Int) × Bool)
  | 0, _, _, _, _, _ => none
  | k + 1, x0, x1, x16, xb4_0, xb4_1 => if x16 = true then (some ((0, 0), false)) else ((impl_lastBirth.f k x0).bind fun y1 => (impl_FirstSumOn.l0 k x0 x1 y1 1095365 xb4_0 xb4_1))
def impl_FirstSumOn.l0 : Nat → (List (Int × Int)) → Int → Int → Int → Int → Int → Option ((Int × Int) × Bool)
  | 0, _, _, _, _, _, _ => none
  | k + 1, x0, x1, x6, x7, xb4_0, xb4_1 => if x6 < x7 then ((impl_agesOn.f k x0 (IntKind.i64.wrap ((IntKind.i64.wrap (x6 + x7)).tdiv 2))).bind fun y4 => ((impl_total.f k y4).bind fun y5 => (if y5 ≥ x1 then (impl_FirstSumOn.l0 k x0 x1 x6 (IntKind.i64.wrap ((IntKind.i64.wrap (x6 + x7)).tdiv 2)) xb4_0 xb4_1) else (impl_FirstSumOn.l0 k x0 x1 (IntKind.i64.wrap ((IntKind.i64.wrap ((IntKind.i64.wrap (x6 + x7)).tdiv 2)) + 1)) x7 xb4_0 xb4_1)))) else ((impl_dateAt.f x6).bind fun y8 => (some ((y8.1.1, y8.1.2), y8.2)))
end
def impl_FirstSumOn.f (k : Nat) (x0 : List (Int × Int)) (x1 : Int) : Option ((Int × Int) × Bool) := (impl_AreBirthDates.f k x0).bind fun y1 => (if y1 = true then ((impl_between.f x1 0 10000).bind fun y9 => (impl_FirstSumOn.j0 k x0 x1 (!y9) 0 0)) else (impl_FirstSumOn.j0 k x0 x1 true 0 0))
theorem impl_FirstSumOn.br_l : ∀ k, (∀ (x0 : List (Int × Int)) (x1 : Int) (x16 : Bool) (xb4_0 : Int) (xb4_1 : Int), LeO (impl_FirstSumOn.j0 k x0 x1 x16 xb4_0 xb4_1) (S.impl_FirstSumOn.j0 x0 x1 x16 xb4_0 xb4_1)) ∧ (∀ (x0 : List (Int × Int)) (x1 : Int) (x6 : Int) (x7 : Int) (xb4_0 : Int) (xb4_1 : Int), LeO (impl_FirstSumOn.l0 k x0 x1 x6 x7 xb4_0 xb4_1) (S.impl_FirstSumOn.l0 x0 x1 x6 x7 xb4_0 xb4_1))
  | 0 => ⟨fun _ _ _ _ _ => LeO.none _, fun _ _ _ _ _ _ => LeO.none _⟩
  | k + 1 => by
    have ih := impl_FirstSumOn.br_l k
    obtain ⟨ih_j0, ih_l0⟩ := ih
    refine ⟨fun x0 x1 x16 xb4_0 xb4_1 => ?_, fun x0 x1 x6 x7 xb4_0 xb4_1 => ?_⟩
    · refine LeO.of (S.impl_FirstSumOn.j0.eq _ _ _ _ _) ?_
      unfold impl_FirstSumOn.j0
      exact (LeO.ite' (fun h0 => LeO.refl _) (fun h0 => (LeO.bind (impl_lastBirth.f.br k _) (fun y1 => (ih_l0 _ _ _ _ _ _)))))
    · refine LeO.of (S.impl_FirstSumOn.l0.eq _ _ _ _ _ _) ?_
      unfold impl_FirstSumOn.l0
      exact (LeO.dec (fun h0 => (LeO.bind (impl_agesOn.f.br k _ _) (fun y4 => (LeO.bind (impl_total.f.br k _) (fun y5 => (LeO.dec (fun h1 => (ih_l0 _ _ _ _ _ _)) (fun h1 => (ih_l0 _ _ _ _ _ _)))))))) (fun h0 => (LeO.bind (impl_dateAt.f.br _) (fun y8 => LeO.refl _))))
theorem impl_FirstSumOn.f.br (k : Nat) (x0 : List (Int × Int)) (x1 : Int) : LeO (impl_FirstSumOn.f k x0 x1) (S.impl_FirstSumOn.f x0 x1) := by
  refine LeO.of (S.impl_FirstSumOn.f.eq _ _) ?_
  unfold impl_FirstSumOn.f
  have ih_j0 := (impl_FirstSumOn.br_l k).1
  exact (LeO.bind (impl_AreBirthDates.f.br k _) (fun y1 => (LeO.nob (fun h0 => (LeO.bind (impl_between.f.br _ _ _) (fun y9 => (ih_j0 _ _ _ _ _)))) (fun h0 => (ih_j0 _ _ _ _ _)))))
def spec_biGood.l0 : Nat → (List (Int × Int)) → Int → Int → Option (Bool)
  | 0, _, _, _ => none
  | k + 1, x9, x10, x11 => if x11 < x10 then (if 0 ≤ x11 then (if x11 < (x9.length : Int) then ((spec_biDate.f ((rde x9 x11).1, (rde x9 x11).2)).bind fun y3 => (if y3 = true then (spec_biGood.l0 k x9 x10 (IntKind.i64.wrap (x11 + 1))) else (some false))) else (none)) else (none)) else (some true)
def spec_biGood.f (k : Nat) (x0 : List (Int × Int)) : Option (Bool) := (spec_l1In.f (x0.length : Int) 1 8).bind fun y2 => (if y2 = true then (spec_biGood.l0 k x0 (x0.length : Int) 0) else (some false))
theorem spec_biGood.br_l : ∀ k, (∀ (x9 : List (Int × Int)) (x10 : Int) (x11 : Int), LeO (spec_biGood.l0 k x9 x10 x11) (S.spec_biGood.l0 x9 x10 x11))
  | 0 => fun _ _ _ => LeO.none _
  | k + 1 => by
    have ih := spec_biGood.br_l k
    have ih_l0 := ih
    refine fun x9 x10 x11 => ?_
    · refine LeO.of (S.spec_biGood.l0.eq _ _ _) ?_
      show LeO (spec_biGood.l0 (k + 1) x9 x10 x11) _
      unfold spec_biGood.l0
      exact (LeO.dec (fun h0 => (LeO.tst fun h1 => (LeO.tst fun h2 => (LeO.rdI h1 h2 (LeO.bind (spec_biDate.f.br _) (fun y3 => (LeO.nob (fun h3 => (ih_l0 _ _ _)) (fun h3 => LeO.refl _)))))))) (fun h0 => LeO.refl _))
theorem spec_biGood.f.br (k : Nat) (x0 : List (Int × Int)) : LeO (spec_biGood.f k x0) (S.spec_biGood.f x0) := by
  refine LeO.of (S.spec_biGood.f.eq _) ?_
  unfold spec_biGood.f
  have ih_l0 := (spec_biGood.br_l k)
  exact (LeO.bind (spec_l1In.f.br _ _ _) (fun y2 => (LeO.nob (fun h0 => (ih_l0 _ _ _)) (fun h0 => LeO.refl _))))
def spec_biDays.f (x0 : Int × Int) : Option (Int) := some (IntKind.i64.wrap ((IntKind.i64.wrap ((IntKind.i64.wrap (x0.1 * 365)) + x0.2)) - 1))
theorem spec_biDays.f.br (x0 : Int × Int) : LeO (spec_biDays.f x0) (S.spec_biDays.f x0) := by
  refine LeO.of (S.spec_biDays.f.eq _) ?_
  unfold spec_biDays.f
  exact LeO.refl _
def spec_biBack.f (x0 : Int) : Option ((Int × Int) × Bool) := (spec_l1In.f x0 0 1095364).bind fun y1 => (if y1 = true then (some (((IntKind.i64.wrap (x0.tdiv 365)), (IntKind.i64.wrap ((x0.tmod 365) + 1))), true)) else (some ((0, 0), false)))
theorem spec_biBack.f.br (x0 : Int) : LeO (spec_biBack.f x0) (S.spec_biBack.f x0) := by
  refine LeO.of (S.spec_biBack.f.eq _) ?_
  unfold spec_biBack.f
  exact (LeO.bind (spec_l1In.f.br _ _ _) (fun y1 => (LeO.nob (fun h0 => LeO.refl _) (fun h0 => LeO.refl _))))
def spec_biSum.l0 : Nat → Int → (List (Int × Int)) → Int → Int → Int → Int → Option (Int)
  | 0, _, _, _, _, _, _ => none
  | k + 1, x5, x8, x9, x10, xb3_0, xb3_1 => if x10 < x9 then (if 0 ≤ x10 then (if x10 < (x8.length : Int) then ((spec_biAge.f ((rde x8 x10).1, (rde x8 x10).2) (xb3_0, xb3_1)).bind fun y3 => (spec_biSum.l0 k (IntKind.i64.wrap (x5 + y3)) x8 x9 (IntKind.i64.wrap (x10 + 1)) xb3_0 xb3_1)) else (none)) else (none)) else (some x5)
def spec_biSum.f (k : Nat) (x0 : List (Int × Int)) (x1 : Int × Int) : Option (Int) := spec_biSum.l0 k 0 x0 (x0.length : Int) 0 x1.1 x1.2
theorem spec_biSum.br_l : ∀ k, (∀ (x5 : Int) (x8 : List (Int × Int)) (x9 : Int) (x10 : Int) (xb3_0 : Int) (xb3_1 : Int), LeO (spec_biSum.l0 k x5 x8 x9 x10 xb3_0 xb3_1) (S.spec_biSum.l0 x5 x8 x9 x10 xb3_0 xb3_1))
  | 0 => fun _ _ _ _ _ _ => LeO.none _
  | k + 1 => by
    have ih := spec_biSum.br_l k
    have ih_l0 := ih
    refine fun x5 x8 x9 x10 xb3_0 xb3_1 => ?_
    · refine LeO.of (S.spec_biSum.l0.eq _ _ _ _ _ _) ?_
      show LeO (spec_biSum.l0 (k + 1) x5 x8 x9 x10 xb3_0 xb3_1) _
      unfold spec_biSum.l0
      exact (LeO.dec (fun h0 => (LeO.tst fun h1 => (LeO.tst fun h2 => (LeO.rdI h1 h2 (LeO.bind (spec_biAge.f.br _ _) (fun y3 => (ih_l0 _ _ _ _ _ _))))))) (fun h0 => LeO.refl _))
theorem spec_biSum.f.br (k : Nat) (x0 : List (Int × Int)) (x1 : Int × Int) : LeO (spec_biSum.f k x0 x1) (S.spec_biSum.f x0 x1) := by
  refine LeO.of (S.spec_biSum.f.eq _ _) ?_
  unfold spec_biSum.f
  have ih_l0 := (spec_biSum.br_l k)
  exact (ih_l0 _ _ _ _ _ _)
mutual
def spec_FirstSumOn.j0 : Nat → (List (Int × Int)) → Int → Bool → Int → Int → Option ((Int × Int) × Bool)
  | 0, _, _, _, _, _ => none
  | k + 1, x0, x1, x21, xb4_0, xb4_1 => if x21 = true then (some ((0, 0), false)) else (if 0 < (x0.length : Int) then (spec_FirstSumOn.l0 k x0 x1 x0 (x0.length : Int) 0 xb4_0 xb4_1 (rde x0 0).1 (rde x0 0).2) else (none))
def spec_FirstSumOn.l0 : Nat → (List (Int × Int)) → Int → (List (Int × Int)) → Int → Int → Int → Int → Int → Int → Option ((Int × Int) × Bool)
  | 0, _, _, _, _, _, _, _, _, _ => none
  | k + 1, x0, x1, x26, x27, x28, xb4_0, xb4_1, xb6_0, xb6_1 => if x28 < x27 then (if 0 ≤ x28 then (if x28 < (x26.length : Int) then ((spec_biDays.f ((rde x26 x28).1, (rde x26 x28).2)).bind fun y3 => ((spec_biDays.f (xb6_0, xb6_1)).bind fun y4 => (if y3 > y4 then (spec_FirstSumOn.l0 k x0 x1 x26 x27 (IntKind.i64.wrap (x28 + 1)) xb4_0 xb4_1 (rde x26 x28).1 (rde x26 x28).2) else (spec_FirstSumOn.l0 k x0 x1 x26 x27 (IntKind.i64.wrap (x28 + 1)) xb4_0 xb4_1 xb6_0 xb6_1)))) else (none)) else (none)) else ((spec_biDays.f (xb6_0, xb6_1)).bind fun y8 => (spec_FirstSumOn.l1 k x0 x1 y8 1095365 xb4_0 xb4_1))
def spec_FirstSumOn.l1 : Nat → (List (Int × Int)) → Int → Int → Int → Int → Int → Option ((Int × Int) × Bool)
  | 0, _, _, _, _, _, _ => none
  | k + 1, x0, x1, x9, x10, xb4_0, xb4_1 => if x9 < x10 then ((spec_biBack.f (IntKind.i64.wrap ((IntKind.i64.wrap (x9 + x10)).tdiv 2))).bind fun y4 => ((spec_biSum.f k x0 (y4.1.1, y4.1.2)).bind fun y5 => (if y5 ≥ x1 then (spec_FirstSumOn.l1 k x0 x1 x9 (IntKind.i64.wrap ((IntKind.i64.wrap (x9 + x10)).tdiv 2)) xb4_0 xb4_1) else (spec_FirstSumOn.l1 k x0 x1 (IntKind.i64.wrap ((IntKind.i64.wrap ((IntKind.i64.wrap (x9 + x10)).tdiv 2)) + 1)) x10 xb4_0 xb4_1)))) else ((spec_biBack.f x9).bind fun y8 => (some ((y8.1.1, y8.1.2), y8.2)))
end
def spec_FirstSumOn.f (k : Nat) (x0 : List (Int × Int)) (x1 : Int) : Option ((Int × Int) × Bool) := (spec_biGood.f k x0).bind fun y1 => (if y1 = true then ((spec_l1In.f x1 0 10000).bind fun y9 => (spec_FirstSumOn.j0 k x0 x1 (!y9) 0 0)) else (spec_FirstSumOn.j0 k x0 x1 true 0 0))
theorem spec_FirstSumOn.br_l : ∀ k, (∀ (x0 : List (Int × Int)) (x1 : Int) (x21 : Bool) (xb4_0 : Int) (xb4_1 : Int), LeO (spec_FirstSumOn.j0 k x0 x1 x21 xb4_0 xb4_1) (S.spec_FirstSumOn.j0 x0 x1 x21 xb4_0 xb4_1)) ∧ (∀ (x0 : List (Int × Int)) (x1 : Int) (x26 : List (Int × Int)) (x27 : Int) (x28 : Int) (xb4_0 : Int) (xb4_1 : Int) (xb6_0 : Int) (xb6_1 : Int), LeO (spec_FirstSumOn.l0 k x0 x1 x26 x27 x28 xb4_0 xb4_1 xb6_0 xb6_1) (S.spec_FirstSumOn.l0 x0 x1 x26 x27 x28 xb4_0 xb4_1 xb6_0 xb6_1)) ∧ (∀ (x0 : List (Int × Int)) (x1 : Int) (x9 : Int) (x10 : Int) (xb4_0 : Int) (xb4_1 : Int), LeO (spec_FirstSumOn.l1 k x0 x1 x9 x10 xb4_0 xb4_1) (S.spec_FirstSumOn.l1 x0 x1 x9 x10 xb4_0 xb4_1))
  | 0 => ⟨fun _ _ _ _ _ => LeO.none _, fun _ _ _ _ _ _ _ _ _ => LeO.none _, fun _ _ _ _ _ _ => LeO.none _⟩
  | k + 1 => by
    have ih := spec_FirstSumOn.br_l k
    obtain ⟨ih_j0, ih_l0, ih_l1⟩ := ih
    refine ⟨fun x0 x1 x21 xb4_0 xb4_1 => ?_, fun x0 x1 x26 x27 x28 xb4_0 xb4_1 xb6_0 xb6_1 => ?_, fun x0 x1 x9 x10 xb4_0 xb4_1 => ?_⟩
    · refine LeO.of (S.spec_FirstSumOn.j0.eq _ _ _ _ _) ?_
      unfold spec_FirstSumOn.j0
      exact (LeO.ite' (fun h0 => LeO.refl _) (fun h0 => (LeO.tst fun h2 => (LeO.rdI (by decide) h2 (ih_l0 _ _ _ _ _ _ _ _ _)))))
    · refine LeO.of (S.spec_FirstSumOn.l0.eq _ _ _ _ _ _ _ _ _) ?_
      unfold spec_FirstSumOn.l0
      exact (LeO.dec (fun h0 => (LeO.tst fun h1 => (LeO.tst fun h2 => (LeO.rdI h1 h2 (LeO.bind (spec_biDays.f.br _) (fun y3 => (LeO.bind (spec_biDays.f.br _) (fun y4 => (LeO.dec (fun h3 => (ih_l0 _ _ _ _ _ _ _ _ _)) (fun h3 => (ih_l0 _ _ _ _ _ _ _ _ _))))))))))) (fun h0 => (LeO.bind (spec_biDays.f.br _) (fun y8 => (ih_l1 _ _ _ _ _ _)))))
    · refine LeO.of (S.spec_FirstSumOn.l1.eq _ _ _ _ _ _) ?_
      unfold spec_FirstSumOn.l1
      exact (LeO.dec (fun h0 => (LeO.bind (spec_biBack.f.br _) (fun y4 => (LeO.bind (spec_biSum.f.br k _ _) (fun y5 => (LeO.dec (fun h1 => (ih_l1 _ _ _ _ _ _)) (fun h1 => (ih_l1 _ _ _ _ _ _)))))))) (fun h0 => (LeO.bind (spec_biBack.f.br _) (fun y8 => LeO.refl _))))
theorem spec_FirstSumOn.f.br (k : Nat) (x0 : List (Int × Int)) (x1 : Int) : LeO (spec_FirstSumOn.f k x0 x1) (S.spec_FirstSumOn.f x0 x1) := by
  refine LeO.of (S.spec_FirstSumOn.f.eq _ _) ?_
  unfold spec_FirstSumOn.f
  have ih_j0 := (spec_FirstSumOn.br_l k).1
  exact (LeO.bind (spec_biGood.f.br k _) (fun y1 => (LeO.nob (fun h0 => (LeO.bind (spec_l1In.f.br _ _ _) (fun y9 => (ih_j0 _ _ _ _ _)))) (fun h0 => (ih_j0 _ _ _ _ _)))))
def impl_OlderOf_1.f (x0 : Int) (x1 : Int) (x2 : List (Int × Int)) : Option (Int) := if 0 ≤ x0 then (if x0 < (x2.length : Int) then ((impl_Date_index.f (rde x2 x0)).bind fun y2 => (if 0 ≤ x1 then (if x1 < (x2.length : Int) then ((impl_Date_index.f (rde x2 x1)).bind fun y4 => (some (IntKind.i64.wrap (y2 - y4)))) else (none)) else (none))) else (none)) else (none)
theorem impl_OlderOf_1.f.br (x0 : Int) (x1 : Int) (x2 : List (Int × Int)) : LeO (impl_OlderOf_1.f x0 x1 x2) (S.impl_OlderOf_1.f x0 x1 x2) := by
  refine LeO.of (S.impl_OlderOf_1.f.eq _ _ _) ?_
  unfold impl_OlderOf_1.f
  exact (LeO.tst fun h0 => (LeO.tst fun h1 => (LeO.rdI h0 h1 (LeO.bind (impl_Date_index.f.br _) (fun y2 => (LeO.tst fun h2 => (LeO.tst fun h3 => (LeO.rdI h2 h3 (LeO.bind (impl_Date_index.f.br _) (fun y4 => LeO.refl _))))))))))
mutual
def slices_insertionSortCmpFunc.l0 : Nat → Nat → Int → Int → (List (Int × Int)) → Int → List Int → Option (Unit × (List Int))
  | 0, _, _, _, _, _, _ => none
  | k + 1, x0l, x1, x2, x3_0, x8, x0_0 => if x8 < x2 then (slices_insertionSortCmpFunc.l1 k x0l x1 x2 x3_0 x8 x8 x0_0) else (some ((), x0_0))
def slices_insertionSortCmpFunc.l1 : Nat → Nat → Int → Int → (List (Int × Int)) → Int → Int → List Int → Option (Unit × (List Int))
  | 0, _, _, _, _, _, _, _ => none
  | k + 1, x0l, x1, x2, x3_0, x8, x9, x0_0 => if x9 > x1 then (if 0 ≤ x9 then (if x9 < (x0l : Int) then (if 0 ≤ x9 then (if x9 < (x0_0.length : Int) then (if 0 ≤ (IntKind.i64.wrap (x9 - 1)) then (if (IntKind.i64.wrap (x9 - 1)) < (x0l : Int) then (if 0 ≤ (IntKind.i64.wrap (x9 - 1)) then (if (IntKind.i64.wrap (x9 - 1)) < (x0_0.length : Int) then (((impl_OlderOf_1.f (rde x0_0 x9) (rde x0_0 (IntKind.i64.wrap (x9 - 1))) x3_0).bind some).bind fun y5 => (if y5 < 0 then (if 0 ≤ (IntKind.i64.wrap (x9 - 1)) then (if (IntKind.i64.wrap (x9 - 1)) < (x0l : Int) then (if 0 ≤ x9 then (if x9 < (x0l : Int) then (if 0 ≤ x9 then (if x9 < (x0l : Int) then (if 0 ≤ (IntKind.i64.wrap (x9 - 1)) then (if (IntKind.i64.wrap (x9 - 1)) < (x0l : Int) then (if (IntKind.i64.wrap (x9 - 1)) < ((x0_0.set x9.toNat (rde x0_0 (IntKind.i64.wrap (x9 - 1)))).length : Int) then (slices_insertionSortCmpFunc.l1 k x0l x1 x2 x3_0 x8 (IntKind.i64.wrap (x9 - 1)) ((x0_0.set x9.toNat (rde x0_0 (IntKind.i64.wrap (x9 - 1)))).set (IntKind.i64.wrap (x9 - 1)).toNat (rde x0_0 x9))) else (none)) else (none)) else (none)) else (none)) else (none)) else (none)) else (none)) else (none)) else (none)) else (slices_insertionSortCmpFunc.l0 k x0l x1 x2 x3_0 (IntKind.i64.wrap (x8 + 1)) x0_0))) else (none)) else (none)) else (none)) else (none)) else (none)) else (none)) else (none)) else (none)) else (slices_insertionSortCmpFunc.l0 k x0l x1 x2 x3_0 (IntKind.i64.wrap (x8 + 1)) x0_0)
end
def slices_insertionSortCmpFunc.f (k : Nat) (x0_l : Nat) (x0 : List Int) (x1 : Int) (x2 : Int) (x3_0 : List (Int × Int)) : Option (Unit × (List Int)) := slices_insertionSortCmpFunc.l0 k x0_l x1 x2 x3_0 (IntKind.i64.wrap (x1 + 1)) x0
theorem slices_insertionSortCmpFunc.br_l : ∀ k, (∀ (x0l : Nat) (x1 : Int) (x2 : Int) (x3_0 : List (Int × Int)) (x8 : Int) (x0_0 : List Int), LeO (slices_insertionSortCmpFunc.l0 k x0l x1 x2 x3_0 x8 x0_0) (S.slices_insertionSortCmpFunc.l0 x0l x1 x2 x3_0 x8 x0_0)) ∧ (∀ (x0l : Nat) (x1 : Int) (x2 : Int) (x3_0 : List (Int × Int)) (x8 : Int) (x9 : Int) (x0_0 : List Int), LeO (slices_insertionSortCmpFunc.l1 k x0l x1 x2 x3_0 x8 x9 x0_0) (S.slices_insertionSortCmpFunc.l1 x0l x1 x2 x3_0 x8 x9 x0_0))
  | 0 => ⟨fun _ _ _ _ _ _ => LeO.none _, fun _ _ _ _ _ _ _ => LeO.none _⟩
  | k + 1 => by
    have ih := slices_insertionSortCmpFunc.br_l k
    obtain ⟨ih_l0, ih_l1⟩ := ih
    refine ⟨fun x0l x1 x2 x3_0 x8 x0_0 => ?_, fun x0l x1 x2 x3_0 x8 x9 x0_0 => ?_⟩
    · refine LeO.of (S.slices_insertionSortCmpFunc.l0.eq _ _ _ _ _ _) ?_
      unfold slices_insertionSortCmpFunc.l0
      exact (LeO.dec (fun h0 => (ih_l1 _ _ _ _ _ _ _)) (fun h0 => LeO.refl _))
    · refine LeO.of (S.slices_insertionSortCmpFunc.l1.eq _ _ _ _ _ _ _) ?_
      unfold slices_insertionSortCmpFunc.l1
      exact (LeO.dec (fun h0 => (LeO.ite (LeO.ite (LeO.tst fun h1 => (LeO.tst fun h2 => (LeO.rdI h1 h2 (LeO.ite (LeO.ite (LeO.tst fun h3 => (LeO.tst fun h4 => (LeO.rdI h3 h4 (LeO.bind (LeO.bind (impl_OlderOf_1.f.br _ _ _) (fun _ => LeO.refl _)) (fun y5 => (LeO.dec (fun h5 => (LeO.ite (LeO.ite (LeO.rdI h3 h4 (LeO.ite (LeO.ite (LeO.rdI h1 h2 (LeO.ite (LeO.ite (LeO.rdI h1 h2 (LeO.ite (LeO.ite (LeO.tst fun h6 => (LeO.rdI h3 h6 (ih_l1 _ _ _ _ _ _ _))) (LeO.none _)) (LeO.none _))) (LeO.none _)) (LeO.none _))) (LeO.none _)) (LeO.none _))) (LeO.none _)) (LeO.none _))) (fun h5 => (ih_l0 _ _ _ _ _ _)))))))) (LeO.none _)) (LeO.none _))))) (LeO.none _)) (LeO.none _))) (fun h0 => (ih_l0 _ _ _ _ _ _)))
theorem slices_insertionSortCmpFunc.f.br (k : Nat) (x0_l : Nat) (x0 : List Int) (x1 : Int) (x2 : Int) (x3_0 : List (Int × Int)) : LeO (slices_insertionSortCmpFunc.f k x0_l x0 x1 x2 x3_0) (S.slices_insertionSortCmpFunc.f x0_l x0 x1 x2 x3_0) := by
  refine LeO.of (S.slices_insertionSortCmpFunc.f.eq _ _ _ _ _) ?_
  unfold slices_insertionSortCmpFunc.f
  have ih_l0 := (slices_insertionSortCmpFunc.br_l k).1
  exact (ih_l0 _ _ _ _ _ _)
mutual
def slices_stableCmpFunc.l0 : Nat → Nat → Int → (List (Int × Int)) → Int → Int → Int → List Int → Option (Unit × (List Int))
  | 0, _, _, _, _, _, _, _ => none
  | k + 1, x0l, x1, x2_0, x6, x7, x8, x0_0 => if x8 ≤ x1 then ((slices_insertionSortCmpFunc.f k x0l x0_0 x7 x8 x2_0).bind fun y2 => (slices_stableCmpFunc.l0 k x0l x1 x2_0 x6 x8 (IntKind.i64.wrap (x8 + x6)) y2.2)) else ((slices_insertionSortCmpFunc.f k x0l x0_0 x7 x1 x2_0).bind fun y4 => (slices_stableCmpFunc.l1 k x0l x1 x2_0 x6 y4.2))
def slices_stableCmpFunc.l1 : Nat → Nat → Int → (List (Int × Int)) → Int → List Int → Option (Unit × (List Int))
  | 0, _, _, _, _, _ => none
  | k + 1, x0l, x1, x2_0, x6, x0_0 => if x6 < x1 then (slices_stableCmpFunc.l2 k x0l x1 x2_0 x6 0 (IntKind.i64.wrap (2 * x6)) x0_0) else (some ((), x0_0))
def slices_stableCmpFunc.l2 : Nat → Nat → Int → (List (Int × Int)) → Int → Int → Int → List Int → Option (Unit × (List Int))
  | 0, _, _, _, _, _, _, _ => none
  | k + 1, x0l, x1, x2_0, x6, x7, x8, x0_0 => if x8 ≤ x1 then (none) else (if (IntKind.i64.wrap (x7 + x6)) < x1 then (none) else (slices_stableCmpFunc.l1 k x0l x1 x2_0 (IntKind.i64.wrap (x6 * 2)) x0_0))
end
def slices_stableCmpFunc.f (k : Nat) (x0_l : Nat) (x0 : List Int) (x1 : Int) (x2_0 : List (Int × Int)) : Option (Unit × (List Int)) := slices_stableCmpFunc.l0 k x0_l x1 x2_0 20 0 20 x0
theorem slices_stableCmpFunc.br_l : ∀ k, (∀ (x0l : Nat) (x1 : Int) (x2_0 : List (Int × Int)) (x6 : Int) (x7 : Int) (x8 : Int) (x0_0 : List Int), LeO (slices_stableCmpFunc.l0 k x0l x1 x2_0 x6 x7 x8 x0_0) (S.slices_stableCmpFunc.l0 x0l x1 x2_0 x6 x7 x8 x0_0)) ∧ (∀ (x0l : Nat) (x1 : Int) (x2_0 : List (Int × Int)) (x6 : Int) (x0_0 : List Int), LeO (slices_stableCmpFunc.l1 k x0l x1 x2_0 x6 x0_0) (S.slices_stableCmpFunc.l1 x0l x1 x2_0 x6 x0_0)) ∧ (∀ (x0l : Nat) (x1 : Int) (x2_0 : List (Int × Int)) (x6 : Int) (x7 : Int) (x8 : Int) (x0_0 : List Int), LeO (slices_stableCmpFunc.l2 k x0l x1 x2_0 x6 x7 x8 x0_0) (S.slices_stableCmpFunc.l2 x0l x1 x2_0 x6 x7 x8 x0_0))
  | 0 => ⟨fun _ _ _ _ _ _ _ => LeO.none _, fun _ _ _ _ _ => LeO.none _, fun _ _ _ _ _ _ _ => LeO.none _⟩
  | k + 1 => by
    have ih := slices_stableCmpFunc.br_l k
    obtain ⟨ih_l0, ih_l1, ih_l2⟩ := ih
    refine ⟨fun x0l x1 x2_0 x6 x7 x8 x0_0 => ?_, fun x0l x1 x2_0 x6 x0_0 => ?_, fun x0l x1 x2_0 x6 x7 x8 x0_0 => ?_⟩
    · refine LeO.of (S.slices_stableCmpFunc.l0.eq _ _ _ _ _ _ _) ?_
      unfold slices_stableCmpFunc.l0
      exact (LeO.dec (fun h0 => (LeO.bind (slices_insertionSortCmpFunc.f.br k _ _ _ _ _) (fun y2 => (ih_l0 _ _ _ _ _ _ _)))) (fun h0 => (LeO.bind (slices_insertionSortCmpFunc.f.br k _ _ _ _ _) (fun y4 => (ih_l1 _ _ _ _ _)))))
    · refine LeO.of (S.slices_stableCmpFunc.l1.eq _ _ _ _ _) ?_
      unfold slices_stableCmpFunc.l1
      exact (LeO.dec (fun h0 => (ih_l2 _ _ _ _ _ _ _)) (fun h0 => LeO.refl _))
    · refine LeO.of (S.slices_stableCmpFunc.l2.eq _ _ _ _ _ _ _) ?_
      unfold slices_stableCmpFunc.l2
      exact (LeO.dec (fun h0 => (LeO.none _)) (fun h0 => (LeO.dec (fun h1 => (LeO.none _)) (fun h1 => (ih_l1 _ _ _ _ _)))))
theorem slices_stableCmpFunc.f.br (k : Nat) (x0_l : Nat) (x0 : List Int) (x1 : Int) (x2_0 : List (Int × Int)) : LeO (slices_stableCmpFunc.f k x0_l x0 x1 x2_0) (S.slices_stableCmpFunc.f x0_l x0 x1 x2_0) := by
  refine LeO.of (S.slices_stableCmpFunc.f.eq _ _ _ _) ?_
  unfold slices_stableCmpFunc.f
  have ih_l0 := (slices_stableCmpFunc.br_l k).1
  exact (ih_l0 _ _ _ _ _ _ _)
def slices_SortStableFunc.f (k : Nat) (x0_l : Nat) (x0 : List Int) (x1_0 : List (Int × Int)) : Option (Unit × (List Int)) := (slices_stableCmpFunc.f k x0_l x0 (x0_l : Int) x1_0).bind fun y2 => (some y2)
theorem slices_SortStableFunc.f.br (k : Nat) (x0_l : Nat) (x0 : List Int) (x1_0 : List (Int × Int)) : LeO (slices_SortStableFunc.f k x0_l x0 x1_0) (S.slices_SortStableFunc.f x0_l x0 x1_0) := by
  refine LeO.of (S.slices_SortStableFunc.f.eq _ _ _) ?_
  unfold slices_SortStableFunc.f
  exact (LeO.bind (slices_stableCmpFunc.f.br k _ _ _ _) (fun y2 => LeO.refl _))
def impl_OlderOf.l0 : Nat → List Int → Int → Int → (List (Int × Int)) → Option ((List Int) × Bool)
  | 0, _, _, _, _ => none
  | k + 1, x4, x11, x12, xb1_0 => if x12 < x11 then (if x4.length < 17592186044416 then (impl_OlderOf.l0 k (x4 ++ [x12]) x11 (IntKind.i64.wrap (x12 + 1)) xb1_0) else (none)) else (if 0 < x4.length then ((slices_SortStableFunc.f k x4.length x4 xb1_0).bind fun y4 => (if y4.2.length = x4.length then (some (y4.2, true)) else (none))) else (none))
def impl_OlderOf.f (k : Nat) (x0 : List (Int × Int)) : Option ((List Int) × Bool) := (impl_AreBirthDates.f k x0).bind fun y1 => (if y1 = true then (impl_OlderOf.l0 k [] (x0.length : Int) 0 x0) else (some ([], false)))
theorem impl_OlderOf.br_l : ∀ k, (∀ (x4 : List Int) (x11 : Int) (x12 : Int) (xb1_0 : List (Int × Int)), LeO (impl_OlderOf.l0 k x4 x11 x12 xb1_0) (S.impl_OlderOf.l0 x4 x11 x12 xb1_0))
  | 0 => fun _ _ _ _ => LeO.none _
  | k + 1 => by
    have ih := impl_OlderOf.br_l k
    have ih_l0 := ih
    refine fun x4 x11 x12 xb1_0 => ?_
    · refine LeO.of (S.impl_OlderOf.l0.eq _ _ _ _) ?_
      show LeO (impl_OlderOf.l0 (k + 1) x4 x11 x12 xb1_0) _
      unfold impl_OlderOf.l0
      exact (LeO.dec (fun h0 => (LeO.tst fun h1 => (LeO.cat1 h1 (ih_l0 _ _ _ _)))) (fun h0 => (LeO.ite (LeO.bind (slices_SortStableFunc.f.br k _ _ _) (fun y4 => (LeO.ite (LeO.refl _) (LeO.none _)))) (LeO.none _))))
theorem impl_OlderOf.f.br (k : Nat) (x0 : List (Int × Int)) : LeO (impl_OlderOf.f k x0) (S.impl_OlderOf.f x0) := by
  refine LeO.of (S.impl_OlderOf.f.eq _) ?_
  unfold impl_OlderOf.f
  have ih_l0 := (impl_OlderOf.br_l k)
  exact (LeO.bind (impl_AreBirthDates.f.br k _) (fun y1 => (LeO.nob (fun h0 => (ih_l0 _ _ _ _)) (fun h0 => LeO.refl _))))
def spec_l1Own.f (x0 : List Int) : Option (List Int) := if x0.length < 17592186044416 then (some x0) else (none)
theorem spec_l1Own.f.br (x0 : List Int) : LeO (spec_l1Own.f x0) (S.spec_l1Own.f x0) := by
  refine LeO.of (S.spec_l1Own.f.eq _) ?_
  unfold spec_l1Own.f
  exact (LeO.tst fun h0 => (LeO.cat0 h0 (LeO.refl _)))
mutual
def spec_OlderOf.l0 : Nat → (List (Int × Int)) → List Int → (List (Int × Int)) → Int → Int → Option ((List Int) × Bool)
  | 0, _, _, _, _, _ => none
  | k + 1, x0, x4, x12, x13, x14 => if x14 < x13 then (if 0 ≤ x14 then (if x14 < (x12.length : Int) then (spec_OlderOf.l1 k x0 x4 x14 0 x12 x13 x14 (rde x12 x14).1 (rde x12 x14).2) else (none)) else (none)) else (some (x4, true))
def spec_OlderOf.l1 : Nat → (List (Int × Int)) → List Int → Int → Int → (List (Int × Int)) → Int → Int → Int → Int → Option ((List Int) × Bool)
  | 0, _, _, _, _, _, _, _, _, _ => none
  | k + 1, x0, x4, x5, x7, x12, x13, x14, xb6_0, xb6_1 => if x7 < (x4.length : Int) then (if 0 ≤ x7 then (if 0 ≤ (rde x4 x7) then (if (rde x4 x7) < (x0.length : Int) then ((spec_biDays.f (rde x0 (rde x4 x7))).bind fun y5 => ((spec_biDays.f (xb6_0, xb6_1)).bind fun y6 => (if y5 ≤ y6 then (spec_OlderOf.l1 k x0 x4 x5 (IntKind.i64.wrap (x7 + 1)) x12 x13 x14 xb6_0 xb6_1) else (if x7 ≤ (x4.length : Int) then ((spec_l1Own.f (x4.take x7.toNat)).bind fun y11 => (if y11.length < 17592186044416 then (if (y11 ++ [x5]).length + (x4.drop x7.toNat).length < 17592186044416 then (spec_OlderOf.l0 k x0 ((y11 ++ [x5]) ++ (x4.drop x7.toNat)) x12 x13 (IntKind.i64.wrap (x14 + 1))) else (none)) else (none))) else (none))))) else (none)) else (none)) else (none)) else (if 0 ≤ x7 then (if x7 ≤ (x4.length : Int) then ((spec_l1Own.f (x4.take x7.toNat)).bind fun y17 => (if y17.length < 17592186044416 then (if (y17 ++ [x5]).length + (x4.drop x7.toNat).length < 17592186044416 then (spec_OlderOf.l0 k x0 ((y17 ++ [x5]) ++ (x4.drop x7.toNat)) x12 x13 (IntKind.i64.wrap (x14 + 1))) else (none)) else (none))) else (none)) else (none))
end
def spec_OlderOf.f (k : Nat) (x0 : List (Int × Int)) : Option ((List Int) × Bool) := (spec_biGood.f k x0).bind fun y1 => (if y1 = true then (spec_OlderOf.l0 k x0 [] x0 (x0.length : Int) 0) else (some ([], false)))
theorem spec_OlderOf.br_l : ∀ k, (∀ (x0 : List (Int × Int)) (x4 : List Int) (x12 : List (Int × Int)) (x13 : Int) (x14 : Int), LeO (spec_OlderOf.l0 k x0 x4 x12 x13 x14) (S.spec_OlderOf.l0 x0 x4 x12 x13 x14)) ∧ (∀ (x0 : List (Int × Int)) (x4 : List Int) (x5 : Int) (x7 : Int) (x12 : List (Int × Int)) (x13 : Int) (x14 : Int) (xb6_0 : Int) (xb6_1 : Int), LeO (spec_OlderOf.l1 k x0 x4 x5 x7 x12 x13 x14 xb6_0 xb6_1) (S.spec_OlderOf.l1 x0 x4 x5 x7 x12 x13 x14 xb6_0 xb6_1))
  | 0 => ⟨fun _ _ _ _ _ => LeO.none _, fun _ _ _ _ _ _ _ _ _ => LeO.none _⟩
  | k + 1 => by
    have ih := spec_OlderOf.br_l k
    obtain ⟨ih_l0, ih_l1⟩ := ih
    refine ⟨fun x0 x4 x12 x13 x14 => ?_, fun x0 x4 x5 x7 x12 x13 x14 xb6_0 xb6_1 => ?_⟩
    · refine LeO.of (S.spec_OlderOf.l0.eq _ _ _ _ _) ?_
      unfold spec_OlderOf.l0
      exact (LeO.dec (fun h0 => (LeO.tst fun h1 => (LeO.tst fun h2 => (LeO.rdI h1 h2 (ih_l1 _ _ _ _ _ _ _ _ _))))) (fun h0 => LeO.refl _))
    · refine LeO.of (S.spec_OlderOf.l1.eq _ _ _ _ _ _ _ _ _) ?_
      unfold spec_OlderOf.l1
      exact (LeO.dec (fun h0 => (LeO.tst fun h1 => (LeO.rdI h1 h0 (LeO.tst fun h2 => (LeO.tst fun h3 => (LeO.rdI h2 h3 (LeO.bind (spec_biDays.f.br _) (fun y5 => (LeO.bind (spec_biDays.f.br _) (fun y6 => (LeO.dec (fun h4 => (ih_l1 _ _ _ _ _ _ _ _ _)) (fun h4 => (LeO.tst fun h6 => (LeO.sub0 h1 h6 (LeO.bind (spec_l1Own.f.br _) (fun y11 => (LeO.tst fun h7 => (LeO.cat1 h7 (LeO.subE h1 h6 (LeO.tst fun h8 => (LeO.cat h8 (ih_l0 _ _ _ _ _)))))))))))))))))))))) (fun h0 => (LeO.tst fun h2 => (LeO.tst fun h3 => (LeO.sub0 h2 h3 (LeO.bind (spec_l1Own.f.br _) (fun y17 => (LeO.tst fun h4 => (LeO.cat1 h4 (LeO.subE h2 h3 (LeO.tst fun h5 => (LeO.cat h5 (ih_l0 _ _ _ _ _)))))))))))))
theorem spec_OlderOf.f.br (k : Nat) (x0 : List (Int × Int)) : LeO (spec_OlderOf.f k x0) (S.spec_OlderOf.f x0) := by
  refine LeO.of (S.spec_OlderOf.f.eq _) ?_
  unfold spec_OlderOf.f
  have ih_l0 := (spec_OlderOf.br_l k).1
  exact (LeO.bind (spec_biGood.f.br k _) (fun y1 => (LeO.nob (fun h0 => (ih_l0 _ _ _ _ _)) (fun h0 => LeO.refl _))))
mutual
def impl_BirthdaysOf.l0 : Nat → (List (Int × Int)) → List (List Int) → Int → Option ((List (List Int)) × Bool)
  | 0, _, _, _ => none
  | k + 1, x0, x4, x5 => if x5 ≤ 365 then (impl_BirthdaysOf.l1 k x0 x4 x5 [x5] x0 (x0.length : Int) 0) else (some (x4, true))
def impl_BirthdaysOf.l1 : Nat → (List (Int × Int)) → List (List Int) → Int → List Int → (List (Int × Int)) → Int → Int → Option ((List (List Int)) × Bool)
  | 0, _, _, _, _, _, _, _ => none
  | k + 1, x0, x4, x5, x6, x19, x20, x21 => if x21 < x20 then (if 0 ≤ x21 then (if x21 < (x19.length : Int) then (if (rde x19 x21).2 = x5 then (if x6.length < 17592186044416 then (impl_BirthdaysOf.l1 k x0 x4 x5 (x6 ++ [x21]) x19 x20 (IntKind.i64.wrap (x21 + 1))) else (none)) else (impl_BirthdaysOf.l1 k x0 x4 x5 x6 x19 x20 (IntKind.i64.wrap (x21 + 1)))) else (none)) else (none)) else (if (x6.length : Int) > 1 then (if x4.length < 5864062014805 then (impl_BirthdaysOf.l0 k x0 (x4 ++ [x6]) (IntKind.i64.wrap (x5 + 1))) else (none)) else (impl_BirthdaysOf.l0 k x0 x4 (IntKind.i64.wrap (x5 + 1))))
end
def impl_BirthdaysOf.f (k : Nat) (x0 : List (Int × Int)) : Option ((List (List Int)) × Bool) := (impl_AreBirthDates.f k x0).bind fun y1 => (if y1 = true then (impl_BirthdaysOf.l0 k x0 [] 1) else (some ([], false)))
theorem impl_BirthdaysOf.br_l : ∀ k, (∀ (x0 : List (Int × Int)) (x4 : List (List Int)) (x5 : Int), LeO (impl_BirthdaysOf.l0 k x0 x4 x5) (S.impl_BirthdaysOf.l0 x0 x4 x5)) ∧ (∀ (x0 : List (Int × Int)) (x4 : List (List Int)) (x5 : Int) (x6 : List Int) (x19 : List (Int × Int)) (x20 : Int) (x21 : Int), LeO (impl_BirthdaysOf.l1 k x0 x4 x5 x6 x19 x20 x21) (S.impl_BirthdaysOf.l1 x0 x4 x5 x6 x19 x20 x21))
  | 0 => ⟨fun _ _ _ => LeO.none _, fun _ _ _ _ _ _ _ => LeO.none _⟩
  | k + 1 => by
    have ih := impl_BirthdaysOf.br_l k
    obtain ⟨ih_l0, ih_l1⟩ := ih
    refine ⟨fun x0 x4 x5 => ?_, fun x0 x4 x5 x6 x19 x20 x21 => ?_⟩
    · refine LeO.of (S.impl_BirthdaysOf.l0.eq _ _ _) ?_
      unfold impl_BirthdaysOf.l0
      exact (LeO.dec (fun h0 => (ih_l1 _ _ _ _ _ _ _)) (fun h0 => LeO.refl _))
    · refine LeO.of (S.impl_BirthdaysOf.l1.eq _ _ _ _ _ _ _) ?_
      unfold impl_BirthdaysOf.l1
      exact (LeO.dec (fun h0 => (LeO.tst fun h1 => (LeO.tst fun h2 => (LeO.rdI h1 h2 (LeO.beq (fun h3 => (LeO.tst fun h4 => (LeO.cat1 h4 (ih_l1 _ _ _ _ _ _ _)))) (fun h3 => (ih_l1 _ _ _ _ _ _ _))))))) (fun h0 => (LeO.dec (fun h1 => (LeO.tst fun h2 => (LeO.cat1 h2 (ih_l0 _ _ _)))) (fun h1 => (ih_l0 _ _ _)))))
theorem impl_BirthdaysOf.f.br (k : Nat) (x0 : List (Int × Int)) : LeO (impl_BirthdaysOf.f k x0) (S.impl_BirthdaysOf.f x0) := by
  refine LeO.of (S.impl_BirthdaysOf.f.eq _) ?_
  unfold impl_BirthdaysOf.f
  have ih_l0 := (impl_BirthdaysOf.br_l k).1
  exact (LeO.bind (impl_AreBirthDates.f.br k _) (fun y1 => (LeO.nob (fun h0 => (ih_l0 _ _ _)) (fun h0 => LeO.refl _))))
mutual
def spec_BirthdaysOf.l0 : Nat → (List (Int × Int)) → List (List Int) → Int → Option ((List (List Int)) × Bool)
  | 0, _, _, _ => none
  | k + 1, x0, x4, x5 => if x5 ≤ 365 then (spec_BirthdaysOf.l1 k x0 x4 x5 [x5] x0 (x0.length : Int) 0) else (some (x4, true))
def spec_BirthdaysOf.l1 : Nat → (List (Int × Int)) → List (List Int) → Int → List Int → (List (Int × Int)) → Int → Int → Option ((List (List Int)) × Bool)
  | 0, _, _, _, _, _, _, _ => none
  | k + 1, x0, x4, x5, x6, x18, x19, x20 => if x20 < x19 then (if 0 ≤ x20 then (if x20 < (x18.length : Int) then (if (rde x18 x20).2 = x5 then (if x6.length < 17592186044416 then (spec_BirthdaysOf.l1 k x0 x4 x5 (x6 ++ [x20]) x18 x19 (IntKind.i64.wrap (x20 + 1))) else (none)) else (spec_BirthdaysOf.l1 k x0 x4 x5 x6 x18 x19 (IntKind.i64.wrap (x20 + 1)))) else (none)) else (none)) else (if (x6.length : Int) > 1 then (if x4.length < 5864062014805 then (spec_BirthdaysOf.l0 k x0 (x4 ++ [x6]) (IntKind.i64.wrap (x5 + 1))) else (none)) else (spec_BirthdaysOf.l0 k x0 x4 (IntKind.i64.wrap (x5 + 1))))
end
def spec_BirthdaysOf.f (k : Nat) (x0 : List (Int × Int)) : Option ((List (List Int)) × Bool) := (spec_biGood.f k x0).bind fun y1 => (if y1 = true then (spec_BirthdaysOf.l0 k x0 [] 1) else (some ([], false)))
theorem spec_BirthdaysOf.br_l : ∀ k, (∀ (x0 : List (Int × Int)) (x4 : List (List Int)) (x5 : Int), LeO (spec_BirthdaysOf.l0 k x0 x4 x5) (S.spec_BirthdaysOf.l0 x0 x4 x5)) ∧ (∀ (x0 : List (Int × Int)) (x4 : List (List Int)) (x5 : Int) (x6 : List Int) (x18 : List (Int × Int)) (x19 : Int) (x20 : Int), LeO (spec_BirthdaysOf.l1 k x0 x4 x5 x6 x18 x19 x20) (S.spec_BirthdaysOf.l1 x0 x4 x5 x6 x18 x19 x20))
  | 0 => ⟨fun _ _ _ => LeO.none _, fun _ _ _ _ _ _ _ => LeO.none _⟩
  | k + 1 => by
    have ih := spec_BirthdaysOf.br_l k
    obtain ⟨ih_l0, ih_l1⟩ := ih
    refine ⟨fun x0 x4 x5 => ?_, fun x0 x4 x5 x6 x18 x19 x20 => ?_⟩
    · refine LeO.of (S.spec_BirthdaysOf.l0.eq _ _ _) ?_
      unfold spec_BirthdaysOf.l0
      exact (LeO.dec (fun h0 => (ih_l1 _ _ _ _ _ _ _)) (fun h0 => LeO.refl _))
    · refine LeO.of (S.spec_BirthdaysOf.l1.eq _ _ _ _ _ _ _) ?_
      unfold spec_BirthdaysOf.l1
      exact (LeO.dec (fun h0 => (LeO.tst fun h1 => (LeO.tst fun h2 => (LeO.rdI h1 h2 (LeO.beq (fun h3 => (LeO.tst fun h4 => (LeO.cat1 h4 (ih_l1 _ _ _ _ _ _ _)))) (fun h3 => (ih_l1 _ _ _ _ _ _ _))))))) (fun h0 => (LeO.dec (fun h1 => (LeO.tst fun h2 => (LeO.cat1 h2 (ih_l0 _ _ _)))) (fun h1 => (ih_l0 _ _ _)))))
theorem spec_BirthdaysOf.f.br (k : Nat) (x0 : List (Int × Int)) : LeO (spec_BirthdaysOf.f k x0) (S.spec_BirthdaysOf.f x0) := by
  refine LeO.of (S.spec_BirthdaysOf.f.eq _) ?_
  unfold spec_BirthdaysOf.f
  have ih_l0 := (spec_BirthdaysOf.br_l k).1
  exact (LeO.bind (spec_biGood.f.br k _) (fun y1 => (LeO.nob (fun h0 => (ih_l0 _ _ _)) (fun h0 => LeO.refl _))))
def impl_Date_text.f (x0 : Int × Int) : Option (List UInt8) := (S.strconv_Itoa.f x0.1).bind fun y1 => (if y1.length + 1 ≤ 9223372036854775807 then ((S.strconv_Itoa.f x0.2).bind fun y3 => (if (y1 ++ [46]).length + y3.length ≤ 9223372036854775807 then (some ((y1 ++ [46]) ++ y3)) else (none))) else (none))
theorem impl_Date_text.f.br (x0 : Int × Int) : LeO (impl_Date_text.f x0) (S.impl_Date_text.f x0) := by
  refine LeO.of (S.impl_Date_text.f.eq _) ?_
  unfold impl_Date_text.f
  exact (LeO.bind (LeO.refl _) (fun y1 => (LeO.tst fun h0 => (LeO.catS h0 (LeO.bind (LeO.refl _) (fun y3 => (LeO.tst fun h1 => (LeO.catS h1 (LeO.refl _)))))))))
def impl_BirthsText.l0 : Nat → List (List UInt8) → (List (Int × Int)) → Int → Int → Option ((List UInt8) × Bool)
  | 0, _, _, _, _ => none
  | k + 1, x4, x11, x12, x13 => if x13 < x12 then (if 0 ≤ x13 then (if x13 < (x11.length : Int) then ((impl_Date_text.f ((rde x11 x13).1, (rde x11 x13).2)).bind fun y3 => (if x4.length < 8796093022208 then (impl_BirthsText.l0 k (x4 ++ [y3]) x11 x12 (IntKind.i64.wrap (x13 + 1))) else (none))) else (none)) else (none)) else ((S.strings_Join.f x4 [44]).bind fun y6 => (some (y6, true)))
def impl_BirthsText.f (k : Nat) (x0 : List (Int × Int)) : Option ((List UInt8) × Bool) := (impl_AreBirthDates.f k x0).bind fun y1 => (if y1 = true then (impl_BirthsText.l0 k [] x0 (x0.length : Int) 0) else (some ([], false)))
theorem impl_BirthsText.br_l : ∀ k, (∀ (x4 : List (List UInt8)) (x11 : List (Int × Int)) (x12 : Int) (x13 : Int), LeO (impl_BirthsText.l0 k x4 x11 x12 x13) (S.impl_BirthsText.l0 x4 x11 x12 x13))
  | 0 => fun _ _ _ _ => LeO.none _
  | k + 1 => by
    have ih := impl_BirthsText.br_l k
    have ih_l0 := ih
    refine fun x4 x11 x12 x13 => ?_
    · refine LeO.of (S.impl_BirthsText.l0.eq _ _ _ _) ?_
      show LeO (impl_BirthsText.l0 (k + 1) x4 x11 x12 x13) _
      unfold impl_BirthsText.l0
      exact (LeO.dec (fun h0 => (LeO.tst fun h1 => (LeO.tst fun h2 => (LeO.rdI h1 h2 (LeO.bind (impl_Date_text.f.br _) (fun y3 => (LeO.tst fun h3 => (LeO.cat1 h3 (ih_l0 _ _ _ _))))))))) (fun h0 => (LeO.bind (LeO.refl _) (fun y6 => LeO.refl _))))
theorem impl_BirthsText.f.br (k : Nat) (x0 : List (Int × Int)) : LeO (impl_BirthsText.f k x0) (S.impl_BirthsText.f x0) := by
  refine LeO.of (S.impl_BirthsText.f.eq _) ?_
  unfold impl_BirthsText.f
  have ih_l0 := (impl_BirthsText.br_l k)
  exact (LeO.bind (impl_AreBirthDates.f.br k _) (fun y1 => (LeO.nob (fun h0 => (ih_l0 _ _ _ _)) (fun h0 => LeO.refl _))))
theorem u8_dig (n : Nat) (h : n < 10) : ([(IntKind.u8.wrap (IntKind.i64.wrap (48 + (n : Int))))].map fun n => UInt8.ofNat n.toNat) = [UInt8.ofNat (48 + n)] := by
  have e1 : IntKind.i64.wrap (48 + (n : Int)) = 48 + (n : Int) := by rw [Go.IntWalk.i64_left]; unfold Go.RowKit.wrap64; omega
  have e2 : IntKind.u8.wrap (48 + (n : Int)) = ((48 + n : Nat) : Int) := by
    have : IntKind.u8.wrap (48 + (n : Int)) = (48 + (n : Int)) % 256 := rfl
    rw [this]; omega
  rw [e1, e2]
  rfl
theorem l1Num_r (d : Nat) : ∀ n : Nat, n < 10 ^ d → n ≤ 9999 → 1 ≤ d → (∀ k, d ≤ k → S.spec_l1Num.r k (n : Int) = some (Go.Lib.decDigits n)) ∧ (Go.Lib.decDigits n).length ≤ d := by
  induction d with
  | zero => intro n _ _ h; omega
  | succ d ih =>
    intro n hn hm _
    rw [Go.Lib.decDigits]
    by_cases h : n < 10
    · rw [dif_pos h]
      refine ⟨fun k hk => ?_, by simp⟩
      obtain ⟨k, rfl⟩ : ∃ m, k = m + 1 := ⟨k - 1, by omega⟩
      rw [S.spec_l1Num.r.eq, if_pos (decide_eq_true (show (n : Int) < 10 by omega)), u8_dig n h]
    · rw [dif_neg h]
      have hd : 1 ≤ d := by
        rcases Nat.eq_zero_or_pos d with h0 | h0
        · subst h0
          omega
        · exact h0
      have h10 : n / 10 < 10 ^ d := by
        rw [Nat.pow_succ] at hn
        omega
      obtain ⟨b, hl⟩ := ih (n / 10) h10 (by omega) hd
      refine ⟨fun k hk => ?_, by rw [List.length_append, List.length_singleton]; omega⟩
      obtain ⟨k, rfl⟩ : ∃ m, k = m + 1 := ⟨k - 1, by omega⟩
      have e1 : IntKind.i64.wrap (Int.tdiv (n : Int) 10) = ((n / 10 : Nat) : Int) := by
        rw [show Int.tdiv (n : Int) 10 = ((n / 10 : Nat) : Int) from rfl, Go.IntWalk.i64_left]
        unfold Go.RowKit.wrap64
        omega
      have e2 : Int.tmod (n : Int) 10 = ((n % 10 : Nat) : Int) := rfl
      have hlen : (Go.Lib.decDigits (n / 10)).length ≤ 21 := by
        have := Go.Lib.itoa_length_le ((n / 10 : Nat) : Int) (by omega) (by omega)
        unfold Go.Lib.itoa at this
        rw [if_neg (by omega), Int.toNat_natCast] at this
        exact this
      rw [S.spec_l1Num.r.eq, if_neg (by simp; omega), e1, e2, b k (by omega), Option.bind_some, u8_dig (n % 10) (by omega), catI_cat (by unfold strMax; simp; omega), Option.bind_some]
/-- The digits of a number. -/
def spec_l1Num.f (x0 : Int) : Option (List UInt8) := if 0 ≤ x0 ∧ x0 ≤ 9999 then some (Go.Lib.itoa x0) else none
theorem spec_l1Num.f.br (x0 : Int) : LeO (spec_l1Num.f x0) (S.spec_l1Num.f x0) := by
  unfold spec_l1Num.f
  split
  · rename_i h
    obtain ⟨n, rfl⟩ : ∃ n : Nat, x0 = (n : Int) := ⟨x0.toNat, by omega⟩
    have h1 := (l1Num_r 4 n (by omega) (by omega) (by omega)).1
    have e : Go.Lib.itoa (n : Int) = Go.Lib.decDigits n := by
      unfold Go.Lib.itoa
      rw [if_neg (by omega), Int.toNat_natCast]
    have h2 : S.spec_l1Num.f (n : Int) = some (Go.Lib.itoa (n : Int)) := by
      rw [e]
      exact lim_eq ⟨4, h1⟩
    rw [h2]
    exact LeO.refl _
  · exact LeO.none _
def spec_biText.l0 : Nat → List UInt8 → (List (Int × Int)) → Int → Int → Option (List UInt8)
  | 0, _, _, _, _ => none
  | k + 1, x3, x6, x7, x8 => if x8 < x7 then (if 0 ≤ x8 then (if x8 < (x6.length : Int) then (if x8 > 0 then (if x3.length + 1 ≤ 9223372036854775807 then ((spec_l1Num.f (rde x6 x8).1).bind fun y5 => (if y5.length + 1 ≤ 9223372036854775807 then ((spec_l1Num.f (rde x6 x8).2).bind fun y7 => (if (y5 ++ [46]).length + y7.length ≤ 9223372036854775807 then (if (x3 ++ [44]).length + ((y5 ++ [46]) ++ y7).length ≤ 9223372036854775807 then (spec_biText.l0 k ((x3 ++ [44]) ++ ((y5 ++ [46]) ++ y7)) x6 x7 (IntKind.i64.wrap (x8 + 1))) else (none)) else (none))) else (none))) else (none)) else ((spec_l1Num.f (rde x6 x8).1).bind fun y11 => (if y11.length + 1 ≤ 9223372036854775807 then ((spec_l1Num.f (rde x6 x8).2).bind fun y13 => (if (y11 ++ [46]).length + y13.length ≤ 9223372036854775807 then (if x3.length + ((y11 ++ [46]) ++ y13).length ≤ 9223372036854775807 then (spec_biText.l0 k (x3 ++ ((y11 ++ [46]) ++ y13)) x6 x7 (IntKind.i64.wrap (x8 + 1))) else (none)) else (none))) else (none)))) else (none)) else (none)) else (some x3)
def spec_biText.f (k : Nat) (x0 : List (Int × Int)) : Option (List UInt8) := spec_biText.l0 k [] x0 (x0.length : Int) 0
theorem spec_biText.br_l : ∀ k, (∀ (x3 : List UInt8) (x6 : List (Int × Int)) (x7 : Int) (x8 : Int), LeO (spec_biText.l0 k x3 x6 x7 x8) (S.spec_biText.l0 x3 x6 x7 x8))
  | 0 => fun _ _ _ _ => LeO.none _
  | k + 1 => by
    have ih := spec_biText.br_l k
    have ih_l0 := ih
    refine fun x3 x6 x7 x8 => ?_
    · refine LeO.of (S.spec_biText.l0.eq _ _ _ _) ?_
      show LeO (spec_biText.l0 (k + 1) x3 x6 x7 x8) _
      unfold spec_biText.l0
      exact (LeO.dec (fun h0 => (LeO.tst fun h1 => (LeO.tst fun h2 => (LeO.rdI h1 h2 (LeO.dec (fun h3 => (LeO.tst fun h4 => (LeO.catS h4 (LeO.bind (spec_l1Num.f.br _) (fun y5 => (LeO.tst fun h5 => (LeO.catS h5 (LeO.bind (spec_l1Num.f.br _) (fun y7 => (LeO.tst fun h6 => (LeO.catS h6 (LeO.tst fun h7 => (LeO.catS h7 (ih_l0 _ _ _ _)))))))))))))) (fun h3 => (LeO.bind (spec_l1Num.f.br _) (fun y11 => (LeO.tst fun h4 => (LeO.catS h4 (LeO.bind (spec_l1Num.f.br _) (fun y13 => (LeO.tst fun h5 => (LeO.catS h5 (LeO.tst fun h6 => (LeO.catS h6 (ih_l0 _ _ _ _))))))))))))))))) (fun h0 => LeO.refl _))
theorem spec_biText.f.br (k : Nat) (x0 : List (Int × Int)) : LeO (spec_biText.f k x0) (S.spec_biText.f x0) := by
  refine LeO.of (S.spec_biText.f.eq _) ?_
  unfold spec_biText.f
  have ih_l0 := (spec_biText.br_l k)
  exact (ih_l0 _ _ _ _)
def spec_BirthsText.f (k : Nat) (x0 : List (Int × Int)) : Option ((List UInt8) × Bool) := (spec_biGood.f k x0).bind fun y1 => (if y1 = true then ((spec_biText.f k x0).bind fun y2 => (some (y2, true))) else (some ([], false)))
theorem spec_BirthsText.f.br (k : Nat) (x0 : List (Int × Int)) : LeO (spec_BirthsText.f k x0) (S.spec_BirthsText.f x0) := by
  refine LeO.of (S.spec_BirthsText.f.eq _) ?_
  unfold spec_BirthsText.f
  exact (LeO.bind (spec_biGood.f.br k _) (fun y1 => (LeO.nob (fun h0 => (LeO.bind (spec_biText.f.br k _) (fun y2 => LeO.refl _))) (fun h0 => LeO.refl _))))
def laws_gSame.l0 : Nat → List Int → List Int → Int → Int → Option (Bool)
  | 0, _, _, _, _ => none
  | k + 1, x0, x1, x12, x13 => if x13 < x12 then (if 0 ≤ x13 then (if x13 < (x0.length : Int) then (if x13 < (x1.length : Int) then (if (rde x0 x13) = (rde x1 x13) then (laws_gSame.l0 k x0 x1 x12 (IntKind.i64.wrap (x13 + 1))) else (some false)) else (none)) else (none)) else (none)) else (some true)
def laws_gSame.f (k : Nat) (x0 : List Int) (x1 : List Int) : Option (Bool) := if (x0.length : Int) = (x1.length : Int) then (laws_gSame.l0 k x0 x1 (x0.length : Int) 0) else (some false)
theorem laws_gSame.br_l : ∀ k, (∀ (x0 : List Int) (x1 : List Int) (x12 : Int) (x13 : Int), LeO (laws_gSame.l0 k x0 x1 x12 x13) (S.laws_gSame.l0 x0 x1 x12 x13))
  | 0 => fun _ _ _ _ => LeO.none _
  | k + 1 => by
    have ih := laws_gSame.br_l k
    have ih_l0 := ih
    refine fun x0 x1 x12 x13 => ?_
    · refine LeO.of (S.laws_gSame.l0.eq _ _ _ _) ?_
      show LeO (laws_gSame.l0 (k + 1) x0 x1 x12 x13) _
      unfold laws_gSame.l0
      exact (LeO.dec (fun h0 => (LeO.tst fun h1 => (LeO.tst fun h2 => (LeO.rdI h1 h2 (LeO.tst fun h3 => (LeO.rdI h1 h3 (LeO.bne (fun h4 => (ih_l0 _ _ _ _)) (fun h4 => LeO.refl _)))))))) (fun h0 => LeO.refl _))
theorem laws_gSame.f.br (k : Nat) (x0 : List Int) (x1 : List Int) : LeO (laws_gSame.f k x0 x1) (S.laws_gSame.f x0 x1) := by
  refine LeO.of (S.laws_gSame.f.eq _ _) ?_
  unfold laws_gSame.f
  have ih_l0 := (laws_gSame.br_l k)
  exact (LeO.bne (fun h0 => (ih_l0 _ _ _ _)) (fun h0 => LeO.refl _))
def laws_gRows.l0 : Nat → List (List Int) → List (List Int) → Int → Int → Option (Bool)
  | 0, _, _, _, _ => none
  | k + 1, x0, x1, x12, x13 => if x13 < x12 then (if 0 ≤ x13 then (if x13 < (x0.length : Int) then (if x13 < (x1.length : Int) then ((laws_gSame.f k (rde x0 x13) (rde x1 x13)).bind fun y4 => (if y4 = true then (laws_gRows.l0 k x0 x1 x12 (IntKind.i64.wrap (x13 + 1))) else (some false))) else (none)) else (none)) else (none)) else (some true)
def laws_gRows.f (k : Nat) (x0 : List (List Int)) (x1 : List (List Int)) : Option (Bool) := if (x0.length : Int) = (x1.length : Int) then (laws_gRows.l0 k x0 x1 (x0.length : Int) 0) else (some false)
theorem laws_gRows.br_l : ∀ k, (∀ (x0 : List (List Int)) (x1 : List (List Int)) (x12 : Int) (x13 : Int), LeO (laws_gRows.l0 k x0 x1 x12 x13) (S.laws_gRows.l0 x0 x1 x12 x13))
  | 0 => fun _ _ _ _ => LeO.none _
  | k + 1 => by
    have ih := laws_gRows.br_l k
    have ih_l0 := ih
    refine fun x0 x1 x12 x13 => ?_
    · refine LeO.of (S.laws_gRows.l0.eq _ _ _ _) ?_
      show LeO (laws_gRows.l0 (k + 1) x0 x1 x12 x13) _
      unfold laws_gRows.l0
      exact (LeO.dec (fun h0 => (LeO.tst fun h1 => (LeO.tst fun h2 => (LeO.rdI h1 h2 (LeO.tst fun h3 => (LeO.rdI h1 h3 (LeO.bind (laws_gSame.f.br k _ _) (fun y4 => (LeO.nob (fun h4 => (ih_l0 _ _ _ _)) (fun h4 => LeO.refl _)))))))))) (fun h0 => LeO.refl _))
theorem laws_gRows.f.br (k : Nat) (x0 : List (List Int)) (x1 : List (List Int)) : LeO (laws_gRows.f k x0 x1) (S.laws_gRows.f x0 x1) := by
  refine LeO.of (S.laws_gRows.f.eq _ _) ?_
  unfold laws_gRows.f
  have ih_l0 := (laws_gRows.br_l k)
  exact (LeO.bne (fun h0 => (ih_l0 _ _ _ _)) (fun h0 => LeO.refl _))
def spec_AreBirthDates.f (k : Nat) (x0 : List (Int × Int)) : Option (Bool) := (spec_biGood.f k x0).bind fun y1 => (some y1)
theorem spec_AreBirthDates.f.br (k : Nat) (x0 : List (Int × Int)) : LeO (spec_AreBirthDates.f k x0) (S.spec_AreBirthDates.f x0) := by
  refine LeO.of (S.spec_AreBirthDates.f.eq _) ?_
  unfold spec_AreBirthDates.f
  exact (LeO.bind (spec_biGood.f.br k _) (fun y1 => LeO.refl _))
def impl_GreatestGap.j0 : Nat → Bool → Int → Int → Int → Int → Option (Int × Int × Bool)
  | 0, _, _, _, _, _ => none
  | k + 1, x22, xb2_0, xb2_1, xb3_0, xb3_1 => if x22 = true then (some (0, 0, false)) else ((impl_Date_index.f (xb3_0, xb3_1)).bind fun y1 => ((impl_Date_index.f (xb2_0, xb2_1)).bind fun y2 => (some ((IntKind.i64.wrap ((IntKind.i64.wrap (y1 - y2)).tdiv 365)), (IntKind.i64.wrap ((IntKind.i64.wrap ((IntKind.i64.wrap ((IntKind.i64.wrap (y1 - y2)) + 365)) - 1)).tdiv 365)), true))))
def impl_GreatestGap.f (k : Nat) (x0 : Int × Int) (x1 : Int × Int) : Option (Int × Int × Bool) := (impl_IsDate.f (x0.1, x0.2)).bind fun y1 => (if y1 = true then ((impl_IsDate.f (x1.1, x1.2)).bind fun y8 => (if y8 = true then ((impl_Date_index.f (x0.1, x0.2)).bind fun y10 => ((impl_Date_index.f (x1.1, x1.2)).bind fun y11 => (impl_GreatestGap.j0 k (decide (y10 > y11)) x0.1 x0.2 x1.1 x1.2))) else (impl_GreatestGap.j0 k true x0.1 x0.2 x1.1 x1.2))) else (impl_GreatestGap.j0 k true x0.1 x0.2 x1.1 x1.2))
theorem impl_GreatestGap.br_l : ∀ k, (∀ (x22 : Bool) (xb2_0 : Int) (xb2_1 : Int) (xb3_0 : Int) (xb3_1 : Int), LeO (impl_GreatestGap.j0 k x22 xb2_0 xb2_1 xb3_0 xb3_1) (S.impl_GreatestGap.j0 x22 xb2_0 xb2_1 xb3_0 xb3_1))
  | 0 => fun _ _ _ _ _ => LeO.none _
  | k + 1 => by
    have ih := impl_GreatestGap.br_l k
    have ih_j0 := ih
    refine fun x22 xb2_0 xb2_1 xb3_0 xb3_1 => ?_
    · refine LeO.of (S.impl_GreatestGap.j0.eq _ _ _ _ _) ?_
      show LeO (impl_GreatestGap.j0 (k + 1) x22 xb2_0 xb2_1 xb3_0 xb3_1) _
      unfold impl_GreatestGap.j0
      exact (LeO.ite' (fun h0 => LeO.refl _) (fun h0 => (LeO.bind (impl_Date_index.f.br _) (fun y1 => (LeO.bind (impl_Date_index.f.br _) (fun y2 => LeO.refl _))))))
theorem impl_GreatestGap.f.br (k : Nat) (x0 : Int × Int) (x1 : Int × Int) : LeO (impl_GreatestGap.f k x0 x1) (S.impl_GreatestGap.f x0 x1) := by
  refine LeO.of (S.impl_GreatestGap.f.eq _ _) ?_
  unfold impl_GreatestGap.f
  have ih_j0 := (impl_GreatestGap.br_l k)
  exact (LeO.bind (impl_IsDate.f.br _) (fun y1 => (LeO.nob (fun h0 => (LeO.bind (impl_IsDate.f.br _) (fun y8 => (LeO.nob (fun h1 => (LeO.bind (impl_Date_index.f.br _) (fun y10 => (LeO.bind (impl_Date_index.f.br _) (fun y11 => (ih_j0 _ _ _ _ _)))))) (fun h1 => (ih_j0 _ _ _ _ _)))))) (fun h0 => (ih_j0 _ _ _ _ _)))))
def impl_areBornOn.f (k : Nat) (x0 : List (Int × Int)) (x1 : Int × Int) : Option (Bool) := (impl_AreBirthDates.f k x0).bind fun y1 => (if y1 = true then ((impl_IsDate.f (x1.1, x1.2)).bind fun y2 => (if y2 = true then ((impl_lastBirth.f k x0).bind fun y4 => ((impl_Date_index.f (x1.1, x1.2)).bind fun y5 => (some (decide (y4 ≤ y5))))) else (some false))) else (some false))
theorem impl_areBornOn.f.br (k : Nat) (x0 : List (Int × Int)) (x1 : Int × Int) : LeO (impl_areBornOn.f k x0 x1) (S.impl_areBornOn.f x0 x1) := by
  refine LeO.of (S.impl_areBornOn.f.eq _ _) ?_
  unfold impl_areBornOn.f
  exact (LeO.bind (impl_AreBirthDates.f.br k _) (fun y1 => (LeO.ite' (fun h0 => (LeO.bind (impl_IsDate.f.br _) (fun y2 => (LeO.ite' (fun h1 => (LeO.bind (impl_lastBirth.f.br k _) (fun y4 => (LeO.bind (impl_Date_index.f.br _) (fun y5 => LeO.refl _))))) (fun h1 => LeO.refl _))))) (fun h0 => LeO.refl _))))
def impl_AgesOn.f (k : Nat) (x0 : List (Int × Int)) (x1 : Int × Int) : Option ((List Int) × Bool) := (impl_areBornOn.f k x0 (x1.1, x1.2)).bind fun y1 => (if y1 = true then ((impl_Date_index.f (x1.1, x1.2)).bind fun y2 => ((impl_agesOn.f k x0 y2).bind fun y3 => (some (y3, true)))) else (some ([], false)))
theorem impl_AgesOn.f.br (k : Nat) (x0 : List (Int × Int)) (x1 : Int × Int) : LeO (impl_AgesOn.f k x0 x1) (S.impl_AgesOn.f x0 x1) := by
  refine LeO.of (S.impl_AgesOn.f.eq _ _) ?_
  unfold impl_AgesOn.f
  exact (LeO.bind (impl_areBornOn.f.br k _ _) (fun y1 => (LeO.nob (fun h0 => (LeO.bind (impl_Date_index.f.br _) (fun y2 => (LeO.bind (impl_agesOn.f.br k _ _) (fun y3 => LeO.refl _))))) (fun h0 => LeO.refl _))))
def impl_SumOfAgesOn.f (k : Nat) (x0 : List (Int × Int)) (x1 : Int × Int) : Option (Int × Bool) := (impl_AgesOn.f k x0 (x1.1, x1.2)).bind fun y1 => ((impl_total.f k y1.1).bind fun y2 => (some (y2, y1.2)))
theorem impl_SumOfAgesOn.f.br (k : Nat) (x0 : List (Int × Int)) (x1 : Int × Int) : LeO (impl_SumOfAgesOn.f k x0 x1) (S.impl_SumOfAgesOn.f x0 x1) := by
  refine LeO.of (S.impl_SumOfAgesOn.f.eq _ _) ?_
  unfold impl_SumOfAgesOn.f
  exact (LeO.bind (impl_AgesOn.f.br k _ _) (fun y1 => (LeO.bind (impl_total.f.br k _) (fun y2 => LeO.refl _))))
def impl_AddDays.j0 : Nat → Int → Bool → Int → Int → Int → Int → Option ((Int × Int) × Bool)
  | 0, _, _, _, _, _, _ => none
  | k + 1, x1, x13, xb2_0, xb2_1, xb4_0, xb4_1 => if x13 = true then (some ((0, 0), false)) else ((impl_Date_index.f (xb2_0, xb2_1)).bind fun y1 => ((impl_dateAt.f (IntKind.i64.wrap (y1 + x1))).bind fun y3 => (some ((y3.1.1, y3.1.2), y3.2))))
def impl_AddDays.f (k : Nat) (x0 : Int × Int) (x1 : Int) : Option ((Int × Int) × Bool) := (impl_IsDate.f (x0.1, x0.2)).bind fun y1 => (if y1 = true then ((impl_between.f x1 (-2000000) 2000000).bind fun y4 => (impl_AddDays.j0 k x1 (!y4) x0.1 x0.2 0 0)) else (impl_AddDays.j0 k x1 true x0.1 x0.2 0 0))
theorem impl_AddDays.br_l : ∀ k, (∀ (x1 : Int) (x13 : Bool) (xb2_0 : Int) (xb2_1 : Int) (xb4_0 : Int) (xb4_1 : Int), LeO (impl_AddDays.j0 k x1 x13 xb2_0 xb2_1 xb4_0 xb4_1) (S.impl_AddDays.j0 x1 x13 xb2_0 xb2_1 xb4_0 xb4_1))
  | 0 => fun _ _ _ _ _ _ => LeO.none _
  | k + 1 => by
    have ih := impl_AddDays.br_l k
    have ih_j0 := ih
    refine fun x1 x13 xb2_0 xb2_1 xb4_0 xb4_1 => ?_
    · refine LeO.of (S.impl_AddDays.j0.eq _ _ _ _ _ _) ?_
      show LeO (impl_AddDays.j0 (k + 1) x1 x13 xb2_0 xb2_1 xb4_0 xb4_1) _
      unfold impl_AddDays.j0
      exact (LeO.ite' (fun h0 => LeO.refl _) (fun h0 => (LeO.bind (impl_Date_index.f.br _) (fun y1 => (LeO.bind (impl_dateAt.f.br _) (fun y3 => LeO.refl _))))))
theorem impl_AddDays.f.br (k : Nat) (x0 : Int × Int) (x1 : Int) : LeO (impl_AddDays.f k x0 x1) (S.impl_AddDays.f x0 x1) := by
  refine LeO.of (S.impl_AddDays.f.eq _ _) ?_
  unfold impl_AddDays.f
  have ih_j0 := (impl_AddDays.br_l k)
  exact (LeO.bind (impl_IsDate.f.br _) (fun y1 => (LeO.nob (fun h0 => (LeO.bind (impl_between.f.br _ _ _) (fun y4 => (ih_j0 _ _ _ _ _ _)))) (fun h0 => (ih_j0 _ _ _ _ _ _)))))
def impl_readDate.f (x0 : List UInt8) : Option ((Int × Int) × Bool) := (S.strings_Cut.f x0 [46]).bind fun y1 => ((S.impl_readNumber.f y1.1).bind fun y2 => ((S.impl_readNumber.f y1.2.1).bind fun y3 => (if y2.2 = true then (if y3.2 = true then ((impl_IsDate.f (y2.1, y3.1)).bind fun y5 => (some ((y2.1, y3.1), y5))) else (some ((y2.1, y3.1), false))) else (some ((y2.1, y3.1), false)))))
theorem impl_readDate.f.br (x0 : List UInt8) : LeO (impl_readDate.f x0) (S.impl_readDate.f x0) := by
  refine LeO.of (S.impl_readDate.f.eq _) ?_
  unfold impl_readDate.f
  exact (LeO.bind (LeO.refl _) (fun y1 => (LeO.bind (LeO.refl _) (fun y2 => (LeO.bind (LeO.refl _) (fun y3 => (LeO.ite' (fun h0 => (LeO.ite' (fun h1 => (LeO.bind (impl_IsDate.f.br _) (fun y5 => LeO.refl _))) (fun h1 => LeO.refl _))) (fun h0 => LeO.refl _))))))))
def impl_ParseBirths.l0 : Nat → (List (Int × Int)) → List (List UInt8) → Int → Int → Option ((List (Int × Int)) × Bool)
  | 0, _, _, _, _ => none
  | k + 1, x4, x11, x12, x13 => if x13 < x12 then (if 0 ≤ x13 then (if x13 < (x11.length : Int) then ((impl_readDate.f (rde x11 x13)).bind fun y3 => (if y3.2 = true then (if (x4.length : Int) = 8 then (some ([], false)) else (if x4.length < 8796093022208 then (impl_ParseBirths.l0 k (x4 ++ [(y3.1.1, y3.1.2)]) x11 x12 (IntKind.i64.wrap (x13 + 1))) else (none))) else (some ([], false)))) else (none)) else (none)) else (some (x4, true))
def impl_ParseBirths.f (k : Nat) (x0 : List UInt8) : Option ((List (Int × Int)) × Bool) := (S.strings_Split.f x0 [44]).bind fun y1 => (impl_ParseBirths.l0 k [] y1 (y1.length : Int) 0)
theorem impl_ParseBirths.br_l : ∀ k, (∀ (x4 : List (Int × Int)) (x11 : List (List UInt8)) (x12 : Int) (x13 : Int), LeO (impl_ParseBirths.l0 k x4 x11 x12 x13) (S.impl_ParseBirths.l0 x4 x11 x12 x13))
  | 0 => fun _ _ _ _ => LeO.none _
  | k + 1 => by
    have ih := impl_ParseBirths.br_l k
    have ih_l0 := ih
    refine fun x4 x11 x12 x13 => ?_
    · refine LeO.of (S.impl_ParseBirths.l0.eq _ _ _ _) ?_
      show LeO (impl_ParseBirths.l0 (k + 1) x4 x11 x12 x13) _
      unfold impl_ParseBirths.l0
      exact (LeO.dec (fun h0 => (LeO.tst fun h1 => (LeO.tst fun h2 => (LeO.rdI h1 h2 (LeO.bind (impl_readDate.f.br _) (fun y3 => (LeO.nob (fun h3 => (LeO.beq (fun h4 => LeO.refl _) (fun h4 => (LeO.tst fun h5 => (LeO.cat1 h5 (ih_l0 _ _ _ _)))))) (fun h3 => LeO.refl _)))))))) (fun h0 => LeO.refl _))
theorem impl_ParseBirths.f.br (k : Nat) (x0 : List UInt8) : LeO (impl_ParseBirths.f k x0) (S.impl_ParseBirths.f x0) := by
  refine LeO.of (S.impl_ParseBirths.f.eq _) ?_
  unfold impl_ParseBirths.f
  have ih_l0 := (impl_ParseBirths.br_l k)
  exact (LeO.bind (LeO.refl _) (fun y1 => (ih_l0 _ _ _ _)))
def laws_gDates.l0 : Nat → (List (Int × Int)) → (List (Int × Int)) → Int → Int → Option (Bool)
  | 0, _, _, _, _ => none
  | k + 1, x0, x1, x12, x13 => if x13 < x12 then (if 0 ≤ x13 then (if x13 < (x0.length : Int) then (if x13 < (x1.length : Int) then (if ((rde x0 x13).1 == (rde x1 x13).1 && (rde x0 x13).2 == (rde x1 x13).2) = true then (laws_gDates.l0 k x0 x1 x12 (IntKind.i64.wrap (x13 + 1))) else (some false)) else (none)) else (none)) else (none)) else (some true)
def laws_gDates.f (k : Nat) (x0 : List (Int × Int)) (x1 : List (Int × Int)) : Option (Bool) := if (x0.length : Int) = (x1.length : Int) then (laws_gDates.l0 k x0 x1 (x0.length : Int) 0) else (some false)
theorem laws_gDates.br_l : ∀ k, (∀ (x0 : List (Int × Int)) (x1 : List (Int × Int)) (x12 : Int) (x13 : Int), LeO (laws_gDates.l0 k x0 x1 x12 x13) (S.laws_gDates.l0 x0 x1 x12 x13))
  | 0 => fun _ _ _ _ => LeO.none _
  | k + 1 => by
    have ih := laws_gDates.br_l k
    have ih_l0 := ih
    refine fun x0 x1 x12 x13 => ?_
    · refine LeO.of (S.laws_gDates.l0.eq _ _ _ _) ?_
      show LeO (laws_gDates.l0 (k + 1) x0 x1 x12 x13) _
      unfold laws_gDates.l0
      exact (LeO.dec (fun h0 => (LeO.tst fun h1 => (LeO.tst fun h2 => (LeO.rdI h1 h2 (LeO.tst fun h3 => (LeO.rdI h1 h3 (LeO.nob (fun h4 => (ih_l0 _ _ _ _)) (fun h4 => LeO.refl _)))))))) (fun h0 => LeO.refl _))
theorem laws_gDates.f.br (k : Nat) (x0 : List (Int × Int)) (x1 : List (Int × Int)) : LeO (laws_gDates.f k x0 x1) (S.laws_gDates.f x0 x1) := by
  refine LeO.of (S.laws_gDates.f.eq _ _) ?_
  unfold laws_gDates.f
  have ih_l0 := (laws_gDates.br_l k)
  exact (LeO.bne (fun h0 => (ih_l0 _ _ _ _)) (fun h0 => LeO.refl _))
def laws_gRises.l0 : Nat → List Int → Int → Option (Bool)
  | 0, _, _ => none
  | k + 1, x0, x3 => if x3 < (x0.length : Int) then (if 0 ≤ (IntKind.i64.wrap (x3 - 1)) then (if (IntKind.i64.wrap (x3 - 1)) < (x0.length : Int) then (if 0 ≤ x3 then (if (rde x0 (IntKind.i64.wrap (x3 - 1))) ≥ (rde x0 x3) then (some false) else (laws_gRises.l0 k x0 (IntKind.i64.wrap (x3 + 1)))) else (none)) else (none)) else (none)) else (some true)
def laws_gRises.f (k : Nat) (x0 : List Int) : Option (Bool) := laws_gRises.l0 k x0 1
theorem laws_gRises.br_l : ∀ k, (∀ (x0 : List Int) (x3 : Int), LeO (laws_gRises.l0 k x0 x3) (S.laws_gRises.l0 x0 x3))
  | 0 => fun _ _ => LeO.none _
  | k + 1 => by
    have ih := laws_gRises.br_l k
    have ih_l0 := ih
    refine fun x0 x3 => ?_
    · refine LeO.of (S.laws_gRises.l0.eq _ _) ?_
      show LeO (laws_gRises.l0 (k + 1) x0 x3) _
      unfold laws_gRises.l0
      exact (LeO.dec (fun h0 => (LeO.tst fun h1 => (LeO.tst fun h2 => (LeO.rdI h1 h2 (LeO.tst fun h3 => (LeO.rdI h3 h0 (LeO.dec (fun h4 => LeO.refl _) (fun h4 => (ih_l0 _ _))))))))) (fun h0 => LeO.refl _))
theorem laws_gRises.f.br (k : Nat) (x0 : List Int) : LeO (laws_gRises.f k x0) (S.laws_gRises.f x0) := by
  refine LeO.of (S.laws_gRises.f.eq _) ?_
  unfold laws_gRises.f
  have ih_l0 := (laws_gRises.br_l k)
  exact (ih_l0 _ _)
def spec_l1Cur_one.f (x0_0 : List Int) (x0_1 : Int) (x0_2 : Int) (x1 : Int) : Option (Bool × (List Int) × Int × Int) := (spec_l1Cur_pick.f x0_0 x0_1 x0_2 x1).bind fun y1 => (some ((y1.1 == 0), y1.2.1, y1.2.2.1, y1.2.2.2))
theorem spec_l1Cur_one.f.br (x0_0 : List Int) (x0_1 : Int) (x0_2 : Int) (x1 : Int) : LeO (spec_l1Cur_one.f x0_0 x0_1 x0_2 x1) (S.spec_l1Cur_one.f x0_0 x0_1 x0_2 x1) := by
  refine LeO.of (S.spec_l1Cur_one.f.eq _ _ _ _) ?_
  unfold spec_l1Cur_one.f
  exact (LeO.bind (spec_l1Cur_pick.f.br _ _ _ _) (fun y1 => LeO.refl _))
def spec_DrawGreatestGap.f (x0 : List Int) : Option ((Int × Int) × (Int × Int)) := (spec_l1Cur_sureDate.f x0 0 0).bind fun y1 => ((spec_l1Cur_one.f y1.2.1 y1.2.2.1 y1.2.2.2 4).bind fun y2 => (if y2.1 = true then ((spec_l1Cur_date.f y2.2.1 y2.2.2.1 y2.2.2.2).bind fun y3 => (some ((y1.1.1, y1.1.2), y3.1.1, y3.1.2))) else ((spec_l1Cur_sureDate.f y2.2.1 y2.2.2.1 y2.2.2.2).bind fun y4 => (some ((y1.1.1, y1.1.2), y4.1.1, y4.1.2)))))
theorem spec_DrawGreatestGap.f.br (x0 : List Int) : LeO (spec_DrawGreatestGap.f x0) (S.spec_DrawGreatestGap.f x0) := by
  refine LeO.of (S.spec_DrawGreatestGap.f.eq _) ?_
  unfold spec_DrawGreatestGap.f
  exact (LeO.bind (spec_l1Cur_sureDate.f.br _ _ _) (fun y1 => (LeO.bind (spec_l1Cur_one.f.br _ _ _ _) (fun y2 => (LeO.ite' (fun h0 => (LeO.bind (spec_l1Cur_date.f.br _ _ _) (fun y3 => LeO.refl _))) (fun h0 => (LeO.bind (spec_l1Cur_sureDate.f.br _ _ _) (fun y4 => LeO.refl _))))))))
def spec_DrawTwiceAsOld.f (x0 : List Int) : Option ((Int × Int) × (Int × Int)) := (spec_DrawGreatestGap.f x0).bind fun y1 => (some ((y1.1.1, y1.1.2), y1.2.1, y1.2.2))
theorem spec_DrawTwiceAsOld.f.br (x0 : List Int) : LeO (spec_DrawTwiceAsOld.f x0) (S.spec_DrawTwiceAsOld.f x0) := by
  refine LeO.of (S.spec_DrawTwiceAsOld.f.eq _) ?_
  unfold spec_DrawTwiceAsOld.f
  exact (LeO.bind (spec_DrawGreatestGap.f.br _) (fun y1 => LeO.refl _))
def impl_TwiceAsOld.j0 : Nat → Bool → Int → Int → Int → Int → Int → Int → Option ((Int × Int) × Bool)
  | 0, _, _, _, _, _, _, _ => none
  | k + 1, x20, xb2_0, xb2_1, xb3_0, xb3_1, xb4_0, xb4_1 => if x20 = true then (some ((0, 0), false)) else ((impl_Date_index.f (xb3_0, xb3_1)).bind fun y1 => ((impl_Date_index.f (xb2_0, xb2_1)).bind fun y3 => ((impl_dateAt.f (IntKind.i64.wrap ((IntKind.i64.wrap (2 * y1)) - y3))).bind fun y5 => (some ((y5.1.1, y5.1.2), y5.2)))))
def impl_TwiceAsOld.f (k : Nat) (x0 : Int × Int) (x1 : Int × Int) : Option ((Int × Int) × Bool) := (impl_IsDate.f (x0.1, x0.2)).bind fun y1 => (if y1 = true then ((impl_IsDate.f (x1.1, x1.2)).bind fun y6 => (if y6 = true then ((impl_Date_index.f (x1.1, x1.2)).bind fun y8 => ((impl_Date_index.f (x0.1, x0.2)).bind fun y9 => (impl_TwiceAsOld.j0 k (decide (y8 ≤ y9)) x0.1 x0.2 x1.1 x1.2 0 0))) else (impl_TwiceAsOld.j0 k true x0.1 x0.2 x1.1 x1.2 0 0))) else (impl_TwiceAsOld.j0 k true x0.1 x0.2 x1.1 x1.2 0 0))
theorem impl_TwiceAsOld.br_l : ∀ k, (∀ (x20 : Bool) (xb2_0 : Int) (xb2_1 : Int) (xb3_0 : Int) (xb3_1 : Int) (xb4_0 : Int) (xb4_1 : Int), LeO (impl_TwiceAsOld.j0 k x20 xb2_0 xb2_1 xb3_0 xb3_1 xb4_0 xb4_1) (S.impl_TwiceAsOld.j0 x20 xb2_0 xb2_1 xb3_0 xb3_1 xb4_0 xb4_1))
  | 0 => fun _ _ _ _ _ _ _ => LeO.none _
  | k + 1 => by
    have ih := impl_TwiceAsOld.br_l k
    have ih_j0 := ih
    refine fun x20 xb2_0 xb2_1 xb3_0 xb3_1 xb4_0 xb4_1 => ?_
    · refine LeO.of (S.impl_TwiceAsOld.j0.eq _ _ _ _ _ _ _) ?_
      show LeO (impl_TwiceAsOld.j0 (k + 1) x20 xb2_0 xb2_1 xb3_0 xb3_1 xb4_0 xb4_1) _
      unfold impl_TwiceAsOld.j0
      exact (LeO.ite' (fun h0 => LeO.refl _) (fun h0 => (LeO.bind (impl_Date_index.f.br _) (fun y1 => (LeO.bind (impl_Date_index.f.br _) (fun y3 => (LeO.bind (impl_dateAt.f.br _) (fun y5 => LeO.refl _))))))))
theorem impl_TwiceAsOld.f.br (k : Nat) (x0 : Int × Int) (x1 : Int × Int) : LeO (impl_TwiceAsOld.f k x0 x1) (S.impl_TwiceAsOld.f x0 x1) := by
  refine LeO.of (S.impl_TwiceAsOld.f.eq _ _) ?_
  unfold impl_TwiceAsOld.f
  have ih_j0 := (impl_TwiceAsOld.br_l k)
  exact (LeO.bind (impl_IsDate.f.br _) (fun y1 => (LeO.nob (fun h0 => (LeO.bind (impl_IsDate.f.br _) (fun y6 => (LeO.nob (fun h1 => (LeO.bind (impl_Date_index.f.br _) (fun y8 => (LeO.bind (impl_Date_index.f.br _) (fun y9 => (ih_j0 _ _ _ _ _ _ _)))))) (fun h1 => (ih_j0 _ _ _ _ _ _ _)))))) (fun h0 => (ih_j0 _ _ _ _ _ _ _)))))
def spec_TwiceAsOld.j0 : Nat → Bool → Int → Int → Int → Int → Int → Int → Option ((Int × Int) × Bool)
  | 0, _, _, _, _, _, _, _ => none
  | k + 1, x20, xb2_0, xb2_1, xb3_0, xb3_1, xb4_0, xb4_1 => if x20 = true then (some ((0, 0), false)) else ((spec_biDays.f (xb3_0, xb3_1)).bind fun y1 => ((spec_biDays.f (xb2_0, xb2_1)).bind fun y3 => ((spec_biBack.f (IntKind.i64.wrap ((IntKind.i64.wrap (2 * y1)) - y3))).bind fun y5 => (some ((y5.1.1, y5.1.2), y5.2)))))
def spec_TwiceAsOld.f (k : Nat) (x0 : Int × Int) (x1 : Int × Int) : Option ((Int × Int) × Bool) := (spec_biDate.f (x0.1, x0.2)).bind fun y1 => (if y1 = true then ((spec_biDate.f (x1.1, x1.2)).bind fun y6 => (if y6 = true then ((spec_biDays.f (x1.1, x1.2)).bind fun y8 => ((spec_biDays.f (x0.1, x0.2)).bind fun y9 => (spec_TwiceAsOld.j0 k (decide (y8 ≤ y9)) x0.1 x0.2 x1.1 x1.2 0 0))) else (spec_TwiceAsOld.j0 k true x0.1 x0.2 x1.1 x1.2 0 0))) else (spec_TwiceAsOld.j0 k true x0.1 x0.2 x1.1 x1.2 0 0))
theorem spec_TwiceAsOld.br_l : ∀ k, (∀ (x20 : Bool) (xb2_0 : Int) (xb2_1 : Int) (xb3_0 : Int) (xb3_1 : Int) (xb4_0 : Int) (xb4_1 : Int), LeO (spec_TwiceAsOld.j0 k x20 xb2_0 xb2_1 xb3_0 xb3_1 xb4_0 xb4_1) (S.spec_TwiceAsOld.j0 x20 xb2_0 xb2_1 xb3_0 xb3_1 xb4_0 xb4_1))
  | 0 => fun _ _ _ _ _ _ _ => LeO.none _
  | k + 1 => by
    have ih := spec_TwiceAsOld.br_l k
    have ih_j0 := ih
    refine fun x20 xb2_0 xb2_1 xb3_0 xb3_1 xb4_0 xb4_1 => ?_
    · refine LeO.of (S.spec_TwiceAsOld.j0.eq _ _ _ _ _ _ _) ?_
      show LeO (spec_TwiceAsOld.j0 (k + 1) x20 xb2_0 xb2_1 xb3_0 xb3_1 xb4_0 xb4_1) _
      unfold spec_TwiceAsOld.j0
      exact (LeO.ite' (fun h0 => LeO.refl _) (fun h0 => (LeO.bind (spec_biDays.f.br _) (fun y1 => (LeO.bind (spec_biDays.f.br _) (fun y3 => (LeO.bind (spec_biBack.f.br _) (fun y5 => LeO.refl _))))))))
theorem spec_TwiceAsOld.f.br (k : Nat) (x0 : Int × Int) (x1 : Int × Int) : LeO (spec_TwiceAsOld.f k x0 x1) (S.spec_TwiceAsOld.f x0 x1) := by
  refine LeO.of (S.spec_TwiceAsOld.f.eq _ _) ?_
  unfold spec_TwiceAsOld.f
  have ih_j0 := (spec_TwiceAsOld.br_l k)
  exact (LeO.bind (spec_biDate.f.br _) (fun y1 => (LeO.nob (fun h0 => (LeO.bind (spec_biDate.f.br _) (fun y6 => (LeO.nob (fun h1 => (LeO.bind (spec_biDays.f.br _) (fun y8 => (LeO.bind (spec_biDays.f.br _) (fun y9 => (ih_j0 _ _ _ _ _ _ _)))))) (fun h1 => (ih_j0 _ _ _ _ _ _ _)))))) (fun h0 => (ih_j0 _ _ _ _ _ _ _)))))
def spec_GreatestGap.j0 : Nat → Bool → Int → Int → Int → Int → Option (Int × Int × Bool)
  | 0, _, _, _, _, _ => none
  | k + 1, x22, xb2_0, xb2_1, xb3_0, xb3_1 => if x22 = true then (some (0, 0, false)) else ((spec_biAge.f (xb2_0, xb2_1) (xb3_0, xb3_1)).bind fun y1 => (if xb2_1 = xb3_1 then (some (y1, y1, true)) else (some (y1, (IntKind.i64.wrap (y1 + 1)), true))))
def spec_GreatestGap.f (k : Nat) (x0 : Int × Int) (x1 : Int × Int) : Option (Int × Int × Bool) := (spec_biDate.f (x0.1, x0.2)).bind fun y1 => (if y1 = true then ((spec_biDate.f (x1.1, x1.2)).bind fun y4 => (if y4 = true then ((spec_biDays.f (x0.1, x0.2)).bind fun y6 => ((spec_biDays.f (x1.1, x1.2)).bind fun y7 => (spec_GreatestGap.j0 k (decide (y6 > y7)) x0.1 x0.2 x1.1 x1.2))) else (spec_GreatestGap.j0 k true x0.1 x0.2 x1.1 x1.2))) else (spec_GreatestGap.j0 k true x0.1 x0.2 x1.1 x1.2))
theorem spec_GreatestGap.br_l : ∀ k, (∀ (x22 : Bool) (xb2_0 : Int) (xb2_1 : Int) (xb3_0 : Int) (xb3_1 : Int), LeO (spec_GreatestGap.j0 k x22 xb2_0 xb2_1 xb3_0 xb3_1) (S.spec_GreatestGap.j0 x22 xb2_0 xb2_1 xb3_0 xb3_1))
  | 0 => fun _ _ _ _ _ => LeO.none _
  | k + 1 => by
    have ih := spec_GreatestGap.br_l k
    have ih_j0 := ih
    refine fun x22 xb2_0 xb2_1 xb3_0 xb3_1 => ?_
    · refine LeO.of (S.spec_GreatestGap.j0.eq _ _ _ _ _) ?_
      show LeO (spec_GreatestGap.j0 (k + 1) x22 xb2_0 xb2_1 xb3_0 xb3_1) _
      unfold spec_GreatestGap.j0
      exact (LeO.ite' (fun h0 => LeO.refl _) (fun h0 => (LeO.bind (spec_biAge.f.br _ _) (fun y1 => (LeO.beq (fun h1 => LeO.refl _) (fun h1 => LeO.refl _))))))
theorem spec_GreatestGap.f.br (k : Nat) (x0 : Int × Int) (x1 : Int × Int) : LeO (spec_GreatestGap.f k x0 x1) (S.spec_GreatestGap.f x0 x1) := by
  refine LeO.of (S.spec_GreatestGap.f.eq _ _) ?_
  unfold spec_GreatestGap.f
  have ih_j0 := (spec_GreatestGap.br_l k)
  exact (LeO.bind (spec_biDate.f.br _) (fun y1 => (LeO.nob (fun h0 => (LeO.bind (spec_biDate.f.br _) (fun y4 => (LeO.nob (fun h1 => (LeO.bind (spec_biDays.f.br _) (fun y6 => (LeO.bind (spec_biDays.f.br _) (fun y7 => (ih_j0 _ _ _ _ _)))))) (fun h1 => (ih_j0 _ _ _ _ _)))))) (fun h0 => (ih_j0 _ _ _ _ _)))))
def spec_DrawAgeOn.f (x0 : List Int) : Option ((Int × Int) × (Int × Int)) := (spec_l1Cur_sureDate.f x0 0 0).bind fun y1 => ((spec_l1Cur_date.f y1.2.1 y1.2.2.1 y1.2.2.2).bind fun y2 => (some ((y1.1.1, y1.1.2), y2.1.1, y2.1.2)))
theorem spec_DrawAgeOn.f.br (x0 : List Int) : LeO (spec_DrawAgeOn.f x0) (S.spec_DrawAgeOn.f x0) := by
  refine LeO.of (S.spec_DrawAgeOn.f.eq _) ?_
  unfold spec_DrawAgeOn.f
  exact (LeO.bind (spec_l1Cur_sureDate.f.br _ _ _) (fun y1 => (LeO.bind (spec_l1Cur_date.f.br _ _ _) (fun y2 => LeO.refl _))))
def spec_DrawHalfBirthday.f (x0 : List Int) : Option ((Int × Int) × (Int × Int)) := (spec_DrawAgeOn.f x0).bind fun y1 => (some ((y1.1.1, y1.1.2), y1.2.1, y1.2.2))
theorem spec_DrawHalfBirthday.f.br (x0 : List Int) : LeO (spec_DrawHalfBirthday.f x0) (S.spec_DrawHalfBirthday.f x0) := by
  refine LeO.of (S.spec_DrawHalfBirthday.f.eq _) ?_
  unfold spec_DrawHalfBirthday.f
  exact (LeO.bind (spec_DrawAgeOn.f.br _) (fun y1 => LeO.refl _))
def impl_HalfBirthday.l0 : Nat → Int → Int → Int → Int → Int → Option ((Int × Int) × Bool)
  | 0, _, _, _, _, _ => none
  | k + 1, x6, xb3_0, xb3_1, xb4_0, xb4_1 => (impl_Date_index.f (xb3_0, xb3_1)).bind fun y1 => (if x6 ≤ y1 then (impl_HalfBirthday.l0 k (IntKind.i64.wrap (x6 + 365)) xb3_0 xb3_1 xb4_0 xb4_1) else ((impl_dateAt.f x6).bind fun y4 => (some ((y4.1.1, y4.1.2), y4.2))))
def impl_HalfBirthday.f (k : Nat) (x0 : Int × Int) (x1 : Int × Int) : Option ((Int × Int) × Bool) := (impl_areBornOn.f k [(x0.1, x0.2)] (x1.1, x1.2)).bind fun y1 => (if y1 = true then ((impl_Date_index.f (x0.1, x0.2)).bind fun y2 => (impl_HalfBirthday.l0 k (IntKind.i64.wrap (y2 + 182)) x1.1 x1.2 0 0)) else (some ((0, 0), false)))
theorem impl_HalfBirthday.br_l : ∀ k, (∀ (x6 : Int) (xb3_0 : Int) (xb3_1 : Int) (xb4_0 : Int) (xb4_1 : Int), LeO (impl_HalfBirthday.l0 k x6 xb3_0 xb3_1 xb4_0 xb4_1) (S.impl_HalfBirthday.l0 x6 xb3_0 xb3_1 xb4_0 xb4_1))
  | 0 => fun _ _ _ _ _ => LeO.none _
  | k + 1 => by
    have ih := impl_HalfBirthday.br_l k
    have ih_l0 := ih
    refine fun x6 xb3_0 xb3_1 xb4_0 xb4_1 => ?_
    · refine LeO.of (S.impl_HalfBirthday.l0.eq _ _ _ _ _) ?_
      show LeO (impl_HalfBirthday.l0 (k + 1) x6 xb3_0 xb3_1 xb4_0 xb4_1) _
      unfold impl_HalfBirthday.l0
      exact (LeO.bind (impl_Date_index.f.br _) (fun y1 => (LeO.dec (fun h0 => (ih_l0 _ _ _ _ _)) (fun h0 => (LeO.bind (impl_dateAt.f.br _) (fun y4 => LeO.refl _))))))
theorem impl_HalfBirthday.f.br (k : Nat) (x0 : Int × Int) (x1 : Int × Int) : LeO (impl_HalfBirthday.f k x0 x1) (S.impl_HalfBirthday.f x0 x1) := by
  refine LeO.of (S.impl_HalfBirthday.f.eq _ _) ?_
  unfold impl_HalfBirthday.f
  have ih_l0 := (impl_HalfBirthday.br_l k)
  exact (LeO.bind (impl_areBornOn.f.br k _ _) (fun y1 => (LeO.nob (fun h0 => (LeO.bind (impl_Date_index.f.br _) (fun y2 => (ih_l0 _ _ _ _ _)))) (fun h0 => LeO.refl _))))
def spec_biBorn.f (x0 : Int × Int) (x1 : Int × Int) : Option (Bool) := (spec_biDate.f (x0.1, x0.2)).bind fun y1 => (if y1 = true then ((spec_biDate.f (x1.1, x1.2)).bind fun y2 => (if y2 = true then ((spec_biDays.f (x1.1, x1.2)).bind fun y4 => ((spec_biDays.f (x0.1, x0.2)).bind fun y5 => (some (decide (y4 ≥ y5))))) else (some false))) else (some false))
theorem spec_biBorn.f.br (x0 : Int × Int) (x1 : Int × Int) : LeO (spec_biBorn.f x0 x1) (S.spec_biBorn.f x0 x1) := by
  refine LeO.of (S.spec_biBorn.f.eq _ _) ?_
  unfold spec_biBorn.f
  exact (LeO.bind (spec_biDate.f.br _) (fun y1 => (LeO.ite' (fun h0 => (LeO.bind (spec_biDate.f.br _) (fun y2 => (LeO.ite' (fun h1 => (LeO.bind (spec_biDays.f.br _) (fun y4 => (LeO.bind (spec_biDays.f.br _) (fun y5 => LeO.refl _))))) (fun h1 => LeO.refl _))))) (fun h0 => LeO.refl _))))
def spec_HalfBirthday.l0 : Nat → Int → Int → Int → Int → Int → Option ((Int × Int) × Bool)
  | 0, _, _, _, _, _ => none
  | k + 1, x6, xb3_0, xb3_1, xb4_0, xb4_1 => (spec_biDays.f (xb3_0, xb3_1)).bind fun y1 => (if x6 ≤ y1 then (spec_HalfBirthday.l0 k (IntKind.i64.wrap (x6 + 365)) xb3_0 xb3_1 xb4_0 xb4_1) else ((spec_biBack.f x6).bind fun y4 => (some ((y4.1.1, y4.1.2), y4.2))))
def spec_HalfBirthday.f (k : Nat) (x0 : Int × Int) (x1 : Int × Int) : Option ((Int × Int) × Bool) := (spec_biBorn.f (x0.1, x0.2) (x1.1, x1.2)).bind fun y1 => (if y1 = true then ((spec_biDays.f (x0.1, x0.2)).bind fun y2 => (spec_HalfBirthday.l0 k (IntKind.i64.wrap (y2 + 182)) x1.1 x1.2 0 0)) else (some ((0, 0), false)))
theorem spec_HalfBirthday.br_l : ∀ k, (∀ (x6 : Int) (xb3_0 : Int) (xb3_1 : Int) (xb4_0 : Int) (xb4_1 : Int), LeO (spec_HalfBirthday.l0 k x6 xb3_0 xb3_1 xb4_0 xb4_1) (S.spec_HalfBirthday.l0 x6 xb3_0 xb3_1 xb4_0 xb4_1))
  | 0 => fun _ _ _ _ _ => LeO.none _
  | k + 1 => by
    have ih := spec_HalfBirthday.br_l k
    have ih_l0 := ih
    refine fun x6 xb3_0 xb3_1 xb4_0 xb4_1 => ?_
    · refine LeO.of (S.spec_HalfBirthday.l0.eq _ _ _ _ _) ?_
      show LeO (spec_HalfBirthday.l0 (k + 1) x6 xb3_0 xb3_1 xb4_0 xb4_1) _
      unfold spec_HalfBirthday.l0
      exact (LeO.bind (spec_biDays.f.br _) (fun y1 => (LeO.dec (fun h0 => (ih_l0 _ _ _ _ _)) (fun h0 => (LeO.bind (spec_biBack.f.br _) (fun y4 => LeO.refl _))))))
theorem spec_HalfBirthday.f.br (k : Nat) (x0 : Int × Int) (x1 : Int × Int) : LeO (spec_HalfBirthday.f k x0 x1) (S.spec_HalfBirthday.f x0 x1) := by
  refine LeO.of (S.spec_HalfBirthday.f.eq _ _) ?_
  unfold spec_HalfBirthday.f
  have ih_l0 := (spec_HalfBirthday.br_l k)
  exact (LeO.bind (spec_biBorn.f.br _ _) (fun y1 => (LeO.nob (fun h0 => (LeO.bind (spec_biDays.f.br _) (fun y2 => (ih_l0 _ _ _ _ _)))) (fun h0 => LeO.refl _))))
def spec_DrawDayOfDaysOld.f (x0 : List Int) : Option ((Int × Int) × Int) := (spec_l1Cur_date.f x0 0 0).bind fun y1 => ((spec_l1Cur_among.f y1.2.1 y1.2.2.1 y1.2.2.2 [0, 1, 100, 10000, 1000000, 1000001, (-1)]).bind fun y2 => (some ((y1.1.1, y1.1.2), y2.1)))
theorem spec_DrawDayOfDaysOld.f.br (x0 : List Int) : LeO (spec_DrawDayOfDaysOld.f x0) (S.spec_DrawDayOfDaysOld.f x0) := by
  refine LeO.of (S.spec_DrawDayOfDaysOld.f.eq _) ?_
  unfold spec_DrawDayOfDaysOld.f
  exact (LeO.bind (spec_l1Cur_date.f.br _ _ _) (fun y1 => (LeO.bind (spec_l1Cur_among.f.br _ _ _ _) (fun y2 => LeO.refl _))))
def impl_DayOfDaysOld.j0 : Nat → Int → Bool → Int → Int → Int → Int → Option ((Int × Int) × Bool)
  | 0, _, _, _, _, _, _ => none
  | k + 1, x1, x13, xb2_0, xb2_1, xb4_0, xb4_1 => if x13 = true then (some ((0, 0), false)) else ((impl_Date_index.f (xb2_0, xb2_1)).bind fun y1 => ((impl_dateAt.f (IntKind.i64.wrap (y1 + x1))).bind fun y3 => (some ((y3.1.1, y3.1.2), y3.2))))
def impl_DayOfDaysOld.f (k : Nat) (x0 : Int × Int) (x1 : Int) : Option ((Int × Int) × Bool) := (impl_IsDate.f (x0.1, x0.2)).bind fun y1 => (if y1 = true then ((impl_between.f x1 0 1000000).bind fun y4 => (impl_DayOfDaysOld.j0 k x1 (!y4) x0.1 x0.2 0 0)) else (impl_DayOfDaysOld.j0 k x1 true x0.1 x0.2 0 0))
theorem impl_DayOfDaysOld.br_l : ∀ k, (∀ (x1 : Int) (x13 : Bool) (xb2_0 : Int) (xb2_1 : Int) (xb4_0 : Int) (xb4_1 : Int), LeO (impl_DayOfDaysOld.j0 k x1 x13 xb2_0 xb2_1 xb4_0 xb4_1) (S.impl_DayOfDaysOld.j0 x1 x13 xb2_0 xb2_1 xb4_0 xb4_1))
  | 0 => fun _ _ _ _ _ _ => LeO.none _
  | k + 1 => by
    have ih := impl_DayOfDaysOld.br_l k
    have ih_j0 := ih
    refine fun x1 x13 xb2_0 xb2_1 xb4_0 xb4_1 => ?_
    · refine LeO.of (S.impl_DayOfDaysOld.j0.eq _ _ _ _ _ _) ?_
      show LeO (impl_DayOfDaysOld.j0 (k + 1) x1 x13 xb2_0 xb2_1 xb4_0 xb4_1) _
      unfold impl_DayOfDaysOld.j0
      exact (LeO.ite' (fun h0 => LeO.refl _) (fun h0 => (LeO.bind (impl_Date_index.f.br _) (fun y1 => (LeO.bind (impl_dateAt.f.br _) (fun y3 => LeO.refl _))))))
theorem impl_DayOfDaysOld.f.br (k : Nat) (x0 : Int × Int) (x1 : Int) : LeO (impl_DayOfDaysOld.f k x0 x1) (S.impl_DayOfDaysOld.f x0 x1) := by
  refine LeO.of (S.impl_DayOfDaysOld.f.eq _ _) ?_
  unfold impl_DayOfDaysOld.f
  have ih_j0 := (impl_DayOfDaysOld.br_l k)
  exact (LeO.bind (impl_IsDate.f.br _) (fun y1 => (LeO.nob (fun h0 => (LeO.bind (impl_between.f.br _ _ _) (fun y4 => (ih_j0 _ _ _ _ _ _)))) (fun h0 => (ih_j0 _ _ _ _ _ _)))))
def spec_DayOfDaysOld.j0 : Nat → Int → Bool → Int → Int → Int → Int → Option ((Int × Int) × Bool)
  | 0, _, _, _, _, _, _ => none
  | k + 1, x1, x13, xb2_0, xb2_1, xb4_0, xb4_1 => if x13 = true then (some ((0, 0), false)) else ((spec_biDays.f (xb2_0, xb2_1)).bind fun y1 => ((spec_biBack.f (IntKind.i64.wrap (y1 + x1))).bind fun y3 => (some ((y3.1.1, y3.1.2), y3.2))))
def spec_DayOfDaysOld.f (k : Nat) (x0 : Int × Int) (x1 : Int) : Option ((Int × Int) × Bool) := (spec_biDate.f (x0.1, x0.2)).bind fun y1 => (if y1 = true then ((spec_l1In.f x1 0 1000000).bind fun y4 => (spec_DayOfDaysOld.j0 k x1 (!y4) x0.1 x0.2 0 0)) else (spec_DayOfDaysOld.j0 k x1 true x0.1 x0.2 0 0))
theorem spec_DayOfDaysOld.br_l : ∀ k, (∀ (x1 : Int) (x13 : Bool) (xb2_0 : Int) (xb2_1 : Int) (xb4_0 : Int) (xb4_1 : Int), LeO (spec_DayOfDaysOld.j0 k x1 x13 xb2_0 xb2_1 xb4_0 xb4_1) (S.spec_DayOfDaysOld.j0 x1 x13 xb2_0 xb2_1 xb4_0 xb4_1))
  | 0 => fun _ _ _ _ _ _ => LeO.none _
  | k + 1 => by
    have ih := spec_DayOfDaysOld.br_l k
    have ih_j0 := ih
    refine fun x1 x13 xb2_0 xb2_1 xb4_0 xb4_1 => ?_
    · refine LeO.of (S.spec_DayOfDaysOld.j0.eq _ _ _ _ _ _) ?_
      show LeO (spec_DayOfDaysOld.j0 (k + 1) x1 x13 xb2_0 xb2_1 xb4_0 xb4_1) _
      unfold spec_DayOfDaysOld.j0
      exact (LeO.ite' (fun h0 => LeO.refl _) (fun h0 => (LeO.bind (spec_biDays.f.br _) (fun y1 => (LeO.bind (spec_biBack.f.br _) (fun y3 => LeO.refl _))))))
theorem spec_DayOfDaysOld.f.br (k : Nat) (x0 : Int × Int) (x1 : Int) : LeO (spec_DayOfDaysOld.f k x0 x1) (S.spec_DayOfDaysOld.f x0 x1) := by
  refine LeO.of (S.spec_DayOfDaysOld.f.eq _ _) ?_
  unfold spec_DayOfDaysOld.f
  have ih_j0 := (spec_DayOfDaysOld.br_l k)
  exact (LeO.bind (spec_biDate.f.br _) (fun y1 => (LeO.nob (fun h0 => (LeO.bind (spec_l1In.f.br _ _ _) (fun y4 => (ih_j0 _ _ _ _ _ _)))) (fun h0 => (ih_j0 _ _ _ _ _ _)))))
mutual
def spec_l1Cur_spoilt.l0 : Nat → List UInt8 → List UInt8 → Int → List Int → Int → Int → Option ((List UInt8) × (List Int) × Int × Int)
  | 0, _, _, _, _, _, _ => none
  | k + 1, x1, x2, x7, x0_0, x0_1, x0_2 => if x7 > 0 then (spec_l1Cur_spoilt.j0 k x1 x2 x7 (decide ((x1.length : Int) > 0)) x0_0 x0_1 x0_2) else (spec_l1Cur_spoilt.j0 k x1 x2 x7 false x0_0 x0_1 x0_2)
def spec_l1Cur_spoilt.j0 : Nat → List UInt8 → List UInt8 → Int → Bool → List Int → Int → Int → Option ((List UInt8) × (List Int) × Int × Int)
  | 0, _, _, _, _, _, _, _ => none
  | k + 1, x1, x2, x7, x19, x0_0, x0_1, x0_2 => if x19 = true then ((spec_l1Cur_pick.f x0_0 x0_1 x0_2 (x1.length : Int)).bind fun y2 => ((spec_l1Cur_pick.f y2.2.1 y2.2.2.1 y2.2.2.2 (x2.length : Int)).bind fun y4 => (if 0 ≤ y4.1 then (if y4.1 < (x2.length : Int) then ((spec_l1Cur_pick.f y4.2.1 y4.2.2.1 y4.2.2.2 3).bind fun y7 => (if y7.1 = 0 then (if 0 ≤ y2.1 then (if y2.1 ≤ (x1.length : Int) then (if (x1.take y2.1.toNat).length + ([((rde x2 y4.1).toNat : Int)].map fun n => UInt8.ofNat n.toNat).length ≤ 9223372036854775807 then (if ((x1.take y2.1.toNat) ++ ([((rde x2 y4.1).toNat : Int)].map fun n => UInt8.ofNat n.toNat)).length + (x1.drop y2.1.toNat).length ≤ 9223372036854775807 then (spec_l1Cur_spoilt.l0 k (((x1.take y2.1.toNat) ++ ([((rde x2 y4.1).toNat : Int)].map fun n => UInt8.ofNat n.toNat)) ++ (x1.drop y2.1.toNat)) x2 (IntKind.i64.wrap (x7 - 1)) y7.2.1 y7.2.2.1 y7.2.2.2) else (none)) else (none)) else (none)) else (none)) else (if y7.1 = 1 then (if 0 ≤ y2.1 then (if y2.1 ≤ (x1.length : Int) then (if (x1.take y2.1.toNat).length + ([((rde x2 y4.1).toNat : Int)].map fun n => UInt8.ofNat n.toNat).length ≤ 9223372036854775807 then (if 0 ≤ (IntKind.i64.wrap (y2.1 + 1)) then (if (IntKind.i64.wrap (y2.1 + 1)) ≤ (x1.length : Int) then (if ((x1.take y2.1.toNat) ++ ([((rde x2 y4.1).toNat : Int)].map fun n => UInt8.ofNat n.toNat)).length + (x1.drop (IntKind.i64.wrap (y2.1 + 1)).toNat).length ≤ 9223372036854775807 then (spec_l1Cur_spoilt.l0 k (((x1.take y2.1.toNat) ++ ([((rde x2 y4.1).toNat : Int)].map fun n => UInt8.ofNat n.toNat)) ++ (x1.drop (IntKind.i64.wrap (y2.1 + 1)).toNat)) x2 (IntKind.i64.wrap (x7 - 1)) y7.2.1 y7.2.2.1 y7.2.2.2) else (none)) else (none)) else (none)) else (none)) else (none)) else (none)) else (if 0 ≤ y2.1 then (if y2.1 ≤ (x1.length : Int) then (if 0 ≤ (IntKind.i64.wrap (y2.1 + 1)) then (if (IntKind.i64.wrap (y2.1 + 1)) ≤ (x1.length : Int) then (if (x1.take y2.1.toNat).length + (x1.drop (IntKind.i64.wrap (y2.1 + 1)).toNat).length ≤ 9223372036854775807 then (spec_l1Cur_spoilt.l0 k ((x1.take y2.1.toNat) ++ (x1.drop (IntKind.i64.wrap (y2.1 + 1)).toNat)) x2 (IntKind.i64.wrap (x7 - 1)) y7.2.1 y7.2.2.1 y7.2.2.2) else (none)) else (none)) else (none)) else (none)) else (none))))) else (none)) else (none)))) else (some (x1, x0_0, x0_1, x0_2))
end
def spec_l1Cur_spoilt.f (k : Nat) (x0_0 : List Int) (x0_1 : Int) (x0_2 : Int) (x1 : List UInt8) (x2 : List UInt8) : Option ((List UInt8) × (List Int) × Int × Int) := (spec_l1Cur_pick.f x0_0 x0_1 x0_2 2).bind fun y1 => (spec_l1Cur_spoilt.l0 k x1 x2 (IntKind.i64.wrap (1 + y1.1)) y1.2.1 y1.2.2.1 y1.2.2.2)
theorem spec_l1Cur_spoilt.br_l : ∀ k, (∀ (x1 : List UInt8) (x2 : List UInt8) (x7 : Int) (x0_0 : List Int) (x0_1 : Int) (x0_2 : Int), LeO (spec_l1Cur_spoilt.l0 k x1 x2 x7 x0_0 x0_1 x0_2) (S.spec_l1Cur_spoilt.l0 x1 x2 x7 x0_0 x0_1 x0_2)) ∧ (∀ (x1 : List UInt8) (x2 : List UInt8) (x7 : Int) (x19 : Bool) (x0_0 : List Int) (x0_1 : Int) (x0_2 : Int), LeO (spec_l1Cur_spoilt.j0 k x1 x2 x7 x19 x0_0 x0_1 x0_2) (S.spec_l1Cur_spoilt.j0 x1 x2 x7 x19 x0_0 x0_1 x0_2))
  | 0 => ⟨fun _ _ _ _ _ _ => LeO.none _, fun _ _ _ _ _ _ _ => LeO.none _⟩
  | k + 1 => by
    have ih := spec_l1Cur_spoilt.br_l k
    obtain ⟨ih_l0, ih_j0⟩ := ih
    refine ⟨fun x1 x2 x7 x0_0 x0_1 x0_2 => ?_, fun x1 x2 x7 x19 x0_0 x0_1 x0_2 => ?_⟩
    · refine LeO.of (S.spec_l1Cur_spoilt.l0.eq _ _ _ _ _ _) ?_
      unfold spec_l1Cur_spoilt.l0
      exact (LeO.dec (fun h0 => (ih_j0 _ _ _ _ _ _ _)) (fun h0 => (ih_j0 _ _ _ _ _ _ _)))
    · refine LeO.of (S.spec_l1Cur_spoilt.j0.eq _ _ _ _ _ _ _) ?_
      unfold spec_l1Cur_spoilt.j0
      exact (LeO.ite' (fun h0 => (LeO.bind (spec_l1Cur_pick.f.br _ _ _ _) (fun y2 => (LeO.bind (spec_l1Cur_pick.f.br _ _ _ _) (fun y4 => (LeO.tst fun h1 => (LeO.tst fun h2 => (LeO.rdI h1 h2 (LeO.bind (spec_l1Cur_pick.f.br _ _ _ _) (fun y7 => (LeO.beq (fun h3 => (LeO.tst fun h5 => (LeO.tst fun h6 => (LeO.sub0 h5 h6 (LeO.tst fun h7 => (LeO.catS h7 (LeO.subE h5 h6 (LeO.tst fun h8 => (LeO.catS h8 (ih_l0 _ _ _ _ _ _)))))))))) (fun h3 => (LeO.beq (fun h4 => (LeO.tst fun h6 => (LeO.tst fun h7 => (LeO.sub0 h6 h7 (LeO.tst fun h8 => (LeO.catS h8 (LeO.tst fun h9 => (LeO.tst fun h10 => (LeO.subE h9 h10 (LeO.tst fun h11 => (LeO.catS h11 (ih_l0 _ _ _ _ _ _)))))))))))) (fun h4 => (LeO.tst fun h6 => (LeO.tst fun h7 => (LeO.sub0 h6 h7 (LeO.tst fun h8 => (LeO.tst fun h9 => (LeO.subE h8 h9 (LeO.tst fun h10 => (LeO.catS h10 (ih_l0 _ _ _ _ _ _))))))))))))))))))))))) (fun h0 => LeO.refl _))
theorem spec_l1Cur_spoilt.f.br (k : Nat) (x0_0 : List Int) (x0_1 : Int) (x0_2 : Int) (x1 : List UInt8) (x2 : List UInt8) : LeO (spec_l1Cur_spoilt.f k x0_0 x0_1 x0_2 x1 x2) (S.spec_l1Cur_spoilt.f x0_0 x0_1 x0_2 x1 x2) := by
  refine LeO.of (S.spec_l1Cur_spoilt.f.eq _ _ _ _ _) ?_
  unfold spec_l1Cur_spoilt.f
  have ih_l0 := (spec_l1Cur_spoilt.br_l k).1
  exact (LeO.bind (spec_l1Cur_pick.f.br _ _ _ _) (fun y1 => (ih_l0 _ _ _ _ _ _)))
def spec_DrawParseBirths.f (k : Nat) (x0 : List Int) : Option (List UInt8) := (spec_l1Cur_sureBirths.f k x0 0 0).bind fun y1 => ((spec_biText.f k y1.1).bind fun y2 => ((spec_l1Cur_one.f y1.2.1 y1.2.2.1 y1.2.2.2 3).bind fun y3 => (if y3.1 = true then ((spec_l1Cur_spoilt.f k y3.2.1 y3.2.2.1 y3.2.2.2 y2 [48, 49, 50, 51, 46, 44, 120]).bind fun y4 => (some y4.1)) else (some y2))))
theorem spec_DrawParseBirths.f.br (k : Nat) (x0 : List Int) : LeO (spec_DrawParseBirths.f k x0) (S.spec_DrawParseBirths.f x0) := by
  refine LeO.of (S.spec_DrawParseBirths.f.eq _) ?_
  unfold spec_DrawParseBirths.f
  exact (LeO.bind (spec_l1Cur_sureBirths.f.br k _ _ _) (fun y1 => (LeO.bind (spec_biText.f.br k _) (fun y2 => (LeO.bind (spec_l1Cur_one.f.br _ _ _ _) (fun y3 => (LeO.ite' (fun h0 => (LeO.bind (spec_l1Cur_spoilt.f.br k _ _ _ _ _) (fun y4 => LeO.refl _))) (fun h0 => LeO.refl _))))))))
def spec_l1Split.l0 : Nat → List UInt8 → Int → List (List UInt8) → Int → Int → Option (List (List UInt8))
  | 0, _, _, _, _, _ => none
  | k + 1, x0, x1, x5, x6, x7 => if x7 < (x0.length : Int) then (if 0 ≤ x7 then (if ((rde x0 x7).toNat : Int) = x1 then (if 0 ≤ x6 then (if x6 ≤ x7 then (if x7 ≤ (x0.length : Int) then (if x5.length < 8796093022208 then (spec_l1Split.l0 k x0 x1 (x5 ++ [((x0.take x7.toNat).drop x6.toNat)]) (IntKind.i64.wrap (x7 + 1)) (IntKind.i64.wrap (x7 + 1))) else (none)) else (none)) else (none)) else (none)) else (spec_l1Split.l0 k x0 x1 x5 x6 (IntKind.i64.wrap (x7 + 1)))) else (none)) else (if 0 ≤ x6 then (if x6 ≤ (x0.length : Int) then (if x5.length < 8796093022208 then (some (x5 ++ [(x0.drop x6.toNat)])) else (none)) else (none)) else (none))
def spec_l1Split.f (k : Nat) (x0 : List UInt8) (x1 : Int) : Option (List (List UInt8)) := spec_l1Split.l0 k x0 x1 [] 0 0
theorem spec_l1Split.br_l : ∀ k, (∀ (x0 : List UInt8) (x1 : Int) (x5 : List (List UInt8)) (x6 : Int) (x7 : Int), LeO (spec_l1Split.l0 k x0 x1 x5 x6 x7) (S.spec_l1Split.l0 x0 x1 x5 x6 x7))
  | 0 => fun _ _ _ _ _ => LeO.none _
  | k + 1 => by
    have ih := spec_l1Split.br_l k
    have ih_l0 := ih
    refine fun x0 x1 x5 x6 x7 => ?_
    · refine LeO.of (S.spec_l1Split.l0.eq _ _ _ _ _) ?_
      show LeO (spec_l1Split.l0 (k + 1) x0 x1 x5 x6 x7) _
      unfold spec_l1Split.l0
      exact (LeO.dec (fun h0 => (LeO.tst fun h1 => (LeO.rdI h1 h0 (LeO.beq (fun h2 => (LeO.tst fun h3 => (LeO.tst fun h4 => (LeO.tst fun h5 => (LeO.subI h3 h4 h5 (LeO.tst fun h6 => (LeO.cat1 h6 (ih_l0 _ _ _ _ _)))))))) (fun h2 => (ih_l0 _ _ _ _ _)))))) (fun h0 => (LeO.tst fun h1 => (LeO.tst fun h2 => (LeO.subE h1 h2 (LeO.tst fun h3 => (LeO.cat1 h3 (LeO.refl _))))))))
theorem spec_l1Split.f.br (k : Nat) (x0 : List UInt8) (x1 : Int) : LeO (spec_l1Split.f k x0 x1) (S.spec_l1Split.f x0 x1) := by
  refine LeO.of (S.spec_l1Split.f.eq _ _) ?_
  unfold spec_l1Split.f
  have ih_l0 := (spec_l1Split.br_l k)
  exact (ih_l0 _ _ _ _ _)
mutual
def spec_l1Read.j0 : Nat → List UInt8 → Bool → Option (Int)
  | 0, _, _ => none
  | k + 1, x0, x18 => if x18 = true then (some (-1)) else (spec_l1Read.l0 k x0 0 0)
def spec_l1Read.l0 : Nat → List UInt8 → Int → Int → Option (Int)
  | 0, _, _, _ => none
  | k + 1, x0, x3, x4 => if x4 < (x0.length : Int) then (if 0 ≤ x4 then (if ((rde x0 x4).toNat : Int) < 48 then (some (-1)) else (if ((rde x0 x4).toNat : Int) > 57 then (some (-1)) else (spec_l1Read.l0 k x0 (IntKind.i64.wrap ((IntKind.i64.wrap (10 * x3)) + (IntKind.i64.wrap (IntKind.u8.wrap (((rde x0 x4).toNat : Int) - 48))))) (IntKind.i64.wrap (x4 + 1))))) else (none)) else (some x3)
end
def spec_l1Read.f (k : Nat) (x0 : List UInt8) : Option (Int) := (spec_l1In.f (x0.length : Int) 1 6).bind fun y2 => (if y2 = true then (if 0 < (x0.length : Int) then (if ((rde x0 0).toNat : Int) = 48 then (spec_l1Read.j0 k x0 (decide ((x0.length : Int) > 1))) else (spec_l1Read.j0 k x0 false)) else (none)) else (spec_l1Read.j0 k x0 true))
theorem spec_l1Read.br_l : ∀ k, (∀ (x0 : List UInt8) (x18 : Bool), LeO (spec_l1Read.j0 k x0 x18) (S.spec_l1Read.j0 x0 x18)) ∧ (∀ (x0 : List UInt8) (x3 : Int) (x4 : Int), LeO (spec_l1Read.l0 k x0 x3 x4) (S.spec_l1Read.l0 x0 x3 x4))
  | 0 => ⟨fun _ _ => LeO.none _, fun _ _ _ => LeO.none _⟩
  | k + 1 => by
    have ih := spec_l1Read.br_l k
    obtain ⟨ih_j0, ih_l0⟩ := ih
    refine ⟨fun x0 x18 => ?_, fun x0 x3 x4 => ?_⟩
    · refine LeO.of (S.spec_l1Read.j0.eq _ _) ?_
      unfold spec_l1Read.j0
      exact (LeO.ite' (fun h0 => LeO.refl _) (fun h0 => (ih_l0 _ _ _)))
    · refine LeO.of (S.spec_l1Read.l0.eq _ _ _) ?_
      unfold spec_l1Read.l0
      exact (LeO.dec (fun h0 => (LeO.tst fun h1 => (LeO.rdI h1 h0 (LeO.dec (fun h2 => LeO.refl _) (fun h2 => (LeO.rdI h1 h0 (LeO.dec (fun h3 => LeO.refl _) (fun h3 => (LeO.rdI h1 h0 (ih_l0 _ _ _)))))))))) (fun h0 => LeO.refl _))
theorem spec_l1Read.f.br (k : Nat) (x0 : List UInt8) : LeO (spec_l1Read.f k x0) (S.spec_l1Read.f x0) := by
  refine LeO.of (S.spec_l1Read.f.eq _) ?_
  unfold spec_l1Read.f
  have ih_j0 := (spec_l1Read.br_l k).1
  exact (LeO.bind (spec_l1In.f.br _ _ _) (fun y2 => (LeO.nob (fun h0 => (LeO.tst fun h2 => (LeO.rdI (by decide) h2 (LeO.beq (fun h3 => (ih_j0 _ _)) (fun h3 => (ih_j0 _ _)))))) (fun h0 => (ih_j0 _ _)))))
def spec_biParse.l0 : Nat → (List (Int × Int)) → List (List UInt8) → Int → Int → Option ((List (Int × Int)) × Bool)
  | 0, _, _, _, _ => none
  | k + 1, x4, x12, x13, x14 => if x14 < x13 then (if 0 ≤ x14 then (if x14 < (x12.length : Int) then ((spec_l1Split.f k (rde x12 x14) 46).bind fun y3 => (if (y3.length : Int) = 2 then (if 0 < (y3.length : Int) then ((spec_l1Read.f k (rde y3 0)).bind fun y6 => (if 1 < (y3.length : Int) then ((spec_l1Read.f k (rde y3 1)).bind fun y8 => (if x4.length < 8796093022208 then (spec_biParse.l0 k (x4 ++ [(y6, y8)]) x12 x13 (IntKind.i64.wrap (x14 + 1))) else (none))) else (none))) else (none)) else (some ([], false)))) else (none)) else (none)) else ((spec_biGood.f k x4).bind fun y11 => (if y11 = true then (some (x4, true)) else (some ([], false))))
def spec_biParse.f (k : Nat) (x0 : List UInt8) : Option ((List (Int × Int)) × Bool) := if (x0.length : Int) > 71 then (some ([], false)) else ((spec_l1Split.f k x0 44).bind fun y3 => (spec_biParse.l0 k [] y3 (y3.length : Int) 0))
theorem spec_biParse.br_l : ∀ k, (∀ (x4 : List (Int × Int)) (x12 : List (List UInt8)) (x13 : Int) (x14 : Int), LeO (spec_biParse.l0 k x4 x12 x13 x14) (S.spec_biParse.l0 x4 x12 x13 x14))
  | 0 => fun _ _ _ _ => LeO.none _
  | k + 1 => by
    have ih := spec_biParse.br_l k
    have ih_l0 := ih
    refine fun x4 x12 x13 x14 => ?_
    · refine LeO.of (S.spec_biParse.l0.eq _ _ _ _) ?_
      show LeO (spec_biParse.l0 (k + 1) x4 x12 x13 x14) _
      unfold spec_biParse.l0
      exact (LeO.dec (fun h0 => (LeO.tst fun h1 => (LeO.tst fun h2 => (LeO.rdI h1 h2 (LeO.bind (spec_l1Split.f.br k _ _) (fun y3 => (LeO.bne (fun h3 => (LeO.tst fun h5 => (LeO.rdI (by decide) h5 (LeO.bind (spec_l1Read.f.br k _) (fun y6 => (LeO.tst fun h7 => (LeO.rdI (by decide) h7 (LeO.bind (spec_l1Read.f.br k _) (fun y8 => (LeO.tst fun h8 => (LeO.cat1 h8 (ih_l0 _ _ _ _)))))))))))) (fun h3 => LeO.refl _)))))))) (fun h0 => (LeO.bind (spec_biGood.f.br k _) (fun y11 => (LeO.nob (fun h1 => LeO.refl _) (fun h1 => LeO.refl _))))))
theorem spec_biParse.f.br (k : Nat) (x0 : List UInt8) : LeO (spec_biParse.f k x0) (S.spec_biParse.f x0) := by
  refine LeO.of (S.spec_biParse.f.eq _) ?_
  unfold spec_biParse.f
  have ih_l0 := (spec_biParse.br_l k)
  exact (LeO.dec (fun h0 => LeO.refl _) (fun h0 => (LeO.bind (spec_l1Split.f.br k _ _) (fun y3 => (ih_l0 _ _ _ _)))))
def spec_ParseBirths.f (k : Nat) (x0 : List UInt8) : Option ((List (Int × Int)) × Bool) := (spec_biParse.f k x0).bind fun y1 => (some (y1.1, y1.2))
theorem spec_ParseBirths.f.br (k : Nat) (x0 : List UInt8) : LeO (spec_ParseBirths.f k x0) (S.spec_ParseBirths.f x0) := by
  refine LeO.of (S.spec_ParseBirths.f.eq _) ?_
  unfold spec_ParseBirths.f
  exact (LeO.bind (spec_biParse.f.br k _) (fun y1 => LeO.refl _))
def impl_DaysOld.f (k : Nat) (x0 : Int × Int) (x1 : Int × Int) : Option (Int × Bool) := (impl_areBornOn.f k [(x0.1, x0.2)] (x1.1, x1.2)).bind fun y1 => (if y1 = true then ((impl_Date_index.f (x1.1, x1.2)).bind fun y2 => ((impl_Date_index.f (x0.1, x0.2)).bind fun y3 => (some ((IntKind.i64.wrap (y2 - y3)), true)))) else (some (0, false)))
theorem impl_DaysOld.f.br (k : Nat) (x0 : Int × Int) (x1 : Int × Int) : LeO (impl_DaysOld.f k x0 x1) (S.impl_DaysOld.f x0 x1) := by
  refine LeO.of (S.impl_DaysOld.f.eq _ _) ?_
  unfold impl_DaysOld.f
  exact (LeO.bind (impl_areBornOn.f.br k _ _) (fun y1 => (LeO.nob (fun h0 => (LeO.bind (impl_Date_index.f.br _) (fun y2 => (LeO.bind (impl_Date_index.f.br _) (fun y3 => LeO.refl _))))) (fun h0 => LeO.refl _))))
def impl_DaysApart.j0 : Nat → Bool → Int → Int → Int → Int → Option (Int × Bool)
  | 0, _, _, _, _, _ => none
  | k + 1, x14, xb2_0, xb2_1, xb3_0, xb3_1 => if x14 = true then (some (0, false)) else ((impl_Date_index.f (xb2_0, xb2_1)).bind fun y1 => ((impl_Date_index.f (xb3_0, xb3_1)).bind fun y2 => (some ((mx2 (IntKind.i64.wrap (y1 - y2)) (IntKind.i64.wrap (0 - (IntKind.i64.wrap (y1 - y2))))), true))))
def impl_DaysApart.f (k : Nat) (x0 : Int × Int) (x1 : Int × Int) : Option (Int × Bool) := (impl_IsDate.f (x0.1, x0.2)).bind fun y1 => (if y1 = true then ((impl_IsDate.f (x1.1, x1.2)).bind fun y6 => (impl_DaysApart.j0 k (!y6) x0.1 x0.2 x1.1 x1.2)) else (impl_DaysApart.j0 k true x0.1 x0.2 x1.1 x1.2))
theorem impl_DaysApart.br_l : ∀ k, (∀ (x14 : Bool) (xb2_0 : Int) (xb2_1 : Int) (xb3_0 : Int) (xb3_1 : Int), LeO (impl_DaysApart.j0 k x14 xb2_0 xb2_1 xb3_0 xb3_1) (S.impl_DaysApart.j0 x14 xb2_0 xb2_1 xb3_0 xb3_1))
  | 0 => fun _ _ _ _ _ => LeO.none _
  | k + 1 => by
    have ih := impl_DaysApart.br_l k
    have ih_j0 := ih
    refine fun x14 xb2_0 xb2_1 xb3_0 xb3_1 => ?_
    · refine LeO.of (S.impl_DaysApart.j0.eq _ _ _ _ _) ?_
      show LeO (impl_DaysApart.j0 (k + 1) x14 xb2_0 xb2_1 xb3_0 xb3_1) _
      unfold impl_DaysApart.j0
      exact (LeO.ite' (fun h0 => LeO.refl _) (fun h0 => (LeO.bind (impl_Date_index.f.br _) (fun y1 => (LeO.bind (impl_Date_index.f.br _) (fun y2 => LeO.refl _))))))
theorem impl_DaysApart.f.br (k : Nat) (x0 : Int × Int) (x1 : Int × Int) : LeO (impl_DaysApart.f k x0 x1) (S.impl_DaysApart.f x0 x1) := by
  refine LeO.of (S.impl_DaysApart.f.eq _ _) ?_
  unfold impl_DaysApart.f
  have ih_j0 := (impl_DaysApart.br_l k)
  exact (LeO.bind (impl_IsDate.f.br _) (fun y1 => (LeO.nob (fun h0 => (LeO.bind (impl_IsDate.f.br _) (fun y6 => (ih_j0 _ _ _ _ _)))) (fun h0 => (ih_j0 _ _ _ _ _)))))
mutual
def laws_FnBirthdaysMeet.j0 : Nat → List Int → Int → Bool → Int → Bool → (List (Int × Int)) → Int → Bool → Bool → List Int → Bool → List Int → Bool → List (List Int) → Bool → Int → Int → Int → Int → Int → Int → Int → Int → Option (Bool)
  | 0, _, _, _, _, _, _, _, _, _, _, _, _, _, _, _, _, _, _, _, _, _, _, _ => none
  | k + 1, x1, x8, x9, x10, x11, x12, x13, x15, x17, x18, x19, x20, x21, x22, x23, xb5_0, xb5_1, xb6_0, xb6_1, xb14_0, xb14_1, xb16_0, xb16_1 => (spec_BirthdaysOf.f k x12).bind fun y1 => ((impl_BirthsText.f k x12).bind fun y2 => ((spec_BirthsText.f k x12).bind fun y3 => (laws_FnBirthdaysMeet.j1 k x1 x8 x9 x10 x11 x12 x13 x15 x17 x18 x19 x20 x21 x22 x23 y1.1 y1.2 y2.1 y2.2 y3.1 y3.2 xb5_0 xb5_1 xb6_0 xb6_1 xb14_0 xb14_1 xb16_0 xb16_1)))
def laws_FnBirthdaysMeet.j1 : Nat → List Int → Int → Bool → Int → Bool → (List (Int × Int)) → Int → Bool → Bool → List Int → Bool → List Int → Bool → List (List Int) → Bool → List (List Int) → Bool → List UInt8 → Bool → List UInt8 → Bool → Int → Int → Int → Int → Int → Int → Int → Int → Option (Bool)
  | 0, _, _, _, _, _, _, _, _, _, _, _, _, _, _, _, _, _, _, _, _, _, _, _, _, _, _, _, _, _ => none
  | k + 1, x1, x8, x9, x10, x11, x12, x13, x15, x17, x18, x19, x20, x21, x22, x23, x24, x25, x26, x27, x28, x29, xb5_0, xb5_1, xb6_0, xb6_1, xb14_0, xb14_1, xb16_0, xb16_1 => if (x9 != x11) = true then (laws_FnBirthdaysMeet.j2 k x1 x8 x9 x12 x13 x15 x18 x19 x22 x26 true xb5_0 xb5_1 xb6_0 xb6_1 xb14_0 xb14_1) else (if x8 = x10 then (if (x15 != x17) = true then (laws_FnBirthdaysMeet.j2 k x1 x8 x9 x12 x13 x15 x18 x19 x22 x26 true xb5_0 xb5_1 xb6_0 xb6_1 xb14_0 xb14_1) else (if (xb14_0 == xb16_0 && xb14_1 == xb16_1) = true then (if (x19 != x21) = true then (laws_FnBirthdaysMeet.j2 k x1 x8 x9 x12 x13 x15 x18 x19 x22 x26 true xb5_0 xb5_1 xb6_0 xb6_1 xb14_0 xb14_1) else ((laws_gSame.f k x18 x20).bind fun y65 => (if y65 = true then (if (x23 != x25) = true then (laws_FnBirthdaysMeet.j2 k x1 x8 x9 x12 x13 x15 x18 x19 x22 x26 true xb5_0 xb5_1 xb6_0 xb6_1 xb14_0 xb14_1) else ((laws_gRows.f k x22 x24).bind fun y69 => (if y69 = true then (if (x27 != x29) = true then (laws_FnBirthdaysMeet.j2 k x1 x8 x9 x12 x13 x15 x18 x19 x22 x26 true xb5_0 xb5_1 xb6_0 xb6_1 xb14_0 xb14_1) else (if (x26 != x28) = true then (laws_FnBirthdaysMeet.j2 k x1 x8 x9 x12 x13 x15 x18 x19 x22 x26 true xb5_0 xb5_1 xb6_0 xb6_1 xb14_0 xb14_1) else ((impl_AreBirthDates.f k x12).bind fun y75 => (if (x19 != y75) = true then (laws_FnBirthdaysMeet.j2 k x1 x8 x9 x12 x13 x15 x18 x19 x22 x26 true xb5_0 xb5_1 xb6_0 xb6_1 xb14_0 xb14_1) else ((impl_AreBirthDates.f k x12).bind fun y78 => ((spec_AreBirthDates.f k x12).bind fun y79 => (if (y78 != y79) = true then (laws_FnBirthdaysMeet.j2 k x1 x8 x9 x12 x13 x15 x18 x19 x22 x26 true xb5_0 xb5_1 xb6_0 xb6_1 xb14_0 xb14_1) else (if (x23 != x19) = true then (laws_FnBirthdaysMeet.j2 k x1 x8 x9 x12 x13 x15 x18 x19 x22 x26 true xb5_0 xb5_1 xb6_0 xb6_1 xb14_0 xb14_1) else (if (x27 != x19) = true then (laws_FnBirthdaysMeet.j2 k x1 x8 x9 x12 x13 x15 x18 x19 x22 x26 true xb5_0 xb5_1 xb6_0 xb6_1 xb14_0 xb14_1) else (if x15 = true then (laws_FnBirthdaysMeet.j2 k x1 x8 x9 x12 x13 x15 x18 x19 x22 x26 (!x19) xb5_0 xb5_1 xb6_0 xb6_1 xb14_0 xb14_1) else (laws_FnBirthdaysMeet.j2 k x1 x8 x9 x12 x13 x15 x18 x19 x22 x26 false xb5_0 xb5_1 xb6_0 xb6_1 xb14_0 xb14_1))))))))))) else (laws_FnBirthdaysMeet.j2 k x1 x8 x9 x12 x13 x15 x18 x19 x22 x26 true xb5_0 xb5_1 xb6_0 xb6_1 xb14_0 xb14_1)))) else (laws_FnBirthdaysMeet.j2 k x1 x8 x9 x12 x13 x15 x18 x19 x22 x26 true xb5_0 xb5_1 xb6_0 xb6_1 xb14_0 xb14_1)))) else (laws_FnBirthdaysMeet.j2 k x1 x8 x9 x12 x13 x15 x18 x19 x22 x26 true xb5_0 xb5_1 xb6_0 xb6_1 xb14_0 xb14_1))) else (laws_FnBirthdaysMeet.j2 k x1 x8 x9 x12 x13 x15 x18 x19 x22 x26 true xb5_0 xb5_1 xb6_0 xb6_1 xb14_0 xb14_1))
def laws_FnBirthdaysMeet.j2 : Nat → List Int → Int → Bool → (List (Int × Int)) → Int → Bool → List Int → Bool → List (List Int) → List UInt8 → Bool → Int → Int → Int → Int → Int → Int → Option (Bool)
  | 0, _, _, _, _, _, _, _, _, _, _, _, _, _, _, _, _, _ => none
  | k + 1, x1, x8, x9, x12, x13, x15, x18, x19, x22, x26, x242, xb5_0, xb5_1, xb6_0, xb6_1, xb14_0, xb14_1 => if x242 = true then (some false) else (if x9 = true then (if (IntKind.i64.wrap (xb5_1 - xb6_1)) < 0 then (laws_FnBirthdaysMeet.j3 k x1 x8 x12 x13 x15 x18 x19 x22 x26 (IntKind.i64.wrap (0 - (IntKind.i64.wrap (xb5_1 - xb6_1)))) xb5_0 xb5_1 xb6_0 xb6_1 xb14_0 xb14_1) else (laws_FnBirthdaysMeet.j3 k x1 x8 x12 x13 x15 x18 x19 x22 x26 (IntKind.i64.wrap (xb5_1 - xb6_1)) xb5_0 xb5_1 xb6_0 xb6_1 xb14_0 xb14_1)) else (laws_FnBirthdaysMeet.j6 k x1 x12 x13 x15 x18 x19 x22 x26 xb14_0 xb14_1))
def laws_FnBirthdaysMeet.j3 : Nat → List Int → Int → (List (Int × Int)) → Int → Bool → List Int → Bool → List (List Int) → List UInt8 → Int → Int → Int → Int → Int → Int → Int → Option (Bool)
  | 0, _, _, _, _, _, _, _, _, _, _, _, _, _, _, _, _ => none
  | k + 1, x1, x8, x12, x13, x15, x18, x19, x22, x26, x30, xb5_0, xb5_1, xb6_0, xb6_1, xb14_0, xb14_1 => (impl_GreatestGap.f k (xb5_0, xb5_1) (xb6_0, xb6_1)).bind fun y1 => (if y1.2.2 = true then (laws_FnBirthdaysMeet.j4 k x1 x8 x12 x13 x15 x18 x19 x22 x26 x30 y1.1 y1.2.1 y1.2.2 xb5_0 xb5_1 xb6_0 xb6_1 xb14_0 xb14_1) else ((impl_GreatestGap.f k (xb6_0, xb6_1) (xb5_0, xb5_1)).bind fun y2 => (laws_FnBirthdaysMeet.j4 k x1 x8 x12 x13 x15 x18 x19 x22 x26 x30 y2.1 y2.2.1 y2.2.2 xb5_0 xb5_1 xb6_0 xb6_1 xb14_0 xb14_1)))
def laws_FnBirthdaysMeet.j4 : Nat → List Int → Int → (List (Int × Int)) → Int → Bool → List Int → Bool → List (List Int) → List UInt8 → Int → Int → Int → Bool → Int → Int → Int → Int → Int → Int → Option (Bool)
  | 0, _, _, _, _, _, _, _, _, _, _, _, _, _, _, _, _, _, _, _ => none
  | k + 1, x1, x8, x12, x13, x15, x18, x19, x22, x26, x30, x31, x32, x33, xb5_0, xb5_1, xb6_0, xb6_1, xb14_0, xb14_1 => if x8 < 0 then (laws_FnBirthdaysMeet.j5 k x1 x8 x12 x13 x15 x18 x19 x22 x26 x30 x31 x32 true xb14_0 xb14_1) else (if x8 > 365 then (laws_FnBirthdaysMeet.j5 k x1 x8 x12 x13 x15 x18 x19 x22 x26 x30 x31 x32 true xb14_0 xb14_1) else (if x33 = true then (if (IntKind.i64.wrap (x32 - x31)) > 1 then (laws_FnBirthdaysMeet.j5 k x1 x8 x12 x13 x15 x18 x19 x22 x26 x30 x31 x32 true xb14_0 xb14_1) else (if x31 < 0 then (laws_FnBirthdaysMeet.j5 k x1 x8 x12 x13 x15 x18 x19 x22 x26 x30 x31 x32 true xb14_0 xb14_1) else (if ((x31 == x32) != (xb5_1 == xb6_1)) = true then (laws_FnBirthdaysMeet.j5 k x1 x8 x12 x13 x15 x18 x19 x22 x26 x30 x31 x32 true xb14_0 xb14_1) else (laws_FnBirthdaysMeet.j5 k x1 x8 x12 x13 x15 x18 x19 x22 x26 x30 x31 x32 (((decide (x8 > 0)) != (x31 == 0))) xb14_0 xb14_1)))) else (laws_FnBirthdaysMeet.j5 k x1 x8 x12 x13 x15 x18 x19 x22 x26 x30 x31 x32 true xb14_0 xb14_1)))
def laws_FnBirthdaysMeet.j5 : Nat → List Int → Int → (List (Int × Int)) → Int → Bool → List Int → Bool → List (List Int) → List UInt8 → Int → Int → Int → Bool → Int → Int → Option (Bool)
  | 0, _, _, _, _, _, _, _, _, _, _, _, _, _, _, _ => none
  | k + 1, x1, x8, x12, x13, x15, x18, x19, x22, x26, x30, x31, x32, x306, xb14_0, xb14_1 => if x306 = true then (some false) else (if x8 > 0 then (if x31 = x32 then (laws_FnBirthdaysMeet.j6 k x1 x12 x13 x15 x18 x19 x22 x26 xb14_0 xb14_1) else (if x8 = x30 then (laws_FnBirthdaysMeet.j6 k x1 x12 x13 x15 x18 x19 x22 x26 xb14_0 xb14_1) else (if x8 = (IntKind.i64.wrap (365 - x30)) then (laws_FnBirthdaysMeet.j6 k x1 x12 x13 x15 x18 x19 x22 x26 xb14_0 xb14_1) else (some false)))) else (laws_FnBirthdaysMeet.j6 k x1 x12 x13 x15 x18 x19 x22 x26 xb14_0 xb14_1))
def laws_FnBirthdaysMeet.j6 : Nat → List Int → (List (Int × Int)) → Int → Bool → List Int → Bool → List (List Int) → List UInt8 → Int → Int → Option (Bool)
  | 0, _, _, _, _, _, _, _, _, _, _ => none
  | k + 1, x1, x12, x13, x15, x18, x19, x22, x26, xb14_0, xb14_1 => if x15 = true then ((impl_SumOfAgesOn.f k x12 (xb14_0, xb14_1)).bind fun y1 => ((impl_AddDays.f k (xb14_0, xb14_1) (-1)).bind fun y2 => (if y1.2 = true then (laws_FnBirthdaysMeet.j7 k x1 x12 x13 x18 x19 x22 x26 y2.2 (decide (y1.1 < x13)) y2.1.1 y2.1.2) else (laws_FnBirthdaysMeet.j7 k x1 x12 x13 x18 x19 x22 x26 y2.2 true y2.1.1 y2.1.2)))) else (laws_FnBirthdaysMeet.j8 k x1 x12 x18 x19 x22 x26)
def laws_FnBirthdaysMeet.j7 : Nat → List Int → (List (Int × Int)) → Int → List Int → Bool → List (List Int) → List UInt8 → Bool → Bool → Int → Int → Option (Bool)
  | 0, _, _, _, _, _, _, _, _, _, _, _ => none
  | k + 1, x1, x12, x13, x18, x19, x22, x26, x37, x343, xb36_0, xb36_1 => if x343 = true then (some false) else (if x37 = true then ((impl_SumOfAgesOn.f k x12 (xb36_0, xb36_1)).bind fun y1 => (if y1.2 = true then (if y1.1 ≥ x13 then (some false) else (laws_FnBirthdaysMeet.j8 k x1 x12 x18 x19 x22 x26)) else (laws_FnBirthdaysMeet.j8 k x1 x12 x18 x19 x22 x26))) else (laws_FnBirthdaysMeet.j8 k x1 x12 x18 x19 x22 x26))
def laws_FnBirthdaysMeet.j8 : Nat → List Int → (List (Int × Int)) → List Int → Bool → List (List Int) → List UInt8 → Option (Bool)
  | 0, _, _, _, _, _, _ => none
  | k + 1, x1, x12, x18, x19, x22, x26 => if x19 = true then ((impl_ParseBirths.f k x26).bind fun y1 => (laws_FnBirthdaysMeet.j9 k x1 x12 x18 x22 y1.1 y1.2)) else (laws_FnBirthdaysMeet.j12 k x1)
def laws_FnBirthdaysMeet.j9 : Nat → List Int → (List (Int × Int)) → List Int → List (List Int) → (List (Int × Int)) → Bool → Option (Bool)
  | 0, _, _, _, _, _, _ => none
  | k + 1, x1, x12, x18, x22, x40, x41 => if (x18.length : Int) = (x12.length : Int) then (if x41 = true then ((laws_gDates.f k x40 x12).bind fun y38 => (laws_FnBirthdaysMeet.j10 k x1 x12 x18 x22 (!y38))) else (laws_FnBirthdaysMeet.j10 k x1 x12 x18 x22 true)) else (laws_FnBirthdaysMeet.j10 k x1 x12 x18 x22 true)
def laws_FnBirthdaysMeet.j10 : Nat → List Int → (List (Int × Int)) → List Int → List (List Int) → Bool → Option (Bool)
  | 0, _, _, _, _, _ => none
  | k + 1, x1, x12, x18, x22, x377 => if x377 = true then (some false) else (laws_FnBirthdaysMeet.l0 k x1 x12 x18 x22 1)
def laws_FnBirthdaysMeet.l0 : Nat → List Int → (List (Int × Int)) → List Int → List (List Int) → Int → Option (Bool)
  | 0, _, _, _, _, _ => none
  | k + 1, x1, x12, x18, x22, x42 => if x42 < (x18.length : Int) then (if 0 ≤ (IntKind.i64.wrap (x42 - 1)) then (if (IntKind.i64.wrap (x42 - 1)) < (x18.length : Int) then (if 0 ≤ (rde x18 (IntKind.i64.wrap (x42 - 1))) then (if (rde x18 (IntKind.i64.wrap (x42 - 1))) < (x12.length : Int) then (if 0 ≤ x42 then (if 0 ≤ (rde x18 x42) then (if (rde x18 x42) < (x12.length : Int) then (if (rde x12 (rde x18 (IntKind.i64.wrap (x42 - 1)))).1 > (rde x12 (rde x18 x42)).1 then (some false) else (if (rde x12 (rde x18 (IntKind.i64.wrap (x42 - 1)))).1 = (rde x12 (rde x18 x42)).1 then (if (rde x12 (rde x18 (IntKind.i64.wrap (x42 - 1)))).2 > (rde x12 (rde x18 x42)).2 then (some false) else (if ((rde x12 (rde x18 (IntKind.i64.wrap (x42 - 1)))).1 == (rde x12 (rde x18 x42)).1 && (rde x12 (rde x18 (IntKind.i64.wrap (x42 - 1)))).2 == (rde x12 (rde x18 x42)).2) = true then (if (rde x18 (IntKind.i64.wrap (x42 - 1))) > (rde x18 x42) then (some false) else (laws_FnBirthdaysMeet.l0 k x1 x12 x18 x22 (IntKind.i64.wrap (x42 + 1)))) else (laws_FnBirthdaysMeet.l0 k x1 x12 x18 x22 (IntKind.i64.wrap (x42 + 1))))) else (if ((rde x12 (rde x18 (IntKind.i64.wrap (x42 - 1)))).1 == (rde x12 (rde x18 x42)).1 && (rde x12 (rde x18 (IntKind.i64.wrap (x42 - 1)))).2 == (rde x12 (rde x18 x42)).2) = true then (if (rde x18 (IntKind.i64.wrap (x42 - 1))) > (rde x18 x42) then (some false) else (laws_FnBirthdaysMeet.l0 k x1 x12 x18 x22 (IntKind.i64.wrap (x42 + 1)))) else (laws_FnBirthdaysMeet.l0 k x1 x12 x18 x22 (IntKind.i64.wrap (x42 + 1)))))) else (none)) else (none)) else (none)) else (none)) else (none)) else (none)) else (none)) else (laws_FnBirthdaysMeet.l1 k x1 x12 0 x22 (x22.length : Int) 0)
def laws_FnBirthdaysMeet.l1 : Nat → List Int → (List (Int × Int)) → Int → List (List Int) → Int → Int → Option (Bool)
  | 0, _, _, _, _, _, _ => none
  | k + 1, x1, x12, x45, x22, x436, x437 => if x437 < x436 then (if 0 ≤ x437 then (if x437 < (x22.length : Int) then (if ((rde x22 x437).length : Int) < 2 then (laws_FnBirthdaysMeet.j11 k x1 x12 x45 (rde x22 x437) x22 x436 x437 true) else (if x437 > 0 then (if 0 ≤ (IntKind.i64.wrap (x437 - 1)) then (if (IntKind.i64.wrap (x437 - 1)) < (x22.length : Int) then (if 0 < ((rde x22 (IntKind.i64.wrap (x437 - 1))).length : Int) then (if 0 < ((rde x22 x437).length : Int) then (if (rde (rde x22 (IntKind.i64.wrap (x437 - 1))) 0) ≥ (rde (rde x22 x437) 0) then (laws_FnBirthdaysMeet.j11 k x1 x12 x45 (rde x22 x437) x22 x436 x437 true) else (if 1 ≤ ((rde x22 x437).length : Int) then ((laws_gRises.f k ((rde x22 x437).drop 1)).bind fun y23 => (laws_FnBirthdaysMeet.j11 k x1 x12 x45 (rde x22 x437) x22 x436 x437 (!y23))) else (none))) else (none)) else (none)) else (none)) else (none)) else (if 1 ≤ ((rde x22 x437).length : Int) then ((laws_gRises.f k ((rde x22 x437).drop 1)).bind fun y26 => (laws_FnBirthdaysMeet.j11 k x1 x12 x45 (rde x22 x437) x22 x436 x437 (!y26))) else (none)))) else (none)) else (none)) else (if x45 = (x12.length : Int) then (laws_FnBirthdaysMeet.j12 k x1) else (some false))
def laws_FnBirthdaysMeet.j11 : Nat → List Int → (List (Int × Int)) → Int → List Int → List (List Int) → Int → Int → Bool → Option (Bool)
  | 0, _, _, _, _, _, _, _, _ => none
  | k + 1, x1, x12, x45, x47, x22, x436, x437, x467 => if x467 = true then (some false) else (if 1 ≤ (x47.length : Int) then (laws_FnBirthdaysMeet.l2 k x1 x12 x45 x47 x22 x436 x437 (x47.drop 1) ((x47.drop 1).length : Int) 0) else (none))
def laws_FnBirthdaysMeet.l2 : Nat → List Int → (List (Int × Int)) → Int → List Int → List (List Int) → Int → Int → List Int → Int → Int → Option (Bool)
  | 0, _, _, _, _, _, _, _, _, _, _ => none
  | k + 1, x1, x12, x45, x47, x22, x436, x437, x469, x470, x471 => if x471 < x470 then (if 0 ≤ x471 then (if x471 < (x469.length : Int) then (if (rde x469 x471) < 0 then (some false) else (if (rde x469 x471) ≥ (x12.length : Int) then (some false) else (if 0 ≤ (rde x469 x471) then (if (rde x469 x471) < (x12.length : Int) then (if 0 < (x47.length : Int) then (if (rde x12 (rde x469 x471)).2 = (rde x47 0) then (laws_FnBirthdaysMeet.l2 k x1 x12 (IntKind.i64.wrap (x45 + 1)) x47 x22 x436 x437 x469 x470 (IntKind.i64.wrap (x471 + 1))) else (some false)) else (none)) else (none)) else (none)))) else (none)) else (none)) else (laws_FnBirthdaysMeet.l1 k x1 x12 x45 x22 x436 (IntKind.i64.wrap (x437 + 1)))
def laws_FnBirthdaysMeet.j12 : Nat → List Int → Option (Bool)
  | 0, _ => none
  | k + 1, x1 => (spec_DrawTwiceAsOld.f x1).bind fun y1 => ((impl_TwiceAsOld.f k (y1.1.1, y1.1.2) (y1.2.1, y1.2.2)).bind fun y2 => ((spec_TwiceAsOld.f k (y1.1.1, y1.1.2) (y1.2.1, y1.2.2)).bind fun y3 => ((impl_GreatestGap.f k (y1.1.1, y1.1.2) (y1.2.1, y1.2.2)).bind fun y4 => ((spec_GreatestGap.f k (y1.1.1, y1.1.2) (y1.2.1, y1.2.2)).bind fun y5 => (laws_FnBirthdaysMeet.j13 k x1 y2.2 y3.2 y4.1 y4.2.1 y4.2.2 y5.1 y5.2.1 y5.2.2 y1.1.1 y1.1.2 y1.2.1 y1.2.2 y2.1.1 y2.1.2 y3.1.1 y3.1.2)))))
def laws_FnBirthdaysMeet.j13 : Nat → List Int → Bool → Bool → Int → Int → Bool → Int → Int → Bool → Int → Int → Int → Int → Int → Int → Int → Int → Option (Bool)
  | 0, _, _, _, _, _, _, _, _, _, _, _, _, _, _, _, _, _ => none
  | k + 1, x1, x53, x55, x56, x57, x58, x59, x60, x61, xb50_0, xb50_1, xb51_0, xb51_1, xb52_0, xb52_1, xb54_0, xb54_1 => (spec_DrawHalfBirthday.f x1).bind fun y1 => ((impl_HalfBirthday.f k (y1.1.1, y1.1.2) (y1.2.1, y1.2.2)).bind fun y2 => ((spec_HalfBirthday.f k (y1.1.1, y1.1.2) (y1.2.1, y1.2.2)).bind fun y3 => ((spec_DrawDayOfDaysOld.f x1).bind fun y4 => ((impl_DayOfDaysOld.f k (y4.1.1, y4.1.2) y4.2).bind fun y5 => ((spec_DayOfDaysOld.f k (y4.1.1, y4.1.2) y4.2).bind fun y6 => ((spec_DrawParseBirths.f k x1).bind fun y7 => ((impl_ParseBirths.f k y7).bind fun y8 => ((spec_ParseBirths.f k y7).bind fun y9 => (laws_FnBirthdaysMeet.j14 k x53 x55 x56 x57 x58 x59 x60 x61 y2.2 y3.2 y4.2 y5.2 y6.2 y7 y8.1 y8.2 y9.1 y9.2 xb50_0 xb50_1 xb51_0 xb51_1 xb52_0 xb52_1 xb54_0 xb54_1 y1.1.1 y1.1.2 y1.2.1 y1.2.2 y2.1.1 y2.1.2 y3.1.1 y3.1.2 y4.1.1 y4.1.2 y5.1.1 y5.1.2 y6.1.1 y6.1.2)))))))))
def laws_FnBirthdaysMeet.j14 : Nat → Bool → Bool → Int → Int → Bool → Int → Int → Bool → Bool → Bool → Int → Bool → Bool → List UInt8 → (List (Int × Int)) → Bool → (List (Int × Int)) → Bool → Int → Int → Int → Int → Int → Int → Int → Int → Int → Int → Int → Int → Int → Int → Int → Int → Int → Int → Int → Int → Int → Int → Option (Bool)
  | 0, _, _, _, _, _, _, _, _, _, _, _, _, _, _, _, _, _, _, _, _, _, _, _, _, _, _, _, _, _, _, _, _, _, _, _, _, _, _, _, _ => none
  | k + 1, x53, x55, x56, x57, x58, x59, x60, x61, x65, x67, x69, x71, x73, x74, x75, x76, x77, x78, xb50_0, xb50_1, xb51_0, xb51_1, xb52_0, xb52_1, xb54_0, xb54_1, xb62_0, xb62_1, xb63_0, xb63_1, xb64_0, xb64_1, xb66_0, xb66_1, xb68_0, xb68_1, xb70_0, xb70_1, xb72_0, xb72_1 => if (x53 != x55) = true then (laws_FnBirthdaysMeet.j15 k x53 x65 x69 x71 x74 x75 x76 true xb50_0 xb50_1 xb51_0 xb51_1 xb52_0 xb52_1 xb62_0 xb62_1 xb63_0 xb63_1 xb64_0 xb64_1 xb68_0 xb68_1 xb70_0 xb70_1) else (if (xb52_0 == xb54_0 && xb52_1 == xb54_1) = true then (if (x58 != x61) = true then (laws_FnBirthdaysMeet.j15 k x53 x65 x69 x71 x74 x75 x76 true xb50_0 xb50_1 xb51_0 xb51_1 xb52_0 xb52_1 xb62_0 xb62_1 xb63_0 xb63_1 xb64_0 xb64_1 xb68_0 xb68_1 xb70_0 xb70_1) else (if x56 = x59 then (if x57 = x60 then (if (x65 != x67) = true then (laws_FnBirthdaysMeet.j15 k x53 x65 x69 x71 x74 x75 x76 true xb50_0 xb50_1 xb51_0 xb51_1 xb52_0 xb52_1 xb62_0 xb62_1 xb63_0 xb63_1 xb64_0 xb64_1 xb68_0 xb68_1 xb70_0 xb70_1) else (if (xb64_0 == xb66_0 && xb64_1 == xb66_1) = true then (if (x71 != x73) = true then (laws_FnBirthdaysMeet.j15 k x53 x65 x69 x71 x74 x75 x76 true xb50_0 xb50_1 xb51_0 xb51_1 xb52_0 xb52_1 xb62_0 xb62_1 xb63_0 xb63_1 xb64_0 xb64_1 xb68_0 xb68_1 xb70_0 xb70_1) else (if (xb70_0 == xb72_0 && xb70_1 == xb72_1) = true then (if (x76 != x78) = true then (laws_FnBirthdaysMeet.j15 k x53 x65 x69 x71 x74 x75 x76 true xb50_0 xb50_1 xb51_0 xb51_1 xb52_0 xb52_1 xb62_0 xb62_1 xb63_0 xb63_1 xb64_0 xb64_1 xb68_0 xb68_1 xb70_0 xb70_1) else ((laws_gDates.f k x75 x77).bind fun y33 => (if y33 = true then (if x53 = true then (laws_FnBirthdaysMeet.j15 k x53 x65 x69 x71 x74 x75 x76 (!x58) xb50_0 xb50_1 xb51_0 xb51_1 xb52_0 xb52_1 xb62_0 xb62_1 xb63_0 xb63_1 xb64_0 xb64_1 xb68_0 xb68_1 xb70_0 xb70_1) else (laws_FnBirthdaysMeet.j15 k x53 x65 x69 x71 x74 x75 x76 false xb50_0 xb50_1 xb51_0 xb51_1 xb52_0 xb52_1 xb62_0 xb62_1 xb63_0 xb63_1 xb64_0 xb64_1 xb68_0 xb68_1 xb70_0 xb70_1)) else (laws_FnBirthdaysMeet.j15 k x53 x65 x69 x71 x74 x75 x76 true xb50_0 xb50_1 xb51_0 xb51_1 xb52_0 xb52_1 xb62_0 xb62_1 xb63_0 xb63_1 xb64_0 xb64_1 xb68_0 xb68_1 xb70_0 xb70_1)))) else (laws_FnBirthdaysMeet.j15 k x53 x65 x69 x71 x74 x75 x76 true xb50_0 xb50_1 xb51_0 xb51_1 xb52_0 xb52_1 xb62_0 xb62_1 xb63_0 xb63_1 xb64_0 xb64_1 xb68_0 xb68_1 xb70_0 xb70_1))) else (laws_FnBirthdaysMeet.j15 k x53 x65 x69 x71 x74 x75 x76 true xb50_0 xb50_1 xb51_0 xb51_1 xb52_0 xb52_1 xb62_0 xb62_1 xb63_0 xb63_1 xb64_0 xb64_1 xb68_0 xb68_1 xb70_0 xb70_1))) else (laws_FnBirthdaysMeet.j15 k x53 x65 x69 x71 x74 x75 x76 true xb50_0 xb50_1 xb51_0 xb51_1 xb52_0 xb52_1 xb62_0 xb62_1 xb63_0 xb63_1 xb64_0 xb64_1 xb68_0 xb68_1 xb70_0 xb70_1)) else (laws_FnBirthdaysMeet.j15 k x53 x65 x69 x71 x74 x75 x76 true xb50_0 xb50_1 xb51_0 xb51_1 xb52_0 xb52_1 xb62_0 xb62_1 xb63_0 xb63_1 xb64_0 xb64_1 xb68_0 xb68_1 xb70_0 xb70_1))) else (laws_FnBirthdaysMeet.j15 k x53 x65 x69 x71 x74 x75 x76 true xb50_0 xb50_1 xb51_0 xb51_1 xb52_0 xb52_1 xb62_0 xb62_1 xb63_0 xb63_1 xb64_0 xb64_1 xb68_0 xb68_1 xb70_0 xb70_1))
def laws_FnBirthdaysMeet.j15 : Nat → Bool → Bool → Int → Bool → List UInt8 → (List (Int × Int)) → Bool → Bool → Int → Int → Int → Int → Int → Int → Int → Int → Int → Int → Int → Int → Int → Int → Int → Int → Option (Bool)
  | 0, _, _, _, _, _, _, _, _, _, _, _, _, _, _, _, _, _, _, _, _, _, _, _, _ => none
  | k + 1, x53, x65, x69, x71, x74, x75, x76, x639, xb50_0, xb50_1, xb51_0, xb51_1, xb52_0, xb52_1, xb62_0, xb62_1, xb63_0, xb63_1, xb64_0, xb64_1, xb68_0, xb68_1, xb70_0, xb70_1 => if x639 = true then (some false) else (if x53 = true then ((impl_DaysOld.f k (xb50_0, xb50_1) (xb52_0, xb52_1)).bind fun y1 => ((impl_DaysOld.f k (xb51_0, xb51_1) (xb52_0, xb52_1)).bind fun y2 => (laws_FnBirthdaysMeet.j16 k x65 x69 x71 x74 x75 x76 y1.1 y1.2 y2.1 y2.2 xb62_0 xb62_1 xb63_0 xb63_1 xb64_0 xb64_1 xb68_0 xb68_1 xb70_0 xb70_1))) else (laws_FnBirthdaysMeet.j17 k x65 x69 x71 x74 x75 x76 xb62_0 xb62_1 xb63_0 xb63_1 xb64_0 xb64_1 xb68_0 xb68_1 xb70_0 xb70_1))
def laws_FnBirthdaysMeet.j16 : Nat → Bool → Int → Bool → List UInt8 → (List (Int × Int)) → Bool → Int → Bool → Int → Bool → Int → Int → Int → Int → Int → Int → Int → Int → Int → Int → Option (Bool)
  | 0, _, _, _, _, _, _, _, _, _, _, _, _, _, _, _, _, _, _, _, _ => none
  | k + 1, x65, x69, x71, x74, x75, x76, x79, x80, x81, x82, xb62_0, xb62_1, xb63_0, xb63_1, xb64_0, xb64_1, xb68_0, xb68_1, xb70_0, xb70_1 => if x80 = true then (if x82 = true then (if x79 = (IntKind.i64.wrap (2 * x81)) then (if x81 < 1 then (some false) else (laws_FnBirthdaysMeet.j17 k x65 x69 x71 x74 x75 x76 xb62_0 xb62_1 xb63_0 xb63_1 xb64_0 xb64_1 xb68_0 xb68_1 xb70_0 xb70_1)) else (some false)) else (some false)) else (some false)
def laws_FnBirthdaysMeet.j17 : Nat → Bool → Int → Bool → List UInt8 → (List (Int × Int)) → Bool → Int → Int → Int → Int → Int → Int → Int → Int → Int → Int → Option (Bool)
  | 0, _, _, _, _, _, _, _, _, _, _, _, _, _, _, _, _ => none
  | k + 1, x65, x69, x71, x74, x75, x76, xb62_0, xb62_1, xb63_0, xb63_1, xb64_0, xb64_1, xb68_0, xb68_1, xb70_0, xb70_1 => if x65 = true then ((impl_DaysOld.f k (xb62_0, xb62_1) (xb64_0, xb64_1)).bind fun y1 => ((impl_DaysApart.f k (xb63_0, xb63_1) (xb64_0, xb64_1)).bind fun y2 => ((impl_DaysOld.f k (xb62_0, xb62_1) (xb63_0, xb63_1)).bind fun y3 => (laws_FnBirthdaysMeet.j18 k x69 x71 x74 x75 x76 y1.1 y1.2 y2.1 y2.2 y3.1 y3.2 xb68_0 xb68_1 xb70_0 xb70_1)))) else (laws_FnBirthdaysMeet.j19 k x69 x71 x74 x75 x76 xb68_0 xb68_1 xb70_0 xb70_1)
def laws_FnBirthdaysMeet.j18 : Nat → Int → Bool → List UInt8 → (List (Int × Int)) → Bool → Int → Bool → Int → Bool → Int → Bool → Int → Int → Int → Int → Option (Bool)
  | 0, _, _, _, _, _, _, _, _, _, _, _, _, _, _, _ => none
  | k + 1, x69, x71, x74, x75, x76, x83, x84, x85, x86, x87, x88, xb68_0, xb68_1, xb70_0, xb70_1 => if x84 = true then (if (x83.tmod 365) = 182 then (if x86 = true then (if x88 = true then (if x83 ≤ x87 then (some false) else (if x85 = (IntKind.i64.wrap (x83 - x87)) then (if x85 > 365 then (if x87 > 182 then (some false) else (laws_FnBirthdaysMeet.j19 k x69 x71 x74 x75 x76 xb68_0 xb68_1 xb70_0 xb70_1)) else (laws_FnBirthdaysMeet.j19 k x69 x71 x74 x75 x76 xb68_0 xb68_1 xb70_0 xb70_1)) else (some false))) else (some false)) else (some false)) else (some false)) else (some false)
def laws_FnBirthdaysMeet.j19 : Nat → Int → Bool → List UInt8 → (List (Int × Int)) → Bool → Int → Int → Int → Int → Option (Bool)
  | 0, _, _, _, _, _, _, _, _, _ => none
  | k + 1, x69, x71, x74, x75, x76, xb68_0, xb68_1, xb70_0, xb70_1 => if x71 = true then ((impl_DaysOld.f k (xb68_0, xb68_1) (xb70_0, xb70_1)).bind fun y1 => (if y1.2 = true then (laws_FnBirthdaysMeet.j20 k x74 x75 x76 (y1.1 != x69)) else (laws_FnBirthdaysMeet.j20 k x74 x75 x76 true))) else (if x76 = true then ((impl_BirthsText.f k x75).bind fun y6 => (if y6.2 = true then (some (y6.1 == x74)) else (some false))) else (some true))
def laws_FnBirthdaysMeet.j20 : Nat → List UInt8 → (List (Int × Int)) → Bool → Bool → Option (Bool)
  | 0, _, _, _, _ => none
  | k + 1, x74, x75, x76, x736 => if x736 = true then (some false) else (if x76 = true then ((impl_BirthsText.f k x75).bind fun y1 => (if y1.2 = true then (some (y1.1 == x74)) else (some false))) else (some true))
end
def laws_FnBirthdaysMeet.f (k : Nat) (x0 : List Int) (x1 : List Int) : Option (Bool) := (laws_big.f x0 x1).bind fun y1 => (if y1 = true then (some true) else ((spec_DrawDaysAlike.f x0).bind fun y2 => ((impl_DaysAlike.f k (y2.1.1, y2.1.2) (y2.2.1.1, y2.2.1.2) y2.2.2).bind fun y3 => ((spec_DaysAlike.f k (y2.1.1, y2.1.2) (y2.2.1.1, y2.2.1.2) y2.2.2).bind fun y4 => ((spec_DrawFirstSumOn.f k x0).bind fun y5 => ((impl_FirstSumOn.f k y5.1 y5.2).bind fun y6 => ((spec_FirstSumOn.f k y5.1 y5.2).bind fun y7 => ((impl_OlderOf.f k y5.1).bind fun y8 => ((spec_OlderOf.f k y5.1).bind fun y9 => ((impl_BirthdaysOf.f k y5.1).bind fun y10 => (laws_FnBirthdaysMeet.j0 k x1 y3.1 y3.2 y4.1 y4.2 y5.1 y5.2 y6.2 y7.2 y8.1 y8.2 y9.1 y9.2 y10.1 y10.2 y2.1.1 y2.1.2 y2.2.1.1 y2.2.1.2 y6.1.1 y6.1.2 y7.1.1 y7.1.2)))))))))))
theorem laws_FnBirthdaysMeet.br_l : ∀ k, (∀ (x1 : List Int) (x8 : Int) (x9 : Bool) (x10 : Int) (x11 : Bool) (x12 : List (Int × Int)) (x13 : Int) (x15 : Bool) (x17 : Bool) (x18 : List Int) (x19 : Bool) (x20 : List Int) (x21 : Bool) (x22 : List (List Int)) (x23 : Bool) (xb5_0 : Int) (xb5_1 : Int) (xb6_0 : Int) (xb6_1 : Int) (xb14_0 : Int) (xb14_1 : Int) (xb16_0 : Int) (xb16_1 : Int), LeO (laws_FnBirthdaysMeet.j0 k x1 x8 x9 x10 x11 x12 x13 x15 x17 x18 x19 x20 x21 x22 x23 xb5_0 xb5_1 xb6_0 xb6_1 xb14_0 xb14_1 xb16_0 xb16_1) (S.laws_FnBirthdaysMeet.j0 x1 x8 x9 x10 x11 x12 x13 x15 x17 x18 x19 x20 x21 x22 x23 xb5_0 xb5_1 xb6_0 xb6_1 xb14_0 xb14_1 xb16_0 xb16_1)) ∧ (∀ (x1 : List Int) (x8 : Int) (x9 : Bool) (x10 : Int) (x11 : Bool) (x12 : List (Int × Int)) (x13 : Int) (x15 : Bool) (x17 : Bool) (x18 : List Int) (x19 : Bool) (x20 : List Int) (x21 : Bool) (x22 : List (List Int)) (x23 : Bool) (x24 : List (List Int)) (x25 : Bool) (x26 : List UInt8) (x27 : Bool) (x28 : List UInt8) (x29 : Bool) (xb5_0 : Int) (xb5_1 : Int) (xb6_0 : Int) (xb6_1 : Int) (xb14_0 : Int) (xb14_1 : Int) (xb16_0 : Int) (xb16_1 : Int), LeO (laws_FnBirthdaysMeet.j1 k x1 x8 x9 x10 x11 x12 x13 x15 x17 x18 x19 x20 x21 x22 x23 x24 x25 x26 x27 x28 x29 xb5_0 xb5_1 xb6_0 xb6_1 xb14_0 xb14_1 xb16_0 xb16_1) (S.laws_FnBirthdaysMeet.j1 x1 x8 x9 x10 x11 x12 x13 x15 x17 x18 x19 x20 x21 x22 x23 x24 x25 x26 x27 x28 x29 xb5_0 xb5_1 xb6_0 xb6_1 xb14_0 xb14_1 xb16_0 xb16_1)) ∧ (∀ (x1 : List Int) (x8 : Int) (x9 : Bool) (x12 : List (Int × Int)) (x13 : Int) (x15 : Bool) (x18 : List Int) (x19 : Bool) (x22 : List (List Int)) (x26 : List UInt8) (x242 : Bool) (xb5_0 : Int) (xb5_1 : Int) (xb6_0 : Int) (xb6_1 : Int) (xb14_0 : Int) (xb14_1 : Int), LeO (laws_FnBirthdaysMeet.j2 k x1 x8 x9 x12 x13 x15 x18 x19 x22 x26 x242 xb5_0 xb5_1 xb6_0 xb6_1 xb14_0 xb14_1) (S.laws_FnBirthdaysMeet.j2 x1 x8 x9 x12 x13 x15 x18 x19 x22 x26 x242 xb5_0 xb5_1 xb6_0 xb6_1 xb14_0 xb14_1)) ∧ (∀ (x1 : List Int) (x8 : Int) (x12 : List (Int × Int)) (x13 : Int) (x15 : Bool) (x18 : List Int) (x19 : Bool) (x22 : List (List Int)) (x26 : List UInt8) (x30 : Int) (xb5_0 : Int) (xb5_1 : Int) (xb6_0 : Int) (xb6_1 : Int) (xb14_0 : Int) (xb14_1 : Int), LeO (laws_FnBirthdaysMeet.j3 k x1 x8 x12 x13 x15 x18 x19 x22 x26 x30 xb5_0 xb5_1 xb6_0 xb6_1 xb14_0 xb14_1) (S.laws_FnBirthdaysMeet.j3 x1 x8 x12 x13 x15 x18 x19 x22 x26 x30 xb5_0 xb5_1 xb6_0 xb6_1 xb14_0 xb14_1)) ∧ (∀ (x1 : List Int) (x8 : Int) (x12 : List (Int × Int)) (x13 : Int) (x15 : Bool) (x18 : List Int) (x19 : Bool) (x22 : List (List Int)) (x26 : List UInt8) (x30 : Int) (x31 : Int) (x32 : Int) (x33 : Bool) (xb5_0 : Int) (xb5_1 : Int) (xb6_0 : Int) (xb6_1 : Int) (xb14_0 : Int) (xb14_1 : Int), LeO (laws_FnBirthdaysMeet.j4 k x1 x8 x12 x13 x15 x18 x19 x22 x26 x30 x31 x32 x33 xb5_0 xb5_1 xb6_0 xb6_1 xb14_0 xb14_1) (S.laws_FnBirthdaysMeet.j4 x1 x8 x12 x13 x15 x18 x19 x22 x26 x30 x31 x32 x33 xb5_0 xb5_1 xb6_0 xb6_1 xb14_0 xb14_1)) ∧ (∀ (x1 : List Int) (x8 : Int) (x12 : List (Int × Int)) (x13 : Int) (x15 : Bool) (x18 : List Int) (x19 : Bool) (x22 : List (List Int)) (x26 : List UInt8) (x30 : Int) (x31 : Int) (x32 : Int) (x306 : Bool) (xb14_0 : Int) (xb14_1 : Int), LeO (laws_FnBirthdaysMeet.j5 k x1 x8 x12 x13 x15 x18 x19 x22 x26 x30 x31 x32 x306 xb14_0 xb14_1) (S.laws_FnBirthdaysMeet.j5 x1 x8 x12 x13 x15 x18 x19 x22 x26 x30 x31 x32 x306 xb14_0 xb14_1)) ∧ (∀ (x1 : List Int) (x12 : List (Int × Int)) (x13 : Int) (x15 : Bool) (x18 : List Int) (x19 : Bool) (x22 : List (List Int)) (x26 : List UInt8) (xb14_0 : Int) (xb14_1 : Int), LeO (laws_FnBirthdaysMeet.j6 k x1 x12 x13 x15 x18 x19 x22 x26 xb14_0 xb14_1) (S.laws_FnBirthdaysMeet.j6 x1 x12 x13 x15 x18 x19 x22 x26 xb14_0 xb14_1)) ∧ (∀ (x1 : List Int) (x12 : List (Int × Int)) (x13 : Int) (x18 : List Int) (x19 : Bool) (x22 : List (List Int)) (x26 : List UInt8) (x37 : Bool) (x343 : Bool) (xb36_0 : Int) (xb36_1 : Int), LeO (laws_FnBirthdaysMeet.j7 k x1 x12 x13 x18 x19 x22 x26 x37 x343 xb36_0 xb36_1) (S.laws_FnBirthdaysMeet.j7 x1 x12 x13 x18 x19 x22 x26 x37 x343 xb36_0 xb36_1)) ∧ (∀ (x1 : List Int) (x12 : List (Int × Int)) (x18 : List Int) (x19 : Bool) (x22 : List (List Int)) (x26 : List UInt8), LeO (laws_FnBirthdaysMeet.j8 k x1 x12 x18 x19 x22 x26) (S.laws_FnBirthdaysMeet.j8 x1 x12 x18 x19 x22 x26)) ∧ (∀ (x1 : List Int) (x12 : List (Int × Int)) (x18 : List Int) (x22 : List (List Int)) (x40 : List (Int × Int)) (x41 : Bool), LeO (laws_FnBirthdaysMeet.j9 k x1 x12 x18 x22 x40 x41) (S.laws_FnBirthdaysMeet.j9 x1 x12 x18 x22 x40 x41)) ∧ (∀ (x1 : List Int) (x12 : List (Int × Int)) (x18 : List Int) (x22 : List (List Int)) (x377 : Bool), LeO (laws_FnBirthdaysMeet.j10 k x1 x12 x18 x22 x377) (S.laws_FnBirthdaysMeet.j10 x1 x12 x18 x22 x377)) ∧ (∀ (x1 : List Int) (x12 : List (Int × Int)) (x18 : List Int) (x22 : List (List Int)) (x42 : Int), LeO (laws_FnBirthdaysMeet.l0 k x1 x12 x18 x22 x42) (S.laws_FnBirthdaysMeet.l0 x1 x12 x18 x22 x42)) ∧ (∀ (x1 : List Int) (x12 : List (Int × Int)) (x22 : List (List Int)) (x45 : Int) (x436 : Int) (x437 : Int), LeO (laws_FnBirthdaysMeet.l1 k x1 x12 x45 x22 x436 x437) (S.laws_FnBirthdaysMeet.l1 x1 x12 x22 x45 x436 x437)) ∧ (∀ (x1 : List Int) (x12 : List (Int × Int)) (x22 : List (List Int)) (x45 : Int) (x47 : List Int) (x436 : Int) (x437 : Int) (x467 : Bool), LeO (laws_FnBirthdaysMeet.j11 k x1 x12 x45 x47 x22 x436 x437 x467) (S.laws_FnBirthdaysMeet.j11 x1 x12 x22 x45 x47 x436 x437 x467)) ∧ (∀ (x1 : List Int) (x12 : List (Int × Int)) (x22 : List (List Int)) (x45 : Int) (x47 : List Int) (x436 : Int) (x437 : Int) (x469 : List Int) (x470 : Int) (x471 : Int), LeO (laws_FnBirthdaysMeet.l2 k x1 x12 x45 x47 x22 x436 x437 x469 x470 x471) (S.laws_FnBirthdaysMeet.l2 x1 x12 x22 x45 x47 x436 x437 x469 x470 x471)) ∧ (∀ (x1 : List Int), LeO (laws_FnBirthdaysMeet.j12 k x1) (S.laws_FnBirthdaysMeet.j12 x1)) ∧ (∀ (x1 : List Int) (x53 : Bool) (x55 : Bool) (x56 : Int) (x57 : Int) (x58 : Bool) (x59 : Int) (x60 : Int) (x61 : Bool) (xb50_0 : Int) (xb50_1 : Int) (xb51_0 : Int) (xb51_1 : Int) (xb52_0 : Int) (xb52_1 : Int) (xb54_0 : Int) (xb54_1 : Int), LeO (laws_FnBirthdaysMeet.j13 k x1 x53 x55 x56 x57 x58 x59 x60 x61 xb50_0 xb50_1 xb51_0 xb51_1 xb52_0 xb52_1 xb54_0 xb54_1) (S.laws_FnBirthdaysMeet.j13 x1 x53 x55 x56 x57 x58 x59 x60 x61 xb50_0 xb50_1 xb51_0 xb51_1 xb52_0 xb52_1 xb54_0 xb54_1)) ∧ (∀ (x53 : Bool) (x55 : Bool) (x56 : Int) (x57 : Int) (x58 : Bool) (x59 : Int) (x60 : Int) (x61 : Bool) (x65 : Bool) (x67 : Bool) (x69 : Int) (x71 : Bool) (x73 : Bool) (x74 : List UInt8) (x75 : List (Int × Int)) (x76 : Bool) (x77 : List (Int × Int)) (x78 : Bool) (xb50_0 : Int) (xb50_1 : Int) (xb51_0 : Int) (xb51_1 : Int) (xb52_0 : Int) (xb52_1 : Int) (xb54_0 : Int) (xb54_1 : Int) (xb62_0 : Int) (xb62_1 : Int) (xb63_0 : Int) (xb63_1 : Int) (xb64_0 : Int) (xb64_1 : Int) (xb66_0 : Int) (xb66_1 : Int) (xb68_0 : Int) (xb68_1 : Int) (xb70_0 : Int) (xb70_1 : Int) (xb72_0 : Int) (xb72_1 : Int), LeO (laws_FnBirthdaysMeet.j14 k x53 x55 x56 x57 x58 x59 x60 x61 x65 x67 x69 x71 x73 x74 x75 x76 x77 x78 xb50_0 xb50_1 xb51_0 xb51_1 xb52_0 xb52_1 xb54_0 xb54_1 xb62_0 xb62_1 xb63_0 xb63_1 xb64_0 xb64_1 xb66_0 xb66_1 xb68_0 xb68_1 xb70_0 xb70_1 xb72_0 xb72_1) (S.laws_FnBirthdaysMeet.j14 x53 x55 x56 x57 x58 x59 x60 x61 x65 x67 x69 x71 x73 x74 x75 x76 x77 x78 xb50_0 xb50_1 xb51_0 xb51_1 xb52_0 xb52_1 xb54_0 xb54_1 xb62_0 xb62_1 xb63_0 xb63_1 xb64_0 xb64_1 xb66_0 xb66_1 xb68_0 xb68_1 xb70_0 xb70_1 xb72_0 xb72_1)) ∧ (∀ (x53 : Bool) (x65 : Bool) (x69 : Int) (x71 : Bool) (x74 : List UInt8) (x75 : List (Int × Int)) (x76 : Bool) (x639 : Bool) (xb50_0 : Int) (xb50_1 : Int) (xb51_0 : Int) (xb51_1 : Int) (xb52_0 : Int) (xb52_1 : Int) (xb62_0 : Int) (xb62_1 : Int) (xb63_0 : Int) (xb63_1 : Int) (xb64_0 : Int) (xb64_1 : Int) (xb68_0 : Int) (xb68_1 : Int) (xb70_0 : Int) (xb70_1 : Int), LeO (laws_FnBirthdaysMeet.j15 k x53 x65 x69 x71 x74 x75 x76 x639 xb50_0 xb50_1 xb51_0 xb51_1 xb52_0 xb52_1 xb62_0 xb62_1 xb63_0 xb63_1 xb64_0 xb64_1 xb68_0 xb68_1 xb70_0 xb70_1) (S.laws_FnBirthdaysMeet.j15 x53 x65 x69 x71 x74 x75 x76 x639 xb50_0 xb50_1 xb51_0 xb51_1 xb52_0 xb52_1 xb62_0 xb62_1 xb63_0 xb63_1 xb64_0 xb64_1 xb68_0 xb68_1 xb70_0 xb70_1)) ∧ (∀ (x65 : Bool) (x69 : Int) (x71 : Bool) (x74 : List UInt8) (x75 : List (Int × Int)) (x76 : Bool) (x79 : Int) (x80 : Bool) (x81 : Int) (x82 : Bool) (xb62_0 : Int) (xb62_1 : Int) (xb63_0 : Int) (xb63_1 : Int) (xb64_0 : Int) (xb64_1 : Int) (xb68_0 : Int) (xb68_1 : Int) (xb70_0 : Int) (xb70_1 : Int), LeO (laws_FnBirthdaysMeet.j16 k x65 x69 x71 x74 x75 x76 x79 x80 x81 x82 xb62_0 xb62_1 xb63_0 xb63_1 xb64_0 xb64_1 xb68_0 xb68_1 xb70_0 xb70_1) (S.laws_FnBirthdaysMeet.j16 x65 x69 x71 x74 x75 x76 x79 x80 x81 x82 xb62_0 xb62_1 xb63_0 xb63_1 xb64_0 xb64_1 xb68_0 xb68_1 xb70_0 xb70_1)) ∧ (∀ (x65 : Bool) (x69 : Int) (x71 : Bool) (x74 : List UInt8) (x75 : List (Int × Int)) (x76 : Bool) (xb62_0 : Int) (xb62_1 : Int) (xb63_0 : Int) (xb63_1 : Int) (xb64_0 : Int) (xb64_1 : Int) (xb68_0 : Int) (xb68_1 : Int) (xb70_0 : Int) (xb70_1 : Int), LeO (laws_FnBirthdaysMeet.j17 k x65 x69 x71 x74 x75 x76 xb62_0 xb62_1 xb63_0 xb63_1 xb64_0 xb64_1 xb68_0 xb68_1 xb70_0 xb70_1) (S.laws_FnBirthdaysMeet.j17 x65 x69 x71 x74 x75 x76 xb62_0 xb62_1 xb63_0 xb63_1 xb64_0 xb64_1 xb68_0 xb68_1 xb70_0 xb70_1)) ∧ (∀ (x69 : Int) (x71 : Bool) (x74 : List UInt8) (x75 : List (Int × Int)) (x76 : Bool) (x83 : Int) (x84 : Bool) (x85 : Int) (x86 : Bool) (x87 : Int) (x88 : Bool) (xb68_0 : Int) (xb68_1 : Int) (xb70_0 : Int) (xb70_1 : Int), LeO (laws_FnBirthdaysMeet.j18 k x69 x71 x74 x75 x76 x83 x84 x85 x86 x87 x88 xb68_0 xb68_1 xb70_0 xb70_1) (S.laws_FnBirthdaysMeet.j18 x69 x71 x74 x75 x76 x83 x84 x85 x86 x87 x88 xb68_0 xb68_1 xb70_0 xb70_1)) ∧ (∀ (x69 : Int) (x71 : Bool) (x74 : List UInt8) (x75 : List (Int × Int)) (x76 : Bool) (xb68_0 : Int) (xb68_1 : Int) (xb70_0 : Int) (xb70_1 : Int), LeO (laws_FnBirthdaysMeet.j19 k x69 x71 x74 x75 x76 xb68_0 xb68_1 xb70_0 xb70_1) (S.laws_FnBirthdaysMeet.j19 x69 x71 x74 x75 x76 xb68_0 xb68_1 xb70_0 xb70_1)) ∧ (∀ (x74 : List UInt8) (x75 : List (Int × Int)) (x76 : Bool) (x736 : Bool), LeO (laws_FnBirthdaysMeet.j20 k x74 x75 x76 x736) (S.laws_FnBirthdaysMeet.j20 x74 x75 x76 x736))
  | 0 => ⟨fun _ _ _ _ _ _ _ _ _ _ _ _ _ _ _ _ _ _ _ _ _ _ _ => LeO.none _, fun _ _ _ _ _ _ _ _ _ _ _ _ _ _ _ _ _ _ _ _ _ _ _ _ _ _ _ _ _ => LeO.none _, fun _ _ _ _ _ _ _ _ _ _ _ _ _ _ _ _ _ => LeO.none _, fun _ _ _ _ _ _ _ _ _ _ _ _ _ _ _ _ => LeO.none _, fun _ _ _ _ _ _ _ _ _ _ _ _ _ _ _ _ _ _ _ => LeO.none _, fun _ _ _ _ _ _ _ _ _ _ _ _ _ _ _ => LeO.none _, fun _ _ _ _ _ _ _ _ _ _ => LeO.none _, fun _ _ _ _ _ _ _ _ _ _ _ => LeO.none _, fun _ _ _ _ _ _ => LeO.none _, fun _ _ _ _ _ _ => LeO.none _, fun _ _ _ _ _ => LeO.none _, fun _ _ _ _ _ => LeO.none _, fun _ _ _ _ _ _ => LeO.none _, fun _ _ _ _ _ _ _ _ => LeO.none _, fun _ _ _ _ _ _ _ _ _ _ => LeO.none _, fun _ => LeO.none _, fun _ _ _ _ _ _ _ _ _ _ _ _ _ _ _ _ _ => LeO.none _, fun _ _ _ _ _ _ _ _ _ _ _ _ _ _ _ _ _ _ _ _ _ _ _ _ _ _ _ _ _ _ _ _ _ _ _ _ _ _ _ _ => LeO.none _, fun _ _ _ _ _ _ _ _ _ _ _ _ _ _ _ _ _ _ _ _ _ _ _ _ => LeO.none _, fun _ _ _ _ _ _ _ _ _ _ _ _ _ _ _ _ _ _ _ _ => LeO.none _, fun _ _ _ _ _ _ _ _ _ _ _ _ _ _ _ _ => LeO.none _, fun _ _ _ _ _ _ _ _ _ _ _ _ _ _ _ => LeO.none _, fun _ _ _ _ _ _ _ _ _ => LeO.none _, fun _ _ _ _ => LeO.none _⟩
  | k + 1 => by
    have ih := laws_FnBirthdaysMeet.br_l k
    obtain ⟨ih_j0, ih_j1, ih_j2, ih_j3, ih_j4, ih_j5, ih_j6, ih_j7, ih_j8, ih_j9, ih_j10, ih_l0, ih_l1, ih_j11, ih_l2, ih_j12, ih_j13, ih_j14, ih_j15, ih_j16, ih_j17, ih_j18, ih_j19, ih_j20⟩ := ih
    refine ⟨fun x1 x8 x9 x10 x11 x12 x13 x15 x17 x18 x19 x20 x21 x22 x23 xb5_0 xb5_1 xb6_0 xb6_1 xb14_0 xb14_1 xb16_0 xb16_1 => ?_, fun x1 x8 x9 x10 x11 x12 x13 x15 x17 x18 x19 x20 x21 x22 x23 x24 x25 x26 x27 x28 x29 xb5_0 xb5_1 xb6_0 xb6_1 xb14_0 xb14_1 xb16_0 xb16_1 => ?_, fun x1 x8 x9 x12 x13 x15 x18 x19 x22 x26 x242 xb5_0 xb5_1 xb6_0 xb6_1 xb14_0 xb14_1 => ?_, fun x1 x8 x12 x13 x15 x18 x19 x22 x26 x30 xb5_0 xb5_1 xb6_0 xb6_1 xb14_0 xb14_1 => ?_, fun x1 x8 x12 x13 x15 x18 x19 x22 x26 x30 x31 x32 x33 xb5_0 xb5_1 xb6_0 xb6_1 xb14_0 xb14_1 => ?_, fun x1 x8 x12 x13 x15 x18 x19 x22 x26 x30 x31 x32 x306 xb14_0 xb14_1 => ?_, fun x1 x12 x13 x15 x18 x19 x22 x26 xb14_0 xb14_1 => ?_, fun x1 x12 x13 x18 x19 x22 x26 x37 x343 xb36_0 xb36_1 => ?_, fun x1 x12 x18 x19 x22 x26 => ?_, fun x1 x12 x18 x22 x40 x41 => ?_, fun x1 x12 x18 x22 x377 => ?_, fun x1 x12 x18 x22 x42 => ?_, fun x1 x12 x22 x45 x436 x437 => ?_, fun x1 x12 x22 x45 x47 x436 x437 x467 => ?_, fun x1 x12 x22 x45 x47 x436 x437 x469 x470 x471 => ?_, fun x1 => ?_, fun x1 x53 x55 x56 x57 x58 x59 x60 x61 xb50_0 xb50_1 xb51_0 xb51_1 xb52_0 xb52_1 xb54_0 xb54_1 => ?_, fun x53 x55 x56 x57 x58 x59 x60 x61 x65 x67 x69 x71 x73 x74 x75 x76 x77 x78 xb50_0 xb50_1 xb51_0 xb51_1 xb52_0 xb52_1 xb54_0 xb54_1 xb62_0 xb62_1 xb63_0 xb63_1 xb64_0 xb64_1 xb66_0 xb66_1 xb68_0 xb68_1 xb70_0 xb70_1 xb72_0 xb72_1 => ?_, fun x53 x65 x69 x71 x74 x75 x76 x639 xb50_0 xb50_1 xb51_0 xb51_1 xb52_0 xb52_1 xb62_0 xb62_1 xb63_0 xb63_1 xb64_0 xb64_1 xb68_0 xb68_1 xb70_0 xb70_1 => ?_, fun x65 x69 x71 x74 x75 x76 x79 x80 x81 x82 xb62_0 xb62_1 xb63_0 xb63_1 xb64_0 xb64_1 xb68_0 xb68_1 xb70_0 xb70_1 => ?_, fun x65 x69 x71 x74 x75 x76 xb62_0 xb62_1 xb63_0 xb63_1 xb64_0 xb64_1 xb68_0 xb68_1 xb70_0 xb70_1 => ?_, fun x69 x71 x74 x75 x76 x83 x84 x85 x86 x87 x88 xb68_0 xb68_1 xb70_0 xb70_1 => ?_, fun x69 x71 x74 x75 x76 xb68_0 xb68_1 xb70_0 xb70_1 => ?_, fun x74 x75 x76 x736 => ?_⟩
    · refine LeO.of (S.laws_FnBirthdaysMeet.j0.eq _ _ _ _ _ _ _ _ _ _ _ _ _ _ _ _ _ _ _ _ _ _ _) ?_
      unfold laws_FnBirthdaysMeet.j0
      exact (LeO.bind (spec_BirthdaysOf.f.br k _) (fun y1 => (LeO.bind (impl_BirthsText.f.br k _) (fun y2 => (LeO.bind (spec_BirthsText.f.br k _) (fun y3 => (ih_j1 _ _ _ _ _ _ _ _ _ _ _ _ _ _ _ _ _ _ _ _ _ _ _ _ _ _ _ _ _)))))))
    · refine LeO.of (S.laws_FnBirthdaysMeet.j1.eq _ _ _ _ _ _ _ _ _ _ _ _ _ _ _ _ _ _ _ _ _ _ _ _ _ _ _ _ _) ?_
      unfold laws_FnBirthdaysMeet.j1
      exact (LeO.ite' (fun h0 => (ih_j2 _ _ _ _ _ _ _ _ _ _ _ _ _ _ _ _ _)) (fun h0 => (LeO.bne (fun h1 => (LeO.ite' (fun h2 => (ih_j2 _ _ _ _ _ _ _ _ _ _ _ _ _ _ _ _ _)) (fun h2 => (LeO.nob (fun h3 => (LeO.ite' (fun h4 => (ih_j2 _ _ _ _ _ _ _ _ _ _ _ _ _ _ _ _ _)) (fun h4 => (LeO.bind (laws_gSame.f.br k _ _) (fun y65 => (LeO.nob (fun h5 => (LeO.ite' (fun h6 => (ih_j2 _ _ _ _ _ _ _ _ _ _ _ _ _ _ _ _ _)) (fun h6 => (LeO.bind (laws_gRows.f.br k _ _) (fun y69 => (LeO.nob (fun h7 => (LeO.ite' (fun h8 => (ih_j2 _ _ _ _ _ _ _ _ _ _ _ _ _ _ _ _ _)) (fun h8 => (LeO.ite' (fun h9 => (ih_j2 _ _ _ _ _ _ _ _ _ _ _ _ _ _ _ _ _)) (fun h9 => (LeO.bind (impl_AreBirthDates.f.br k _) (fun y75 => (LeO.ite' (fun h10 => (ih_j2 _ _ _ _ _ _ _ _ _ _ _ _ _ _ _ _ _)) (fun h10 => (LeO.bind (impl_AreBirthDates.f.br k _) (fun y78 => (LeO.bind (spec_AreBirthDates.f.br k _) (fun y79 => (LeO.ite' (fun h11 => (ih_j2 _ _ _ _ _ _ _ _ _ _ _ _ _ _ _ _ _)) (fun h11 => (LeO.ite' (fun h12 => (ih_j2 _ _ _ _ _ _ _ _ _ _ _ _ _ _ _ _ _)) (fun h12 => (LeO.ite' (fun h13 => (ih_j2 _ _ _ _ _ _ _ _ _ _ _ _ _ _ _ _ _)) (fun h13 => (LeO.ite' (fun h14 => (ih_j2 _ _ _ _ _ _ _ _ _ _ _ _ _ _ _ _ _)) (fun h14 => (ih_j2 _ _ _ _ _ _ _ _ _ _ _ _ _ _ _ _ _)))))))))))))))))))))) (fun h7 => (ih_j2 _ _ _ _ _ _ _ _ _ _ _ _ _ _ _ _ _)))))))) (fun h5 => (ih_j2 _ _ _ _ _ _ _ _ _ _ _ _ _ _ _ _ _)))))))) (fun h3 => (ih_j2 _ _ _ _ _ _ _ _ _ _ _ _ _ _ _ _ _)))))) (fun h1 => (ih_j2 _ _ _ _ _ _ _ _ _ _ _ _ _ _ _ _ _)))))
    · refine LeO.of (S.laws_FnBirthdaysMeet.j2.eq _ _ _ _ _ _ _ _ _ _ _ _ _ _ _ _ _) ?_
      unfold laws_FnBirthdaysMeet.j2
      exact (LeO.ite' (fun h0 => LeO.refl _) (fun h0 => (LeO.ite' (fun h1 => (LeO.dec (fun h2 => (ih_j3 _ _ _ _ _ _ _ _ _ _ _ _ _ _ _ _)) (fun h2 => (ih_j3 _ _ _ _ _ _ _ _ _ _ _ _ _ _ _ _)))) (fun h1 => (ih_j6 _ _ _ _ _ _ _ _ _ _)))))
    · refine LeO.of (S.laws_FnBirthdaysMeet.j3.eq _ _ _ _ _ _ _ _ _ _ _ _ _ _ _ _) ?_
      unfold laws_FnBirthdaysMeet.j3
      exact (LeO.bind (impl_GreatestGap.f.br k _ _) (fun y1 => (LeO.nob (fun h0 => (ih_j4 _ _ _ _ _ _ _ _ _ _ _ _ _ _ _ _ _ _ _)) (fun h0 => (LeO.bind (impl_GreatestGap.f.br k _ _) (fun y2 => (ih_j4 _ _ _ _ _ _ _ _ _ _ _ _ _ _ _ _ _ _ _)))))))
    · refine LeO.of (S.laws_FnBirthdaysMeet.j4.eq _ _ _ _ _ _ _ _ _ _ _ _ _ _ _ _ _ _ _) ?_
      unfold laws_FnBirthdaysMeet.j4
      exact (LeO.dec (fun h0 => (ih_j5 _ _ _ _ _ _ _ _ _ _ _ _ _ _ _)) (fun h0 => (LeO.dec (fun h1 => (ih_j5 _ _ _ _ _ _ _ _ _ _ _ _ _ _ _)) (fun h1 => (LeO.nob (fun h2 => (LeO.dec (fun h3 => (ih_j5 _ _ _ _ _ _ _ _ _ _ _ _ _ _ _)) (fun h3 => (LeO.dec (fun h4 => (ih_j5 _ _ _ _ _ _ _ _ _ _ _ _ _ _ _)) (fun h4 => (LeO.ite' (fun h5 => (ih_j5 _ _ _ _ _ _ _ _ _ _ _ _ _ _ _)) (fun h5 => (ih_j5 _ _ _ _ _ _ _ _ _ _ _ _ _ _ _)))))))) (fun h2 => (ih_j5 _ _ _ _ _ _ _ _ _ _ _ _ _ _ _)))))))
    · refine LeO.of (S.laws_FnBirthdaysMeet.j5.eq _ _ _ _ _ _ _ _ _ _ _ _ _ _ _) ?_
      unfold laws_FnBirthdaysMeet.j5
      exact (LeO.ite' (fun h0 => LeO.refl _) (fun h0 => (LeO.dec (fun h1 => (LeO.bne (fun h2 => (ih_j6 _ _ _ _ _ _ _ _ _ _)) (fun h2 => (LeO.bne (fun h3 => (ih_j6 _ _ _ _ _ _ _ _ _ _)) (fun h3 => (LeO.bne (fun h4 => (ih_j6 _ _ _ _ _ _ _ _ _ _)) (fun h4 => LeO.refl _))))))) (fun h1 => (ih_j6 _ _ _ _ _ _ _ _ _ _)))))
    · refine LeO.of (S.laws_FnBirthdaysMeet.j6.eq _ _ _ _ _ _ _ _ _ _) ?_
      unfold laws_FnBirthdaysMeet.j6
      exact (LeO.ite' (fun h0 => (LeO.bind (impl_SumOfAgesOn.f.br k _ _) (fun y1 => (LeO.bind (impl_AddDays.f.br k _ _) (fun y2 => (LeO.nob (fun h1 => (ih_j7 _ _ _ _ _ _ _ _ _ _ _)) (fun h1 => (ih_j7 _ _ _ _ _ _ _ _ _ _ _)))))))) (fun h0 => (ih_j8 _ _ _ _ _ _)))
    · refine LeO.of (S.laws_FnBirthdaysMeet.j7.eq _ _ _ _ _ _ _ _ _ _ _) ?_
      unfold laws_FnBirthdaysMeet.j7
      exact (LeO.ite' (fun h0 => LeO.refl _) (fun h0 => (LeO.ite' (fun h1 => (LeO.bind (impl_SumOfAgesOn.f.br k _ _) (fun y1 => (LeO.ite' (fun h2 => (LeO.dec (fun h3 => LeO.refl _) (fun h3 => (ih_j8 _ _ _ _ _ _)))) (fun h2 => (ih_j8 _ _ _ _ _ _)))))) (fun h1 => (ih_j8 _ _ _ _ _ _)))))
    · refine LeO.of (S.laws_FnBirthdaysMeet.j8.eq _ _ _ _ _ _) ?_
      unfold laws_FnBirthdaysMeet.j8
      exact (LeO.ite' (fun h0 => (LeO.bind (impl_ParseBirths.f.br k _) (fun y1 => (ih_j9 _ _ _ _ _ _)))) (fun h0 => (ih_j12 _)))
    · refine LeO.of (S.laws_FnBirthdaysMeet.j9.eq _ _ _ _ _ _) ?_
      unfold laws_FnBirthdaysMeet.j9
      exact (LeO.bne (fun h0 => (LeO.nob (fun h1 => (LeO.bind (laws_gDates.f.br k _ _) (fun y38 => (ih_j10 _ _ _ _ _)))) (fun h1 => (ih_j10 _ _ _ _ _)))) (fun h0 => (ih_j10 _ _ _ _ _)))
    · refine LeO.of (S.laws_FnBirthdaysMeet.j10.eq _ _ _ _ _) ?_
      unfold laws_FnBirthdaysMeet.j10
      exact (LeO.ite' (fun h0 => LeO.refl _) (fun h0 => (ih_l0 _ _ _ _ _)))
    · refine LeO.of (S.laws_FnBirthdaysMeet.l0.eq _ _ _ _ _) ?_
      unfold laws_FnBirthdaysMeet.l0
      exact (LeO.dec (fun h0 => (LeO.tst fun h1 => (LeO.tst fun h2 => (LeO.rdI h1 h2 (LeO.tst fun h3 => (LeO.tst fun h4 => (LeO.rdI h3 h4 (LeO.tst fun h5 => (LeO.rdI h5 h0 (LeO.tst fun h6 => (LeO.tst fun h7 => (LeO.rdI h6 h7 (LeO.dec (fun h8 => LeO.refl _) (fun h8 => (LeO.beq (fun h9 => (LeO.dec (fun h10 => LeO.refl _) (fun h10 => (LeO.ite' (fun h11 => (LeO.rdI h1 h2 (LeO.rdI h5 h0 (LeO.dec (fun h12 => LeO.refl _) (fun h12 => (ih_l0 _ _ _ _ _)))))) (fun h11 => (ih_l0 _ _ _ _ _)))))) (fun h9 => (LeO.ite' (fun h10 => (LeO.rdI h1 h2 (LeO.rdI h5 h0 (LeO.dec (fun h11 => LeO.refl _) (fun h11 => (ih_l0 _ _ _ _ _)))))) (fun h10 => (ih_l0 _ _ _ _ _))))))))))))))))))) (fun h0 => (ih_l1 _ _ _ _ _ _)))
    · refine LeO.of (S.laws_FnBirthdaysMeet.l1.eq _ _ _ _ _ _) ?_
      unfold laws_FnBirthdaysMeet.l1
      exact (LeO.dec (fun h0 => (LeO.tst fun h1 => (LeO.tst fun h2 => (LeO.rdI h1 h2 (LeO.dec (fun h3 => (ih_j11 _ _ _ _ _ _ _ _)) (fun h3 => (LeO.dec (fun h4 => (LeO.tst fun h5 => (LeO.tst fun h6 => (LeO.rdI h5 h6 (LeO.tst fun h8 => (LeO.rdI (by decide) h8 (LeO.tst fun h9 => (LeO.rdI (by decide) h9 (LeO.dec (fun h10 => (ih_j11 _ _ _ _ _ _ _ _)) (fun h10 => (LeO.tst fun h12 => (LeO.subE (by decide) h12 (LeO.bind (laws_gRises.f.br k _) (fun y23 => (ih_j11 _ _ _ _ _ _ _ _))))))))))))))) (fun h4 => (LeO.tst fun h6 => (LeO.subE (by decide) h6 (LeO.bind (laws_gRises.f.br k _) (fun y26 => (ih_j11 _ _ _ _ _ _ _ _))))))))))))) (fun h0 => (LeO.bne (fun h1 => (ih_j12 _)) (fun h1 => LeO.refl _))))
    · refine LeO.of (S.laws_FnBirthdaysMeet.j11.eq _ _ _ _ _ _ _ _) ?_
      unfold laws_FnBirthdaysMeet.j11
      exact (LeO.ite' (fun h0 => LeO.refl _) (fun h0 => (LeO.tst fun h2 => (LeO.subE (by decide) h2 (ih_l2 _ _ _ _ _ _ _ _ _ _)))))
    · refine LeO.of (S.laws_FnBirthdaysMeet.l2.eq _ _ _ _ _ _ _ _ _ _) ?_
      unfold laws_FnBirthdaysMeet.l2
      exact (LeO.dec (fun h0 => (LeO.tst fun h1 => (LeO.tst fun h2 => (LeO.rdI h1 h2 (LeO.dec (fun h3 => LeO.refl _) (fun h3 => (LeO.dec (fun h4 => LeO.refl _) (fun h4 => (LeO.tst fun h5 => (LeO.tst fun h6 => (LeO.rdI h5 h6 (LeO.tst fun h8 => (LeO.rdI (by decide) h8 (LeO.bne (fun h9 => (ih_l2 _ _ _ _ _ _ _ _ _ _)) (fun h9 => LeO.refl _))))))))))))))) (fun h0 => (ih_l1 _ _ _ _ _ _)))
    · refine LeO.of (S.laws_FnBirthdaysMeet.j12.eq _) ?_
      unfold laws_FnBirthdaysMeet.j12
      exact (LeO.bind (spec_DrawTwiceAsOld.f.br _) (fun y1 => (LeO.bind (impl_TwiceAsOld.f.br k _ _) (fun y2 => (LeO.bind (spec_TwiceAsOld.f.br k _ _) (fun y3 => (LeO.bind (impl_GreatestGap.f.br k _ _) (fun y4 => (LeO.bind (spec_GreatestGap.f.br k _ _) (fun y5 => (ih_j13 _ _ _ _ _ _ _ _ _ _ _ _ _ _ _ _ _)))))))))))
    · refine LeO.of (S.laws_FnBirthdaysMeet.j13.eq _ _ _ _ _ _ _ _ _ _ _ _ _ _ _ _ _) ?_
      unfold laws_FnBirthdaysMeet.j13
      exact (LeO.bind (spec_DrawHalfBirthday.f.br _) (fun y1 => (LeO.bind (impl_HalfBirthday.f.br k _ _) (fun y2 => (LeO.bind (spec_HalfBirthday.f.br k _ _) (fun y3 => (LeO.bind (spec_DrawDayOfDaysOld.f.br _) (fun y4 => (LeO.bind (impl_DayOfDaysOld.f.br k _ _) (fun y5 => (LeO.bind (spec_DayOfDaysOld.f.br k _ _) (fun y6 => (LeO.bind (spec_DrawParseBirths.f.br k _) (fun y7 => (LeO.bind (impl_ParseBirths.f.br k _) (fun y8 => (LeO.bind (spec_ParseBirths.f.br k _) (fun y9 => (ih_j14 _ _ _ _ _ _ _ _ _ _ _ _ _ _ _ _ _ _ _ _ _ _ _ _ _ _ _ _ _ _ _ _ _ _ _ _ _ _ _ _)))))))))))))))))))
    · refine LeO.of (S.laws_FnBirthdaysMeet.j14.eq _ _ _ _ _ _ _ _ _ _ _ _ _ _ _ _ _ _ _ _ _ _ _ _ _ _ _ _ _ _ _ _ _ _ _ _ _ _ _ _) ?_
      unfold laws_FnBirthdaysMeet.j14
      exact (LeO.ite' (fun h0 => (ih_j15 _ _ _ _ _ _ _ _ _ _ _ _ _ _ _ _ _ _ _ _ _ _ _ _)) (fun h0 => (LeO.nob (fun h1 => (LeO.ite' (fun h2 => (ih_j15 _ _ _ _ _ _ _ _ _ _ _ _ _ _ _ _ _ _ _ _ _ _ _ _)) (fun h2 => (LeO.bne (fun h3 => (LeO.bne (fun h4 => (LeO.ite' (fun h5 => (ih_j15 _ _ _ _ _ _ _ _ _ _ _ _ _ _ _ _ _ _ _ _ _ _ _ _)) (fun h5 => (LeO.nob (fun h6 => (LeO.ite' (fun h7 => (ih_j15 _ _ _ _ _ _ _ _ _ _ _ _ _ _ _ _ _ _ _ _ _ _ _ _)) (fun h7 => (LeO.nob (fun h8 => (LeO.ite' (fun h9 => (ih_j15 _ _ _ _ _ _ _ _ _ _ _ _ _ _ _ _ _ _ _ _ _ _ _ _)) (fun h9 => (LeO.bind (laws_gDates.f.br k _ _) (fun y33 => (LeO.nob (fun h10 => (LeO.ite' (fun h11 => (ih_j15 _ _ _ _ _ _ _ _ _ _ _ _ _ _ _ _ _ _ _ _ _ _ _ _)) (fun h11 => (ih_j15 _ _ _ _ _ _ _ _ _ _ _ _ _ _ _ _ _ _ _ _ _ _ _ _)))) (fun h10 => (ih_j15 _ _ _ _ _ _ _ _ _ _ _ _ _ _ _ _ _ _ _ _ _ _ _ _)))))))) (fun h8 => (ih_j15 _ _ _ _ _ _ _ _ _ _ _ _ _ _ _ _ _ _ _ _ _ _ _ _)))))) (fun h6 => (ih_j15 _ _ _ _ _ _ _ _ _ _ _ _ _ _ _ _ _ _ _ _ _ _ _ _)))))) (fun h4 => (ih_j15 _ _ _ _ _ _ _ _ _ _ _ _ _ _ _ _ _ _ _ _ _ _ _ _)))) (fun h3 => (ih_j15 _ _ _ _ _ _ _ _ _ _ _ _ _ _ _ _ _ _ _ _ _ _ _ _)))))) (fun h1 => (ih_j15 _ _ _ _ _ _ _ _ _ _ _ _ _ _ _ _ _ _ _ _ _ _ _ _)))))
    · refine LeO.of (S.laws_FnBirthdaysMeet.j15.eq _ _ _ _ _ _ _ _ _ _ _ _ _ _ _ _ _ _ _ _ _ _ _ _) ?_
      unfold laws_FnBirthdaysMeet.j15
      exact (LeO.ite' (fun h0 => LeO.refl _) (fun h0 => (LeO.ite' (fun h1 => (LeO.bind (impl_DaysOld.f.br k _ _) (fun y1 => (LeO.bind (impl_DaysOld.f.br k _ _) (fun y2 => (ih_j16 _ _ _ _ _ _ _ _ _ _ _ _ _ _ _ _ _ _ _ _)))))) (fun h1 => (ih_j17 _ _ _ _ _ _ _ _ _ _ _ _ _ _ _ _)))))
    · refine LeO.of (S.laws_FnBirthdaysMeet.j16.eq _ _ _ _ _ _ _ _ _ _ _ _ _ _ _ _ _ _ _ _) ?_
      unfold laws_FnBirthdaysMeet.j16
      exact (LeO.nob (fun h0 => (LeO.nob (fun h1 => (LeO.bne (fun h2 => (LeO.dec (fun h3 => LeO.refl _) (fun h3 => (ih_j17 _ _ _ _ _ _ _ _ _ _ _ _ _ _ _ _)))) (fun h2 => LeO.refl _))) (fun h1 => LeO.refl _))) (fun h0 => LeO.refl _))
    · refine LeO.of (S.laws_FnBirthdaysMeet.j17.eq _ _ _ _ _ _ _ _ _ _ _ _ _ _ _ _) ?_
      unfold laws_FnBirthdaysMeet.j17
      exact (LeO.ite' (fun h0 => (LeO.bind (impl_DaysOld.f.br k _ _) (fun y1 => (LeO.bind (impl_DaysApart.f.br k _ _) (fun y2 => (LeO.bind (impl_DaysOld.f.br k _ _) (fun y3 => (ih_j18 _ _ _ _ _ _ _ _ _ _ _ _ _ _ _)))))))) (fun h0 => (ih_j19 _ _ _ _ _ _ _ _ _)))
    · refine LeO.of (S.laws_FnBirthdaysMeet.j18.eq _ _ _ _ _ _ _ _ _ _ _ _ _ _ _) ?_
      unfold laws_FnBirthdaysMeet.j18
      exact (LeO.nob (fun h0 => (LeO.bne (fun h1 => (LeO.nob (fun h2 => (LeO.nob (fun h3 => (LeO.dec (fun h4 => LeO.refl _) (fun h4 => (LeO.bne (fun h5 => (LeO.dec (fun h6 => (LeO.dec (fun h7 => LeO.refl _) (fun h7 => (ih_j19 _ _ _ _ _ _ _ _ _)))) (fun h6 => (ih_j19 _ _ _ _ _ _ _ _ _)))) (fun h5 => LeO.refl _))))) (fun h3 => LeO.refl _))) (fun h2 => LeO.refl _))) (fun h1 => LeO.refl _))) (fun h0 => LeO.refl _))
    · refine LeO.of (S.laws_FnBirthdaysMeet.j19.eq _ _ _ _ _ _ _ _ _) ?_
      unfold laws_FnBirthdaysMeet.j19
      exact (LeO.ite' (fun h0 => (LeO.bind (impl_DaysOld.f.br k _ _) (fun y1 => (LeO.nob (fun h1 => (ih_j20 _ _ _ _)) (fun h1 => (ih_j20 _ _ _ _)))))) (fun h0 => (LeO.ite' (fun h1 => (LeO.bind (impl_BirthsText.f.br k _) (fun y6 => (LeO.ite' (fun h2 => LeO.refl _) (fun h2 => LeO.refl _))))) (fun h1 => LeO.refl _))))
    · refine LeO.of (S.laws_FnBirthdaysMeet.j20.eq _ _ _ _) ?_
      unfold laws_FnBirthdaysMeet.j20
      exact (LeO.ite' (fun h0 => LeO.refl _) (fun h0 => (LeO.ite' (fun h1 => (LeO.bind (impl_BirthsText.f.br k _) (fun y1 => (LeO.ite' (fun h2 => LeO.refl _) (fun h2 => LeO.refl _))))) (fun h1 => LeO.refl _))))
theorem laws_FnBirthdaysMeet.f.br (k : Nat) (x0 : List Int) (x1 : List Int) : LeO (laws_FnBirthdaysMeet.f k x0 x1) (S.laws_FnBirthdaysMeet.f x0 x1) := by
  refine LeO.of (S.laws_FnBirthdaysMeet.f.eq _ _) ?_
  unfold laws_FnBirthdaysMeet.f
  have ih_j0 := (laws_FnBirthdaysMeet.br_l k).1
  exact (LeO.bind (laws_big.f.br _ _) (fun y1 => (LeO.ite' (fun h0 => LeO.refl _) (fun h0 => (LeO.bind (spec_DrawDaysAlike.f.br _) (fun y2 => (LeO.bind (impl_DaysAlike.f.br k _ _ _) (fun y3 => (LeO.bind (spec_DaysAlike.f.br k _ _ _) (fun y4 => (LeO.bind (spec_DrawFirstSumOn.f.br k _) (fun y5 => (LeO.bind (impl_FirstSumOn.f.br k _ _) (fun y6 => (LeO.bind (spec_FirstSumOn.f.br k _ _) (fun y7 => (LeO.bind (impl_OlderOf.f.br k _) (fun y8 => (LeO.bind (spec_OlderOf.f.br k _) (fun y9 => (LeO.bind (impl_BirthdaysOf.f.br k _) (fun y10 => (ih_j0 _ _ _ _ _ _ _ _ _ _ _ _ _ _ _ _ _ _ _ _ _ _ _)))))))))))))))))))))))
end
end Go.Proofs.YtobblofdkpljfaaGreatDoor.Y
